/- For all programs: the items of a program's code are the codes of its instructions, and of two programs, one after the other, the items are those of each. The row lists variables of Go's library with what the program's text lays in them (strconv's two errors and its table of powers of ten, math/bits' and utf8's tables); the card ties them. -/
import Derived.Test.YtfckjfoalpkpjaaGreatDoorT0
import Derived.Test.YtfckjfoalpkpjaaGreatDoorH0
import Derived.Test.YtfckjfoalpkpjaaGreatDoorUA
import Derived.Test.YtfckjfoalpkpjaaGreatDoorUB
import Derived.Test.YtfckjfoalpkpjaaGreatDoorUC
import Derived.Test.YtfckjfoalpkpjaaGreatDoorH3
import Derived.Test.YtfckjfoalpkpjaaGreatDoorH6
section
namespace Go.Proofs.YtfckjfoalpkpjaaGreatDoor.C
open Go.RowKit Go.Proofs.YtfckjfoalpkpjaaGreatDoorW.PrintWords Go.Proofs.YtfckjfoalpkpjaaGreatDoorW.PrintLast Go.Proofs.YtfckjfoalpkpjaaGreatDoorW.PrintMore
attribute [local go_sem] max2_int min2_int max_two min_two max_three min_three max_four min_four
set_option linter.unusedVariables false
set_option linter.unusedSimpArgs false

/-! ### narcissuslaw02_CodeParts: function 5 -/
mutual
def narcissuslaw02_CodeParts.j0 : Nat → List (S42) → List (S42) → Bool → Option (Bool)
 | 0, _, _, _ => none
 | k + 1, x0, x1, x26 => if x26 = true then ((narcissuslaw02_awake.f k).bind fun t3 => (some t3)) else ((narcissusref02_Twin.f x0).bind fun t4 => (if t4.length + x1.length < 2932031007402 then ((some (t4 ++ x1 : List (S42))).bind fun y7 => ((narcissusref02_Twin.f x0).bind fun t10 => ((code_Code.f k t10).bind fun bt13 => ((narcissusref02_Twin.f x1).bind fun t15 => ((code_Code.f k t15).bind fun bt18 => ((code_Code.f k y7).bind fun bt20 => (if bt13.2 = 0 then (if bt18.2 = 0 then (narcissuslaw02_CodeParts.j1 k x0 x1 y7 bt13.1 bt13.2 bt18.1 bt18.2 bt20.1 bt20.2 (bt20.2 != 0)) else (narcissuslaw02_CodeParts.j1 k x0 x1 y7 bt13.1 bt13.2 bt18.1 bt18.2 bt20.1 bt20.2 true)) else (narcissuslaw02_CodeParts.j1 k x0 x1 y7 bt13.1 bt13.2 bt18.1 bt18.2 bt20.1 bt20.2 true)))))))) else (none)))
def narcissuslaw02_CodeParts.j1 : Nat → List (S42) → List (S42) → List (S42) → ByteArray → Int → ByteArray → Int → ByteArray → Int → Bool → Option (Bool)
 | 0, _, _, _, _, _, _, _, _, _, _ => none
 | k + 1, x0, x1, x5, x6, x7, x8, x9, x10, x11, x58 => if x58 = true then (if x7 = 0 then (if x9 = 0 then (if x11 = 0 then ((narcissuslaw02_awake.f k).bind fun t22 => (some t22)) else (if x11 = 3 then ((narcissuslaw02_awake.f k).bind fun t23 => (some t23)) else (if x11 = 1 then ((narcissusref02_Valid.f k x5).bind fun t24 => (if t24 = true then (some false) else ((narcissuslaw02_awake.f k).bind fun t25 => (some t25)))) else (some false)))) else (if x9 = 3 then (if x11 = 0 then ((narcissuslaw02_awake.f k).bind fun t26 => (some t26)) else (if x11 = 3 then ((narcissuslaw02_awake.f k).bind fun t27 => (some t27)) else (if x11 = 1 then ((narcissusref02_Valid.f k x5).bind fun t28 => (if t28 = true then (some false) else ((narcissuslaw02_awake.f k).bind fun t29 => (some t29)))) else (some false)))) else (some false))) else (if x7 = 3 then (if x9 = 0 then (if x11 = 0 then ((narcissuslaw02_awake.f k).bind fun t30 => (some t30)) else (if x11 = 3 then ((narcissuslaw02_awake.f k).bind fun t31 => (some t31)) else (if x11 = 1 then ((narcissusref02_Valid.f k x5).bind fun t32 => (if t32 = true then (some false) else ((narcissuslaw02_awake.f k).bind fun t33 => (some t33)))) else (some false)))) else (if x9 = 3 then (if x11 = 0 then ((narcissuslaw02_awake.f k).bind fun t34 => (some t34)) else (if x11 = 3 then ((narcissuslaw02_awake.f k).bind fun t35 => (some t35)) else (if x11 = 1 then ((narcissusref02_Valid.f k x5).bind fun t36 => (if t36 = true then (some false) else ((narcissuslaw02_awake.f k).bind fun t37 => (some t37)))) else (some false)))) else (some false))) else (some false))) else ((tree_Items.f k x6).bind fun bt38 => ((tree_Items.f k x8).bind fun bt42 => ((tree_Items.f k x10).bind fun bt46 => (if bt38.2 = 0 then (if bt42.2 = 0 then (if bt46.2 = 0 then (if (bt38.1.length : Int) = (x0.length : Int) then (if (bt42.1.length : Int) = (x1.length : Int) then ((some (([] : List ByteArray) : List ByteArray)).bind fun y50 => (if y50.length + bt38.1.length < 8796093022208 then ((some (y50 ++ bt38.1 : List ByteArray)).bind fun y53 => (if y53.length + bt42.1.length < 8796093022208 then ((narcissusref01_Same.f k bt46.1 (y53 ++ bt42.1)).bind fun t59 => (narcissuslaw02_CodeParts.j2 k x0 bt38.1 (!t59))) else (none))) else (none))) else (narcissuslaw02_CodeParts.j2 k x0 bt38.1 true)) else (narcissuslaw02_CodeParts.j2 k x0 bt38.1 true)) else (narcissuslaw02_CodeParts.j2 k x0 bt38.1 true)) else (narcissuslaw02_CodeParts.j2 k x0 bt38.1 true)) else (narcissuslaw02_CodeParts.j2 k x0 bt38.1 true)))))
def narcissuslaw02_CodeParts.j2 : Nat → List (S42) → List ByteArray → Bool → Option (Bool)
 | 0, _, _, _ => none
 | k + 1, x0, x12, x141 => if x141 = true then (some false) else (narcissuslaw02_CodeParts.l0 k x0 x12 0)
def narcissuslaw02_CodeParts.l0 : Nat → List (S42) → List ByteArray → Int → Option (Bool)
 | 0, _, _, _ => none
 | k + 1, x0, x12, x18 => if x18 < (x0.length : Int) then (if 0 ≤ x18 then (if x18 < (x12.length : Int) then ((narcissusref02_CodeOf.f k ((rd_T42 x0 x18).f0) ((rd_T42 x0 x18).f1) ((rd_T42 x0 x18).f2) ((rd_T42 x0 x18).f3) ((rd_T42 x0 x18).f4)).bind fun t62 => (if (rdOf ByteArray.empty x12 x18).toList = t62.toList then (narcissuslaw02_CodeParts.l0 k x0 x12 (wrap64 (x18 + 1))) else (some false))) else (none)) else (none)) else ((narcissuslaw02_awake.f k).bind fun t63 => (some t63))
end
def narcissuslaw02_CodeParts.f (k : Nat) (l0 : List (S42)) (l1 : List (S42)) : Option (Bool) := (narcissusref02_Valid.f k l0).bind fun t1 => (if t1 = true then ((narcissusref02_Valid.f k l1).bind fun t2 => (narcissuslaw02_CodeParts.j0 k l0 l1 (!t2))) else (narcissuslaw02_CodeParts.j0 k l0 l1 true))
theorem narcissuslaw02_CodeParts.mono_l : ∀ k, (∀ y0 y1 y2, LeO (narcissuslaw02_CodeParts.j0 k y0 y1 y2) (narcissuslaw02_CodeParts.j0 (k + 1) y0 y1 y2)) ∧ (∀ y0 y1 y2 y3 y4 y5 y6 y7 y8 y9, LeO (narcissuslaw02_CodeParts.j1 k y0 y1 y2 y3 y4 y5 y6 y7 y8 y9) (narcissuslaw02_CodeParts.j1 (k + 1) y0 y1 y2 y3 y4 y5 y6 y7 y8 y9)) ∧ (∀ y0 y1 y2, LeO (narcissuslaw02_CodeParts.j2 k y0 y1 y2) (narcissuslaw02_CodeParts.j2 (k + 1) y0 y1 y2)) ∧ (∀ y0 y1 y2, LeO (narcissuslaw02_CodeParts.l0 k y0 y1 y2) (narcissuslaw02_CodeParts.l0 (k + 1) y0 y1 y2))
 | 0 => ⟨fun _ _ _ r h => by simp [narcissuslaw02_CodeParts.j0] at h, fun _ _ _ _ _ _ _ _ _ _ r h => by simp [narcissuslaw02_CodeParts.j1] at h, fun _ _ _ r h => by simp [narcissuslaw02_CodeParts.j2] at h, fun _ _ _ r h => by simp [narcissuslaw02_CodeParts.l0] at h⟩
 | k + 1 => by
  obtain ⟨ih0, ih1, ih2, ih3⟩ := narcissuslaw02_CodeParts.mono_l k
  refine ⟨?_, ?_, ?_, ?_⟩
  ·intro y0 y1 y2
   unfold narcissuslaw02_CodeParts.j0
   repeat' first
   | (with_reducible exact ih0 _ _ _)
   | (with_reducible exact ih1 _ _ _ _ _ _ _ _ _ _)
   | (with_reducible exact ih2 _ _ _)
   | (with_reducible exact ih3 _ _ _)
   | (with_reducible exact code_Code.mono _ _)
   | (with_reducible exact narcissuslaw02_awake.mono _)
   | (with_reducible exact narcissusref01_Same.mono _ _ _)
   | (with_reducible exact narcissusref02_CodeOf.mono _ _ _ _ _ _)
   | (with_reducible exact narcissusref02_Valid.mono _ _)
   | (with_reducible exact tree_Items.mono _ _)
   | (with_reducible exact LeO.refl _)
   | (with_reducible exact LeO.none _)
   | (with_reducible refine LeO.ite ?_ ?_)
   | (with_reducible refine LeO.bind ?_ (fun _ => ?_))
   | exact ih0 _ _ _
   | exact ih1 _ _ _ _ _ _ _ _ _ _
   | exact ih2 _ _ _
   | exact ih3 _ _ _
   | exact code_Code.mono _ _
   | exact narcissuslaw02_awake.mono _
   | exact narcissusref01_Same.mono _ _ _
   | exact narcissusref02_CodeOf.mono _ _ _ _ _ _
   | exact narcissusref02_Valid.mono _ _
   | exact tree_Items.mono _ _
   | exact LeO.none _
   | refine LeO.ite ?_ ?_
   | refine LeO.bind ?_ (fun _ => ?_)
  ·intro y0 y1 y2 y3 y4 y5 y6 y7 y8 y9
   unfold narcissuslaw02_CodeParts.j1
   repeat' first
   | (with_reducible exact ih0 _ _ _)
   | (with_reducible exact ih1 _ _ _ _ _ _ _ _ _ _)
   | (with_reducible exact ih2 _ _ _)
   | (with_reducible exact ih3 _ _ _)
   | (with_reducible exact code_Code.mono _ _)
   | (with_reducible exact narcissuslaw02_awake.mono _)
   | (with_reducible exact narcissusref01_Same.mono _ _ _)
   | (with_reducible exact narcissusref02_CodeOf.mono _ _ _ _ _ _)
   | (with_reducible exact narcissusref02_Valid.mono _ _)
   | (with_reducible exact tree_Items.mono _ _)
   | (with_reducible exact LeO.refl _)
   | (with_reducible exact LeO.none _)
   | (with_reducible refine LeO.ite ?_ ?_)
   | (with_reducible refine LeO.bind ?_ (fun _ => ?_))
   | exact ih0 _ _ _
   | exact ih1 _ _ _ _ _ _ _ _ _ _
   | exact ih2 _ _ _
   | exact ih3 _ _ _
   | exact code_Code.mono _ _
   | exact narcissuslaw02_awake.mono _
   | exact narcissusref01_Same.mono _ _ _
   | exact narcissusref02_CodeOf.mono _ _ _ _ _ _
   | exact narcissusref02_Valid.mono _ _
   | exact tree_Items.mono _ _
   | exact LeO.none _
   | refine LeO.ite ?_ ?_
   | refine LeO.bind ?_ (fun _ => ?_)
  ·intro y0 y1 y2
   unfold narcissuslaw02_CodeParts.j2
   repeat' first
   | (with_reducible exact ih0 _ _ _)
   | (with_reducible exact ih1 _ _ _ _ _ _ _ _ _ _)
   | (with_reducible exact ih2 _ _ _)
   | (with_reducible exact ih3 _ _ _)
   | (with_reducible exact code_Code.mono _ _)
   | (with_reducible exact narcissuslaw02_awake.mono _)
   | (with_reducible exact narcissusref01_Same.mono _ _ _)
   | (with_reducible exact narcissusref02_CodeOf.mono _ _ _ _ _ _)
   | (with_reducible exact narcissusref02_Valid.mono _ _)
   | (with_reducible exact tree_Items.mono _ _)
   | (with_reducible exact LeO.refl _)
   | (with_reducible exact LeO.none _)
   | (with_reducible refine LeO.ite ?_ ?_)
   | (with_reducible refine LeO.bind ?_ (fun _ => ?_))
   | exact ih0 _ _ _
   | exact ih1 _ _ _ _ _ _ _ _ _ _
   | exact ih2 _ _ _
   | exact ih3 _ _ _
   | exact code_Code.mono _ _
   | exact narcissuslaw02_awake.mono _
   | exact narcissusref01_Same.mono _ _ _
   | exact narcissusref02_CodeOf.mono _ _ _ _ _ _
   | exact narcissusref02_Valid.mono _ _
   | exact tree_Items.mono _ _
   | exact LeO.none _
   | refine LeO.ite ?_ ?_
   | refine LeO.bind ?_ (fun _ => ?_)
  ·intro y0 y1 y2
   unfold narcissuslaw02_CodeParts.l0
   repeat' first
   | (with_reducible exact ih0 _ _ _)
   | (with_reducible exact ih1 _ _ _ _ _ _ _ _ _ _)
   | (with_reducible exact ih2 _ _ _)
   | (with_reducible exact ih3 _ _ _)
   | (with_reducible exact code_Code.mono _ _)
   | (with_reducible exact narcissuslaw02_awake.mono _)
   | (with_reducible exact narcissusref01_Same.mono _ _ _)
   | (with_reducible exact narcissusref02_CodeOf.mono _ _ _ _ _ _)
   | (with_reducible exact narcissusref02_Valid.mono _ _)
   | (with_reducible exact tree_Items.mono _ _)
   | (with_reducible exact LeO.refl _)
   | (with_reducible exact LeO.none _)
   | (with_reducible refine LeO.ite ?_ ?_)
   | (with_reducible refine LeO.bind ?_ (fun _ => ?_))
   | exact ih0 _ _ _
   | exact ih1 _ _ _ _ _ _ _ _ _ _
   | exact ih2 _ _ _
   | exact ih3 _ _ _
   | exact code_Code.mono _ _
   | exact narcissuslaw02_awake.mono _
   | exact narcissusref01_Same.mono _ _ _
   | exact narcissusref02_CodeOf.mono _ _ _ _ _ _
   | exact narcissusref02_Valid.mono _ _
   | exact tree_Items.mono _ _
   | exact LeO.none _
   | refine LeO.ite ?_ ?_
   | refine LeO.bind ?_ (fun _ => ?_)
theorem narcissuslaw02_CodeParts.mono : ∀ a0 a1 k, LeO (narcissuslaw02_CodeParts.f k a0 a1) (narcissuslaw02_CodeParts.f (k + 1) a0 a1) := by
 intro a0 a1 k
 obtain ⟨ih0, ih1, ih2, ih3⟩ := narcissuslaw02_CodeParts.mono_l k
 unfold narcissuslaw02_CodeParts.f
 repeat' first
   | (with_reducible exact ih0 _ _ _)
   | (with_reducible exact ih1 _ _ _ _ _ _ _ _ _ _)
   | (with_reducible exact ih2 _ _ _)
   | (with_reducible exact ih3 _ _ _)
   | (with_reducible exact code_Code.mono _ _)
   | (with_reducible exact narcissuslaw02_awake.mono _)
   | (with_reducible exact narcissusref01_Same.mono _ _ _)
   | (with_reducible exact narcissusref02_CodeOf.mono _ _ _ _ _ _)
   | (with_reducible exact narcissusref02_Valid.mono _ _)
   | (with_reducible exact tree_Items.mono _ _)
   | (with_reducible exact LeO.refl _)
   | (with_reducible exact LeO.none _)
   | (with_reducible refine LeO.ite ?_ ?_)
   | (with_reducible refine LeO.bind ?_ (fun _ => ?_))
   | exact ih0 _ _ _
   | exact ih1 _ _ _ _ _ _ _ _ _ _
   | exact ih2 _ _ _
   | exact ih3 _ _ _
   | exact code_Code.mono _ _
   | exact narcissuslaw02_awake.mono _
   | exact narcissusref01_Same.mono _ _ _
   | exact narcissusref02_CodeOf.mono _ _ _ _ _ _
   | exact narcissusref02_Valid.mono _ _
   | exact tree_Items.mono _ _
   | exact LeO.none _
   | refine LeO.ite ?_ ?_
   | refine LeO.bind ?_ (fun _ => ?_)
def narcissuslaw02_CodeParts.T17 : Bool × List (List Nat × List Nat) := (true, [([], []), ([], []), ([0, 1], [0, 1]), ([2], [2]), ([], []), ([], []), ([4, 5], [4, 5]), ([6], [6]), ([7], [7]), ([3, 8], [3, 8])])
def narcissuslaw02_CodeParts.B17 : List Nat := [0, 0, 3, 7, 0, 0, 48, 112, 240, 511]
theorem narcissuslaw02_CodeParts.tab17 : rtab .any (opsOf Tryz.f5 17) = narcissuslaw02_CodeParts.T17 := by kernel_rfl
theorem narcissuslaw02_CodeParts.bits17 : waitsOk narcissuslaw02_CodeParts.T17.2 narcissuslaw02_CodeParts.B17 = true := by kernel_rfl
set_option maxHeartbeats 8000000 in
set_option maxRecDepth 100000 in
theorem narcissuslaw02_CodeParts.calls (k : Nat) (A0 : Option Addr) (c0 : Nat) (l0 : List (S42)) (A1 : Option Addr) (c1 : Nat) (l1 : List (S42)) (r : Bool) (w : World) (hr0 : Kd.C k42 w A0 l0.length l0) (hc0 : l0.length ≤ c0) (hr1 : Kd.C k42 w A1 l1.length l1) (hc1 : l1.length ≤ c1) (hL : LaidW w) (h : narcissuslaw02_CodeParts.f k l0 l1 = some r) :
  Calls Tryz.prog 5 #[.slice A0 l0.length c0, .slice A1 l1.length c1] w fun e w' => e = .returned (.bool r) ∧ Below w.heap.size w w' := by
 have hu42 := Tryz.underlying42
 have HLD := Aside0.mk hL
 clear hL
 have HR0 := Aside0.mk hr0
 have HC0 := Aside0.mk hc0
 clear hr0 hc0
 have HR1 := Aside0.mk hr1
 have HC1 := Aside0.mk hc1
 clear hr1 hc1
 have HB := Aside0.mk (Below.refl w.heap.size w)
 have H : ((narcissusref02_Valid.f k l0).bind fun t1 => (if t1 = true then ((narcissusref02_Valid.f k l1).bind fun t2 => (narcissuslaw02_CodeParts.j0 k l0 l1 (!t2))) else (narcissuslaw02_CodeParts.j0 k l0 l1 true))) = some r := h
 clear h
 have HC3 := Aside0.mk H
 clear H
 go_enter Tryz.func5, Tryz.ntmps5
 go_upto_region 1 with (fail)
 go_cut [26] (fun v26 wc => ∃ (kq : Nat) (x26_2 : Bool), v26 = .bool x26_2 ∧ Aside0 (narcissuslaw02_CodeParts.j0 kq l0 l1 x26_2 = some r) ∧ Aside0 (kq ≤ k) ∧ Aside0 (Below w.heap.size w wc))
 case first =>
  have H := HC3.out
  clear HC3
  replace H := Option.bind_eq_some_iff.mp H
  obtain ⟨t1, A40, H⟩ := H
  replace H : (if t1 = true then ((narcissusref02_Valid.f k l1).bind fun t2 => (narcissuslaw02_CodeParts.j0 k l0 l1 (!t2))) else (narcissuslaw02_CodeParts.j0 k l0 l1 true)) = some r := H
  have A4 := Aside0.mk A40
  clear A40
  by_cases c5 : t1 = true
  ·subst c5
   have H1 : ((narcissusref02_Valid.f k l1).bind fun t2 => (narcissuslaw02_CodeParts.j0 k l0 l1 (!t2))) = some r := by rw [if_pos rfl] at H; exact H
   clear H
   have H := H1
   clear H1
   replace H := Option.bind_eq_some_iff.mp H
   obtain ⟨t2, A60, H⟩ := H
   replace H : (narcissuslaw02_CodeParts.j0 k l0 l1 (!t2)) = some r := H
   have A6 := Aside0.mk A60
   clear A60
   have H' := Aside0.mk H
   clear H
   go_wp2_with (first | ((with_reducible refine gate_callee (f := 15) rfl ?_); refine goesL_ (some 20) rfl rfl Tryz.func15 (by kernel_rfl) rfl #[.slice A0 l0.length c0] rfl (by (try simp only [List.map_toArray, List.map_cons, List.map_nil]); first | done | rfl | (simp only [List.length_drop, List.length_take]; rfl)) ?_; (with_reducible refine (narcissusref02_Valid.calls k _ _ l0 true _ ?side1 ?side2 A4.out).mono ?_); (case side1 => repeat (first | exact (Kd.C_below HR0.out HB.out) | (with_reducible refine Kd.C_alloc ?_ _) | (with_reducible refine Kd.C_drewN ?_ _) | (with_reducible refine Kd.C_drew ?_))); (case side2 => exact HC0.out); rintro e w7 ⟨rfl, hb⟩; refine ⟨_, rfl, ?_⟩; have n0_ := Aside0.mk (below_step (by repeat (first | (with_reducible first | exact HB.out | apply below_alloc | apply pw_below_drewN | apply below_drew1) | exact HB.out)) hb); clear HB; have HB := n0_; clear n0_; (try clear hb); (try clear hb2); (try clear hk); (try clear hi)) | (go_at_call 15; (with_reducible refine (narcissusref02_Valid.calls k _ _ l1 t2 _ ?side1 ?side2 A6.out).mono ?_); (case side1 => repeat (first | exact (Kd.C_below HR1.out HB.out) | (with_reducible refine Kd.C_alloc ?_ _) | (with_reducible refine Kd.C_drewN ?_ _) | (with_reducible refine Kd.C_drew ?_))); (case side2 => exact HC1.out); rintro e w8 ⟨rfl, hb⟩; have n0_ := Aside0.mk (below_step (by repeat (first | (with_reducible first | exact HB.out | apply below_alloc | apply pw_below_drewN | apply below_drew1) | exact HB.out)) hb); clear HB; have HB := n0_; clear n0_; (try clear hb); (try clear hb2); (try clear hk); (try clear hi)))
   go_meet
   case rel => exact ⟨_, (!t2), (by first | rfl | (simp; done) | (simp [*]; done)), H', ⟨by first | omega | exact Nat.le_refl _⟩, ⟨by repeat (first | (with_reducible first | exact HB.out | apply below_alloc | apply pw_below_drewN | apply below_drew1) | exact HB.out)⟩⟩
  ·replace c5 := Bool.eq_false_iff.mpr c5
   subst c5
   have H1 : (narcissuslaw02_CodeParts.j0 k l0 l1 true) = some r := by rw [if_neg (show ¬ (false = true) by decide)] at H; exact H
   clear H
   have H := H1
   clear H1
   have H' := Aside0.mk H
   clear H
   go_wp2_with (first | ((with_reducible refine gate_callee (f := 15) rfl ?_); refine goesL_ (some 20) rfl rfl Tryz.func15 (by kernel_rfl) rfl #[.slice A0 l0.length c0] rfl (by (try simp only [List.map_toArray, List.map_cons, List.map_nil]); first | done | rfl | (simp only [List.length_drop, List.length_take]; rfl)) ?_; (with_reducible refine (narcissusref02_Valid.calls k _ _ l0 false _ ?side1 ?side2 A4.out).mono ?_); (case side1 => repeat (first | exact (Kd.C_below HR0.out HB.out) | (with_reducible refine Kd.C_alloc ?_ _) | (with_reducible refine Kd.C_drewN ?_ _) | (with_reducible refine Kd.C_drew ?_))); (case side2 => exact HC0.out); rintro e w9 ⟨rfl, hb⟩; refine ⟨_, rfl, ?_⟩; have n0_ := Aside0.mk (below_step (by repeat (first | (with_reducible first | exact HB.out | apply below_alloc | apply pw_below_drewN | apply below_drew1) | exact HB.out)) hb); clear HB; have HB := n0_; clear n0_; (try clear hb); (try clear hb2); (try clear hk); (try clear hi)))
   go_meet
   case rel => exact ⟨_, (true), (by first | rfl | (simp; done) | (simp [*]; done)), H', ⟨by first | omega | exact Nat.le_refl _⟩, ⟨by repeat (first | (with_reducible first | exact HB.out | apply below_alloc | apply pw_below_drewN | apply below_drew1) | exact HB.out)⟩⟩
 case rest =>
  clear HC3
  try clear c1
  try clear p2
  try clear c5
  obtain ⟨kq, x26_2, rfl, HA, HJ2, HB⟩ := hcut
  cases kq with
  | zero => exact absurd HA.out (by simp [narcissuslaw02_CodeParts.j0])
  | succ kj2 =>
   have H := HA.out
   clear HA
   simp only [narcissuslaw02_CodeParts.j0] at H
   by_cases c10 : x26_2 = true
   ·subst c10
    have H1 : ((narcissuslaw02_awake.f kj2).bind fun t3 => (some t3)) = some r := by rw [if_pos rfl] at H; exact H
    clear H
    have H := H1
    clear H1
    replace H := Option.bind_eq_some_iff.mp H
    obtain ⟨t3, A110, H⟩ := H
    replace H : (some t3) = some r := H
    have A11 := Aside0.mk A110
    clear A110
    obtain rfl := Option.some.inj H
    go_wp2_with (first | ((with_reducible refine gate_callee (f := 10) rfl ?_); refine goesL_ (some 27) rfl rfl Tryz.func10 (by kernel_rfl) rfl #[] rfl (by (try simp only [List.map_toArray, List.map_cons, List.map_nil]); first | done | rfl | (simp only [List.length_drop, List.length_take]; rfl)) ?_; (with_reducible refine (narcissuslaw02_awake.calls kj2  t3 _ ?side1 A11.out).mono ?_); (case side1 => first | (refine LaidW.below HLD.out ?_; with_reducible exact HB.out) | (refine LaidW.below HLD.out ?_; with_reducible apply pw_below_drewN; with_reducible exact HB.out) | (refine LaidW.below HLD.out ?_; with_reducible apply below_alloc; with_reducible exact HB.out) | (refine LaidW.below HLD.out ?_; repeat (first | (with_reducible first | exact HB.out | apply below_alloc | apply pw_below_drewN | apply below_drew1) | exact HB.out); done) | exact HLD.out | (repeat (first | exact HLD.out | (with_reducible refine LaidW.drewN ?_ _) | (with_reducible refine LaidW.drew ?_) | (with_reducible refine LaidW.alloc ?_ _)))); rintro e w12 ⟨rfl, hb⟩; refine ⟨_, rfl, ?_⟩; have n0_ := Aside0.mk (below_step (by repeat (first | (with_reducible first | exact HB.out | apply below_alloc | apply pw_below_drewN | apply below_drew1) | exact HB.out)) hb); clear HB; have HB := n0_; clear n0_; (try clear hb); (try clear hb2); (try clear hk); (try clear hi)))
    go_ret
    exact ⟨by first | rfl | (simp [errW_none, errW_some] <;> rfl) | (simp [*, errW_none, errW_some] <;> rfl), by repeat (first | (with_reducible first | exact HB.out | apply below_alloc | apply pw_below_drewN | apply below_drew1) | exact HB.out)⟩
   ·replace c10 := Bool.eq_false_iff.mpr c10
    subst c10
    have H1 : ((narcissusref02_Twin.f l0).bind fun t4 => (if t4.length + l1.length < 2932031007402 then ((some (t4 ++ l1 : List (S42))).bind fun y7 => ((narcissusref02_Twin.f l0).bind fun t10 => ((code_Code.f kj2 t10).bind fun bt13 => ((narcissusref02_Twin.f l1).bind fun t15 => ((code_Code.f kj2 t15).bind fun bt18 => ((code_Code.f kj2 y7).bind fun bt20 => (if bt13.2 = 0 then (if bt18.2 = 0 then (narcissuslaw02_CodeParts.j1 kj2 l0 l1 y7 bt13.1 bt13.2 bt18.1 bt18.2 bt20.1 bt20.2 (bt20.2 != 0)) else (narcissuslaw02_CodeParts.j1 kj2 l0 l1 y7 bt13.1 bt13.2 bt18.1 bt18.2 bt20.1 bt20.2 true)) else (narcissuslaw02_CodeParts.j1 kj2 l0 l1 y7 bt13.1 bt13.2 bt18.1 bt18.2 bt20.1 bt20.2 true)))))))) else (none))) = some r := by rw [if_neg (show ¬ (false = true) by decide)] at H; exact H
    clear H
    have H := H1
    clear H1
    replace H := Option.bind_eq_some_iff.mp H
    obtain ⟨t4, A130, H⟩ := H
    replace H : (if t4.length + l1.length < 2932031007402 then ((some (t4 ++ l1 : List (S42))).bind fun y7 => ((narcissusref02_Twin.f l0).bind fun t10 => ((code_Code.f kj2 t10).bind fun bt13 => ((narcissusref02_Twin.f l1).bind fun t15 => ((code_Code.f kj2 t15).bind fun bt18 => ((code_Code.f kj2 y7).bind fun bt20 => (if bt13.2 = 0 then (if bt18.2 = 0 then (narcissuslaw02_CodeParts.j1 kj2 l0 l1 y7 bt13.1 bt13.2 bt18.1 bt18.2 bt20.1 bt20.2 (bt20.2 != 0)) else (narcissuslaw02_CodeParts.j1 kj2 l0 l1 y7 bt13.1 bt13.2 bt18.1 bt18.2 bt20.1 bt20.2 true)) else (narcissuslaw02_CodeParts.j1 kj2 l0 l1 y7 bt13.1 bt13.2 bt18.1 bt18.2 bt20.1 bt20.2 true)))))))) else (none)) = some r := H
    have A13 := Aside0.mk A130
    clear A130
    by_cases c14 : t4.length + l1.length < 2932031007402
    ·rw [if_pos c14] at H
     have LMc14 := Aside0.mk c14
     clear c14
     obtain ⟨y7, hy7⟩ : ∃ y_ : List (S42), y_ = (t4 ++ l1) := ⟨_, rfl⟩
     replace H : ((narcissusref02_Twin.f l0).bind fun t10 => ((code_Code.f kj2 t10).bind fun bt13 => ((narcissusref02_Twin.f l1).bind fun t15 => ((code_Code.f kj2 t15).bind fun bt18 => ((code_Code.f kj2 y7).bind fun bt20 => (if bt13.2 = 0 then (if bt18.2 = 0 then (narcissuslaw02_CodeParts.j1 kj2 l0 l1 y7 bt13.1 bt13.2 bt18.1 bt18.2 bt20.1 bt20.2 (bt20.2 != 0)) else (narcissuslaw02_CodeParts.j1 kj2 l0 l1 y7 bt13.1 bt13.2 bt18.1 bt18.2 bt20.1 bt20.2 true)) else (narcissuslaw02_CodeParts.j1 kj2 l0 l1 y7 bt13.1 bt13.2 bt18.1 bt18.2 bt20.1 bt20.2 true))))))) = some r := by first | (rw [hy7]; with_reducible exact H) | (have H2_ := (Option.bind_some _ _).symm.trans H; rw [hy7]; with_reducible exact H2_) | (have H2_ := (Option.bind_some _ _).symm.trans H; with_reducible exact H2_) | with_reducible exact H | (rw [hy7]; exact H) | exact H
     have Ny7 := Aside0.mk hy7
     clear hy7
     replace H := Option.bind_eq_some_iff.mp H
     obtain ⟨t10, A150, H⟩ := H
     replace H : ((code_Code.f kj2 t10).bind fun bt13 => ((narcissusref02_Twin.f l1).bind fun t15 => ((code_Code.f kj2 t15).bind fun bt18 => ((code_Code.f kj2 y7).bind fun bt20 => (if bt13.2 = 0 then (if bt18.2 = 0 then (narcissuslaw02_CodeParts.j1 kj2 l0 l1 y7 bt13.1 bt13.2 bt18.1 bt18.2 bt20.1 bt20.2 (bt20.2 != 0)) else (narcissuslaw02_CodeParts.j1 kj2 l0 l1 y7 bt13.1 bt13.2 bt18.1 bt18.2 bt20.1 bt20.2 true)) else (narcissuslaw02_CodeParts.j1 kj2 l0 l1 y7 bt13.1 bt13.2 bt18.1 bt18.2 bt20.1 bt20.2 true)))))) = some r := H
     have A15 := Aside0.mk A150
     clear A150
     replace H := Option.bind_eq_some_iff.mp H
     obtain ⟨⟨t13, t14⟩, A160, H⟩ := H
     replace H : ((narcissusref02_Twin.f l1).bind fun t15 => ((code_Code.f kj2 t15).bind fun bt18 => ((code_Code.f kj2 y7).bind fun bt20 => (if t14 = 0 then (if bt18.2 = 0 then (narcissuslaw02_CodeParts.j1 kj2 l0 l1 y7 t13 t14 bt18.1 bt18.2 bt20.1 bt20.2 (bt20.2 != 0)) else (narcissuslaw02_CodeParts.j1 kj2 l0 l1 y7 t13 t14 bt18.1 bt18.2 bt20.1 bt20.2 true)) else (narcissuslaw02_CodeParts.j1 kj2 l0 l1 y7 t13 t14 bt18.1 bt18.2 bt20.1 bt20.2 true))))) = some r := H
     have A16 := Aside0.mk A160
     clear A160
     replace H := Option.bind_eq_some_iff.mp H
     obtain ⟨t15, A170, H⟩ := H
     replace H : ((code_Code.f kj2 t15).bind fun bt18 => ((code_Code.f kj2 y7).bind fun bt20 => (if t14 = 0 then (if bt18.2 = 0 then (narcissuslaw02_CodeParts.j1 kj2 l0 l1 y7 t13 t14 bt18.1 bt18.2 bt20.1 bt20.2 (bt20.2 != 0)) else (narcissuslaw02_CodeParts.j1 kj2 l0 l1 y7 t13 t14 bt18.1 bt18.2 bt20.1 bt20.2 true)) else (narcissuslaw02_CodeParts.j1 kj2 l0 l1 y7 t13 t14 bt18.1 bt18.2 bt20.1 bt20.2 true)))) = some r := H
     have A17 := Aside0.mk A170
     clear A170
     replace H := Option.bind_eq_some_iff.mp H
     obtain ⟨⟨t18, t19⟩, A180, H⟩ := H
     replace H : ((code_Code.f kj2 y7).bind fun bt20 => (if t14 = 0 then (if t19 = 0 then (narcissuslaw02_CodeParts.j1 kj2 l0 l1 y7 t13 t14 t18 t19 bt20.1 bt20.2 (bt20.2 != 0)) else (narcissuslaw02_CodeParts.j1 kj2 l0 l1 y7 t13 t14 t18 t19 bt20.1 bt20.2 true)) else (narcissuslaw02_CodeParts.j1 kj2 l0 l1 y7 t13 t14 t18 t19 bt20.1 bt20.2 true))) = some r := H
     have A18 := Aside0.mk A180
     clear A180
     replace H := Option.bind_eq_some_iff.mp H
     obtain ⟨⟨t20, t21⟩, A190, H⟩ := H
     replace H : (if t14 = 0 then (if t19 = 0 then (narcissuslaw02_CodeParts.j1 kj2 l0 l1 y7 t13 t14 t18 t19 t20 t21 (t21 != 0)) else (narcissuslaw02_CodeParts.j1 kj2 l0 l1 y7 t13 t14 t18 t19 t20 t21 true)) else (narcissuslaw02_CodeParts.j1 kj2 l0 l1 y7 t13 t14 t18 t19 t20 t21 true)) = some r := H
     have A19 := Aside0.mk A190
     clear A190
     have HC20 := Aside0.mk H
     clear H
     go_upto_region 7 with (first | ((with_reducible refine gate_callee (f := 16) rfl ?_); refine goesL_ (some 29) rfl rfl Tryz.func16 (by kernel_rfl) rfl #[.slice A0 l0.length c0] rfl (by (try simp only [List.map_toArray, List.map_cons, List.map_nil]); first | done | rfl | (simp only [List.length_drop, List.length_take]; rfl)) ?_; (with_reducible refine (narcissusref02_Twin.calls _ _ l0 t4 _ ?side1 ?side2 A13.out).mono ?_); (case side1 => repeat (first | exact (Kd.C_below HR0.out HB.out) | (with_reducible refine Kd.C_alloc ?_ _) | (with_reducible refine Kd.C_drewN ?_ _) | (with_reducible refine Kd.C_drew ?_))); (case side2 => exact HC0.out); rintro e w21 ⟨v5, rfl, ho0, hb⟩; refine ⟨_, rfl, ?_⟩; have n0_ := Aside0.mk (Kd.R_lower ho0 (below_size (by repeat (first | (with_reducible first | exact HB.out | apply below_alloc | apply pw_below_drewN | apply below_drew1) | exact HB.out)))); have n1_ := Aside0.mk (below_step (by repeat (first | (with_reducible first | exact HB.out | apply below_alloc | apply pw_below_drewN | apply below_drew1) | exact HB.out)) hb); clear HB; have HO6 := n0_; have HB := n1_; clear n0_ n1_; (try clear hb); (try clear hb2); (try clear hk); (try clear hi); (try clear ho0)) | ((with_reducible refine gate_builtin (b := .append) (xs := #[.tmp 29, .tmp 30]) rfl ?_); (try (refine gate_guard (by rfl) ?_; dsimp only)); at_builtin; refine Kd.R_append_rows k42 (w0 := w) w.heap.size rfl (.tmp 29) (.tmp 30) 23 42 (.agg #[(.int .i64 0), (.int .i64 0), (.int .i64 0), (.int .i64 0), (.string ⟨#[]⟩)]) 48 rfl Tryz.underlying23 info42 rfl (by decide) (by omega) v5 t4 l1 _ _ _ (fun _ => True) (fun _ => False) rfl rfl ?aO ?aR (fun _ _ h => h) (fun _ h => h.elim) ?aF ?aB ?aS ?aL ?_; (case aR => repeat (first | exact (Kd.C_below HR1.out HB.out) | (with_reducible refine Kd.C_alloc ?_ _) | (with_reducible refine Kd.C_drewN ?_ _) | (with_reducible refine Kd.C_drew ?_))); (case aB => exact (by repeat (first | (with_reducible first | exact HB.out | apply below_alloc | apply pw_below_drewN | apply below_drew1) | exact HB.out))); (case aF => exact (fun _ _ => trivial)); (case aO => exact (by (with_reducible repeat (first | apply Kd.R_alloc | apply Kd.R_drewN | apply Kd.R_drew)); exact HO6.out)); (case aS => exact (below_size (by repeat (first | (with_reducible first | exact HB.out | apply below_alloc | apply pw_below_drewN | apply below_drew1) | exact HB.out)))); (case aL => have := LMc14.out; first | omega | (simp only [lit_size, List.size_toArray, List.length_cons, List.length_nil]; omega)); intro v8 w22 ho hb hg hat; rw [← Ny7.out] at ho; have n0_ := Aside0.mk (hb); have n1_ := Aside0.mk (ho); clear HB; clear HO6; have HB := n0_; have HO9 := n1_; clear n0_ n1_; clear ho hb hg hat) | ((with_reducible refine gate_callee (f := 16) rfl ?_); refine goesL_ (some 34) rfl rfl Tryz.func16 (by kernel_rfl) rfl #[.slice A0 l0.length c0] rfl (by (try simp only [List.map_toArray, List.map_cons, List.map_nil]); first | done | rfl | (simp only [List.length_drop, List.length_take]; rfl)) ?_; (with_reducible refine (narcissusref02_Twin.calls _ _ l0 t10 _ ?side1 ?side2 A15.out).mono ?_); (case side1 => repeat (first | exact (Kd.C_below HR0.out HB.out) | (with_reducible refine Kd.C_alloc ?_ _) | (with_reducible refine Kd.C_drewN ?_ _) | (with_reducible refine Kd.C_drew ?_))); (case side2 => exact HC0.out); rintro e w23 ⟨v11, rfl, ho0, hb⟩; refine ⟨_, rfl, ?_⟩; have n0_ := Aside0.mk (Kd.R_elder' (by (with_reducible repeat (first | apply Kd.R_alloc | apply Kd.R_drewN | apply Kd.R_drew)); exact HO9.out) (Kd.R_base ho0) hb); have n1_ := Aside0.mk (Kd.R_lower (Kd.R_new' ho0 (Kd.R_lt (by (with_reducible repeat (first | apply Kd.R_alloc | apply Kd.R_drewN | apply Kd.R_drew)); exact HO9.out))) (below_size (by repeat (first | (with_reducible first | exact HB.out | apply below_alloc | apply pw_below_drewN | apply below_drew1) | exact HB.out)))); have n2_ := Aside0.mk (below_step (by repeat (first | (with_reducible first | exact HB.out | apply below_alloc | apply pw_below_drewN | apply below_drew1) | exact HB.out)) hb); clear HO9; clear HB; have HO9 := n0_; have HO12 := n1_; have HB := n2_; clear n0_ n1_ n2_; (try clear hb); (try clear hb2); (try clear hk); (try clear hi); (try clear ho0); obtain ⟨Ao24, co24, eo24⟩ := Kd.R_slice HO12.out; subst eo24) | ((with_reducible refine gate_callee (f := 17) rfl ?_); refine goesL_ (some 35) rfl rfl Tryz.func17 (by kernel_rfl) rfl #[.slice Ao24 t10.length co24] rfl (by (try simp only [List.map_toArray, List.map_cons, List.map_nil]); first | done | rfl | (simp only [List.length_drop, List.length_take]; rfl)) ?_; (with_reducible refine (code_Code.calls kj2 _ _ t10 t13 t14 _ ?side1 ?side2 A16.out).mono ?_); (case side1 => repeat (first | exact (Kd.R_reads' HO12.out).2.2 | (with_reducible refine Kd.C_alloc ?_ _) | (with_reducible refine Kd.C_drewN ?_ _) | (with_reducible refine Kd.C_drew ?_))); (case side2 => exact (Kd.R_reads' HO12.out).2.1); rintro e w25 ⟨rfl, hb⟩; refine ⟨_, rfl, ?_⟩; have n0_ := Aside0.mk (Kd.R_below (by (with_reducible repeat (first | apply Kd.R_alloc | apply Kd.R_drewN | apply Kd.R_drew)); exact HO9.out) hb); have n1_ := Aside0.mk (Kd.R_below (by (with_reducible repeat (first | apply Kd.R_alloc | apply Kd.R_drewN | apply Kd.R_drew)); exact HO12.out) hb); have n2_ := Aside0.mk (below_step (by repeat (first | (with_reducible first | exact HB.out | apply below_alloc | apply pw_below_drewN | apply below_drew1) | exact HB.out)) hb); clear HO9; clear HO12; clear HB; have HO9 := n0_; have HO12 := n1_; have HB := n2_; clear n0_ n1_ n2_; (try clear hb); (try clear hb2); (try clear hk); (try clear hi)) | ((with_reducible refine gate_callee (f := 16) rfl ?_); refine goesL_ (some 40) rfl rfl Tryz.func16 (by kernel_rfl) rfl #[.slice A1 l1.length c1] rfl (by (try simp only [List.map_toArray, List.map_cons, List.map_nil]); first | done | rfl | (simp only [List.length_drop, List.length_take]; rfl)) ?_; (with_reducible refine (narcissusref02_Twin.calls _ _ l1 t15 _ ?side1 ?side2 A17.out).mono ?_); (case side1 => repeat (first | exact (Kd.C_below HR1.out HB.out) | (with_reducible refine Kd.C_alloc ?_ _) | (with_reducible refine Kd.C_drewN ?_ _) | (with_reducible refine Kd.C_drew ?_))); (case side2 => exact HC1.out); rintro e w26 ⟨v16, rfl, ho0, hb⟩; refine ⟨_, rfl, ?_⟩; have n0_ := Aside0.mk (Kd.R_elder' (by (with_reducible repeat (first | apply Kd.R_alloc | apply Kd.R_drewN | apply Kd.R_drew)); exact HO9.out) (Kd.R_base ho0) hb); have n1_ := Aside0.mk (Kd.R_elder' (by (with_reducible repeat (first | apply Kd.R_alloc | apply Kd.R_drewN | apply Kd.R_drew)); exact HO12.out) (Kd.R_base ho0) hb); have n2_ := Aside0.mk (Kd.R_lower (Kd.R_new' (Kd.R_new' ho0 (Kd.R_lt (by (with_reducible repeat (first | apply Kd.R_alloc | apply Kd.R_drewN | apply Kd.R_drew)); exact HO9.out))) (Kd.R_lt (by (with_reducible repeat (first | apply Kd.R_alloc | apply Kd.R_drewN | apply Kd.R_drew)); exact HO12.out))) (below_size (by repeat (first | (with_reducible first | exact HB.out | apply below_alloc | apply pw_below_drewN | apply below_drew1) | exact HB.out)))); have n3_ := Aside0.mk (below_step (by repeat (first | (with_reducible first | exact HB.out | apply below_alloc | apply pw_below_drewN | apply below_drew1) | exact HB.out)) hb); clear HO9; clear HO12; clear HB; have HO9 := n0_; have HO12 := n1_; have HO17 := n2_; have HB := n3_; clear n0_ n1_ n2_ n3_; (try clear hb); (try clear hb2); (try clear hk); (try clear hi); (try clear ho0); obtain ⟨Ao27, co27, eo27⟩ := Kd.R_slice HO17.out; subst eo27) | ((with_reducible refine gate_callee (f := 17) rfl ?_); refine goesL_ (some 41) rfl rfl Tryz.func17 (by kernel_rfl) rfl #[.slice Ao27 t15.length co27] rfl (by (try simp only [List.map_toArray, List.map_cons, List.map_nil]); first | done | rfl | (simp only [List.length_drop, List.length_take]; rfl)) ?_; (with_reducible refine (code_Code.calls kj2 _ _ t15 t18 t19 _ ?side1 ?side2 A18.out).mono ?_); (case side1 => repeat (first | exact (Kd.R_reads' HO17.out).2.2 | (with_reducible refine Kd.C_alloc ?_ _) | (with_reducible refine Kd.C_drewN ?_ _) | (with_reducible refine Kd.C_drew ?_))); (case side2 => exact (Kd.R_reads' HO17.out).2.1); rintro e w28 ⟨rfl, hb⟩; refine ⟨_, rfl, ?_⟩; have n0_ := Aside0.mk (Kd.R_below (by (with_reducible repeat (first | apply Kd.R_alloc | apply Kd.R_drewN | apply Kd.R_drew)); exact HO9.out) hb); have n1_ := Aside0.mk (Kd.R_below (by (with_reducible repeat (first | apply Kd.R_alloc | apply Kd.R_drewN | apply Kd.R_drew)); exact HO12.out) hb); have n2_ := Aside0.mk (Kd.R_below (by (with_reducible repeat (first | apply Kd.R_alloc | apply Kd.R_drewN | apply Kd.R_drew)); exact HO17.out) hb); have n3_ := Aside0.mk (below_step (by repeat (first | (with_reducible first | exact HB.out | apply below_alloc | apply pw_below_drewN | apply below_drew1) | exact HB.out)) hb); clear HO9; clear HO12; clear HO17; clear HB; have HO9 := n0_; have HO12 := n1_; have HO17 := n2_; have HB := n3_; clear n0_ n1_ n2_ n3_; (try clear hb); (try clear hb2); (try clear hk); (try clear hi); obtain ⟨Ao29, co29, eo29⟩ := Kd.R_slice HO9.out; subst eo29) | ((with_reducible refine gate_callee (f := 17) rfl ?_); refine goesL_ (some 46) rfl rfl Tryz.func17 (by kernel_rfl) rfl #[.slice Ao29 y7.length co29] rfl (by (try simp only [List.map_toArray, List.map_cons, List.map_nil]); first | done | rfl | (simp only [List.length_drop, List.length_take]; rfl)) ?_; (with_reducible refine (code_Code.calls kj2 _ _ y7 t20 t21 _ ?side1 ?side2 A19.out).mono ?_); (case side1 => repeat (first | exact (Kd.R_reads' HO9.out).2.2 | (with_reducible refine Kd.C_alloc ?_ _) | (with_reducible refine Kd.C_drewN ?_ _) | (with_reducible refine Kd.C_drew ?_))); (case side2 => exact (Kd.R_reads' HO9.out).2.1); rintro e w30 ⟨rfl, hb⟩; refine ⟨_, rfl, ?_⟩; have n0_ := Aside0.mk (Kd.R_below (by (with_reducible repeat (first | apply Kd.R_alloc | apply Kd.R_drewN | apply Kd.R_drew)); exact HO9.out) hb); have n1_ := Aside0.mk (Kd.R_below (by (with_reducible repeat (first | apply Kd.R_alloc | apply Kd.R_drewN | apply Kd.R_drew)); exact HO12.out) hb); have n2_ := Aside0.mk (Kd.R_below (by (with_reducible repeat (first | apply Kd.R_alloc | apply Kd.R_drewN | apply Kd.R_drew)); exact HO17.out) hb); have n3_ := Aside0.mk (below_step (by repeat (first | (with_reducible first | exact HB.out | apply below_alloc | apply pw_below_drewN | apply below_drew1) | exact HB.out)) hb); clear HO9; clear HO12; clear HO17; clear HB; have HO9 := n0_; have HO12 := n1_; have HO17 := n2_; have HB := n3_; clear n0_ n1_ n2_ n3_; (try clear hb); (try clear hb2); (try clear hk); (try clear hi)))
     (try simp only [Act.put, List.setIfInBounds_toArray, List.set_cons_zero, List.set_cons_succ])
     go_cut [58] (fun v58 wc => ∃ (kq : Nat) (x58_19 : Bool), v58 = .bool x58_19 ∧ Aside0 (narcissuslaw02_CodeParts.j1 kq l0 l1 y7 t13 t14 t18 t19 t20 t21 x58_19 = some r) ∧ Aside0 (kq ≤ kj2) ∧ Aside0 (Kd.R k42 42 wc w.heap.size (fun _ => True) (.slice Ao29 y7.length co29) y7) ∧ Aside0 (Below w.heap.size w wc))
     case first =>
      have H := HC20.out
      clear HC20
      by_cases c31 : t14 = 0
      ·rw [if_pos c31] at H
       have c31b0 : (t14 == 0) = true := beq_iff_eq.mpr c31
       have c31b1 : (t14 != 0) = false := bne_eq_false_iff_eq.mpr c31
       clear c31
       (first | rw [c31b0] | (simp only [i64_w, i32_w]; rw [c31b0]) | skip)
       by_cases c32 : t19 = 0
       ·rw [if_pos c32] at H
        have c32b0 : (t19 == 0) = true := beq_iff_eq.mpr c32
        have c32b1 : (t19 != 0) = false := bne_eq_false_iff_eq.mpr c32
        clear c32
        have H' := Aside0.mk H
        clear H
        go_wp2
        go_meet
        case rel => exact ⟨_, ((t21 != 0)), (by first | rfl | (simp; done) | (simp [*]; done)), H', ⟨by have := HJ2.out; first | omega | exact Nat.le_refl _⟩, ⟨by (with_reducible repeat (first | apply Kd.R_alloc | apply Kd.R_drewN | apply Kd.R_drew)); exact Kd.R_mono HO9.out (fun _ hk => trivial)⟩, ⟨by repeat (first | (with_reducible first | exact HB.out | apply below_alloc | apply pw_below_drewN | apply below_drew1) | exact HB.out)⟩⟩
       ·rw [if_neg c32] at H
        have c32b0 : (t19 == 0) = false := beq_eq_false_iff_ne.mpr c32
        have c32b1 : (t19 != 0) = true := bne_iff_ne.mpr c32
        have H' := Aside0.mk H
        clear H
        go_wp2
        go_meet
        case rel => exact ⟨_, (true), (by first | rfl | (simp; done) | (simp [*]; done)), H', ⟨by have := HJ2.out; first | omega | exact Nat.le_refl _⟩, ⟨by (with_reducible repeat (first | apply Kd.R_alloc | apply Kd.R_drewN | apply Kd.R_drew)); exact Kd.R_mono HO9.out (fun _ hk => trivial)⟩, ⟨by repeat (first | (with_reducible first | exact HB.out | apply below_alloc | apply pw_below_drewN | apply below_drew1) | exact HB.out)⟩⟩
      ·rw [if_neg c31] at H
       have c31b0 : (t14 == 0) = false := beq_eq_false_iff_ne.mpr c31
       have c31b1 : (t14 != 0) = true := bne_iff_ne.mpr c31
       (first | rw [c31b0] | (simp only [i64_w, i32_w]; rw [c31b0]) | skip)
       have H' := Aside0.mk H
       clear H
       go_wp2
       go_meet
       case rel => exact ⟨_, (true), (by first | rfl | (simp; done) | (simp [*]; done)), H', ⟨by have := HJ2.out; first | omega | exact Nat.le_refl _⟩, ⟨by (with_reducible repeat (first | apply Kd.R_alloc | apply Kd.R_drewN | apply Kd.R_drew)); exact Kd.R_mono HO9.out (fun _ hk => trivial)⟩, ⟨by repeat (first | (with_reducible first | exact HB.out | apply below_alloc | apply pw_below_drewN | apply below_drew1) | exact HB.out)⟩⟩
     case rest =>
      clear HC20
      try clear c1
      try clear p2
      try clear c3
      try clear c5
      try clear c10
      try clear c14
      try clear c15
      try clear c16
      try clear c17
      try clear c31
      try clear c31b0
      try clear c31b1
      try clear c32
      try clear c32b0
      try clear c32b1
      try clear p2
      obtain ⟨kq, x58_19, rfl, HA, HJ19, HO_5, HB⟩ := hcut
      cases kq with
      | zero => exact absurd HA.out (by simp [narcissuslaw02_CodeParts.j1])
      | succ kj19 =>
       have H := HA.out
       clear HA
       simp only [narcissuslaw02_CodeParts.j1] at H
       by_cases c33 : x58_19 = true
       ·subst c33
        have H1 : (if t14 = 0 then (if t19 = 0 then (if t21 = 0 then ((narcissuslaw02_awake.f kj19).bind fun t22 => (some t22)) else (if t21 = 3 then ((narcissuslaw02_awake.f kj19).bind fun t23 => (some t23)) else (if t21 = 1 then ((narcissusref02_Valid.f kj19 y7).bind fun t24 => (if t24 = true then (some false) else ((narcissuslaw02_awake.f kj19).bind fun t25 => (some t25)))) else (some false)))) else (if t19 = 3 then (if t21 = 0 then ((narcissuslaw02_awake.f kj19).bind fun t26 => (some t26)) else (if t21 = 3 then ((narcissuslaw02_awake.f kj19).bind fun t27 => (some t27)) else (if t21 = 1 then ((narcissusref02_Valid.f kj19 y7).bind fun t28 => (if t28 = true then (some false) else ((narcissuslaw02_awake.f kj19).bind fun t29 => (some t29)))) else (some false)))) else (some false))) else (if t14 = 3 then (if t19 = 0 then (if t21 = 0 then ((narcissuslaw02_awake.f kj19).bind fun t30 => (some t30)) else (if t21 = 3 then ((narcissuslaw02_awake.f kj19).bind fun t31 => (some t31)) else (if t21 = 1 then ((narcissusref02_Valid.f kj19 y7).bind fun t32 => (if t32 = true then (some false) else ((narcissuslaw02_awake.f kj19).bind fun t33 => (some t33)))) else (some false)))) else (if t19 = 3 then (if t21 = 0 then ((narcissuslaw02_awake.f kj19).bind fun t34 => (some t34)) else (if t21 = 3 then ((narcissuslaw02_awake.f kj19).bind fun t35 => (some t35)) else (if t21 = 1 then ((narcissusref02_Valid.f kj19 y7).bind fun t36 => (if t36 = true then (some false) else ((narcissuslaw02_awake.f kj19).bind fun t37 => (some t37)))) else (some false)))) else (some false))) else (some false))) = some r := by rw [if_pos rfl] at H; exact H
        clear H
        have H := H1
        clear H1
        by_cases c34 : t14 = 0
        ·rw [if_pos c34] at H
         have c34b0 : (t14 == 0) = true := beq_iff_eq.mpr c34
         have c34b1 : (t14 != 0) = false := bne_eq_false_iff_eq.mpr c34
         clear c34
         by_cases c35 : t19 = 0
         ·rw [if_pos c35] at H
          have c35b0 : (t19 == 0) = true := beq_iff_eq.mpr c35
          have c35b1 : (t19 != 0) = false := bne_eq_false_iff_eq.mpr c35
          clear c35
          by_cases c36 : t21 = 0
          ·rw [if_pos c36] at H
           have c36b0 : (t21 == 0) = true := beq_iff_eq.mpr c36
           have c36b1 : (t21 != 0) = false := bne_eq_false_iff_eq.mpr c36
           clear c36
           replace H := Option.bind_eq_some_iff.mp H
           obtain ⟨t22, A370, H⟩ := H
           replace H : (some t22) = some r := H
           have A37 := Aside0.mk A370
           clear A370
           obtain rfl := Option.some.inj H
           go_wp2_with (first | (go_at_call 10; (with_reducible refine (narcissuslaw02_awake.calls kj19  t22 _ ?side1 A37.out).mono ?_); (case side1 => first | (refine LaidW.below HLD.out ?_; with_reducible exact HB.out) | (refine LaidW.below HLD.out ?_; with_reducible apply pw_below_drewN; with_reducible exact HB.out) | (refine LaidW.below HLD.out ?_; with_reducible apply below_alloc; with_reducible exact HB.out) | (refine LaidW.below HLD.out ?_; repeat (first | (with_reducible first | exact HB.out | apply below_alloc | apply pw_below_drewN | apply below_drew1) | exact HB.out); done) | exact HLD.out | (repeat (first | exact HLD.out | (with_reducible refine LaidW.drewN ?_ _) | (with_reducible refine LaidW.drew ?_) | (with_reducible refine LaidW.alloc ?_ _)))); rintro e w38 ⟨rfl, hb⟩; have n0_ := Aside0.mk (Kd.R_below (by (with_reducible repeat (first | apply Kd.R_alloc | apply Kd.R_drewN | apply Kd.R_drew)); exact HO_5.out) hb); have n1_ := Aside0.mk (below_step (by repeat (first | (with_reducible first | exact HB.out | apply below_alloc | apply pw_below_drewN | apply below_drew1) | exact HB.out)) hb); clear HO_5; clear HB; have HO_5 := n0_; have HB := n1_; clear n0_ n1_; (try clear hb); (try clear hb2); (try clear hk); (try clear hi)))
           go_ret
           exact ⟨by first | rfl | (simp [errW_none, errW_some] <;> rfl) | (simp [*, errW_none, errW_some] <;> rfl), by repeat (first | (with_reducible first | exact HB.out | apply below_alloc | apply pw_below_drewN | apply below_drew1) | exact HB.out)⟩
          ·rw [if_neg c36] at H
           have c36b0 : (t21 == 0) = false := beq_eq_false_iff_ne.mpr c36
           have c36b1 : (t21 != 0) = true := bne_iff_ne.mpr c36
           by_cases c39 : t21 = 3
           ·rw [if_pos c39] at H
            have c39b0 : (t21 == 3) = true := beq_iff_eq.mpr c39
            have c39b1 : (t21 != 3) = false := bne_eq_false_iff_eq.mpr c39
            clear c39
            replace H := Option.bind_eq_some_iff.mp H
            obtain ⟨t23, A400, H⟩ := H
            replace H : (some t23) = some r := H
            have A40 := Aside0.mk A400
            clear A400
            obtain rfl := Option.some.inj H
            go_wp2_with (first | (go_at_call 10; (with_reducible refine (narcissuslaw02_awake.calls kj19  t23 _ ?side1 A40.out).mono ?_); (case side1 => first | (refine LaidW.below HLD.out ?_; with_reducible exact HB.out) | (refine LaidW.below HLD.out ?_; with_reducible apply pw_below_drewN; with_reducible exact HB.out) | (refine LaidW.below HLD.out ?_; with_reducible apply below_alloc; with_reducible exact HB.out) | (refine LaidW.below HLD.out ?_; repeat (first | (with_reducible first | exact HB.out | apply below_alloc | apply pw_below_drewN | apply below_drew1) | exact HB.out); done) | exact HLD.out | (repeat (first | exact HLD.out | (with_reducible refine LaidW.drewN ?_ _) | (with_reducible refine LaidW.drew ?_) | (with_reducible refine LaidW.alloc ?_ _)))); rintro e w41 ⟨rfl, hb⟩; have n0_ := Aside0.mk (Kd.R_below (by (with_reducible repeat (first | apply Kd.R_alloc | apply Kd.R_drewN | apply Kd.R_drew)); exact HO_5.out) hb); have n1_ := Aside0.mk (below_step (by repeat (first | (with_reducible first | exact HB.out | apply below_alloc | apply pw_below_drewN | apply below_drew1) | exact HB.out)) hb); clear HO_5; clear HB; have HO_5 := n0_; have HB := n1_; clear n0_ n1_; (try clear hb); (try clear hb2); (try clear hk); (try clear hi)))
            go_ret
            exact ⟨by first | rfl | (simp [errW_none, errW_some] <;> rfl) | (simp [*, errW_none, errW_some] <;> rfl), by repeat (first | (with_reducible first | exact HB.out | apply below_alloc | apply pw_below_drewN | apply below_drew1) | exact HB.out)⟩
           ·rw [if_neg c39] at H
            have c39b0 : (t21 == 3) = false := beq_eq_false_iff_ne.mpr c39
            have c39b1 : (t21 != 3) = true := bne_iff_ne.mpr c39
            by_cases c42 : t21 = 1
            ·rw [if_pos c42] at H
             have c42b0 : (t21 == 1) = true := beq_iff_eq.mpr c42
             have c42b1 : (t21 != 1) = false := bne_eq_false_iff_eq.mpr c42
             clear c42
             replace H := Option.bind_eq_some_iff.mp H
             obtain ⟨t24, A430, H⟩ := H
             replace H : (if t24 = true then (some false) else ((narcissuslaw02_awake.f kj19).bind fun t25 => (some t25))) = some r := H
             have A43 := Aside0.mk A430
             clear A430
             by_cases c44 : t24 = true
             ·subst c44
              have H1 : (some false) = some r := by rw [if_pos rfl] at H; exact H
              clear H
              have H := H1
              clear H1
              obtain rfl := Option.some.inj H
              go_wp2_with (first | (go_at_call 15; (with_reducible refine (narcissusref02_Valid.calls kj19 _ _ y7 true _ ?side1 ?side2 A43.out).mono ?_); (case side1 => repeat (first | exact (Kd.R_reads' HO_5.out).2.2 | (with_reducible refine Kd.C_alloc ?_ _) | (with_reducible refine Kd.C_drewN ?_ _) | (with_reducible refine Kd.C_drew ?_))); (case side2 => exact (Kd.R_reads' HO_5.out).2.1); rintro e w45 ⟨rfl, hb⟩; have n0_ := Aside0.mk (Kd.R_below (by (with_reducible repeat (first | apply Kd.R_alloc | apply Kd.R_drewN | apply Kd.R_drew)); exact HO_5.out) hb); have n1_ := Aside0.mk (below_step (by repeat (first | (with_reducible first | exact HB.out | apply below_alloc | apply pw_below_drewN | apply below_drew1) | exact HB.out)) hb); clear HO_5; clear HB; have HO_5 := n0_; have HB := n1_; clear n0_ n1_; (try clear hb); (try clear hb2); (try clear hk); (try clear hi)))
              go_ret
              exact ⟨by first | rfl | (simp [errW_none, errW_some] <;> rfl) | (simp [*, errW_none, errW_some] <;> rfl), by repeat (first | (with_reducible first | exact HB.out | apply below_alloc | apply pw_below_drewN | apply below_drew1) | exact HB.out)⟩
             ·replace c44 := Bool.eq_false_iff.mpr c44
              subst c44
              have H1 : ((narcissuslaw02_awake.f kj19).bind fun t25 => (some t25)) = some r := by rw [if_neg (show ¬ (false = true) by decide)] at H; exact H
              clear H
              have H := H1
              clear H1
              replace H := Option.bind_eq_some_iff.mp H
              obtain ⟨t25, A460, H⟩ := H
              replace H : (some t25) = some r := H
              have A46 := Aside0.mk A460
              clear A460
              obtain rfl := Option.some.inj H
              go_wp2_with (first | (go_at_call 15; (with_reducible refine (narcissusref02_Valid.calls kj19 _ _ y7 false _ ?side1 ?side2 A43.out).mono ?_); (case side1 => repeat (first | exact (Kd.R_reads' HO_5.out).2.2 | (with_reducible refine Kd.C_alloc ?_ _) | (with_reducible refine Kd.C_drewN ?_ _) | (with_reducible refine Kd.C_drew ?_))); (case side2 => exact (Kd.R_reads' HO_5.out).2.1); rintro e w47 ⟨rfl, hb⟩; have n0_ := Aside0.mk (Kd.R_below (by (with_reducible repeat (first | apply Kd.R_alloc | apply Kd.R_drewN | apply Kd.R_drew)); exact HO_5.out) hb); have n1_ := Aside0.mk (below_step (by repeat (first | (with_reducible first | exact HB.out | apply below_alloc | apply pw_below_drewN | apply below_drew1) | exact HB.out)) hb); clear HO_5; clear HB; have HO_5 := n0_; have HB := n1_; clear n0_ n1_; (try clear hb); (try clear hb2); (try clear hk); (try clear hi)) | (go_at_call 10; (with_reducible refine (narcissuslaw02_awake.calls kj19  t25 _ ?side1 A46.out).mono ?_); (case side1 => first | (refine LaidW.below HLD.out ?_; with_reducible exact HB.out) | (refine LaidW.below HLD.out ?_; with_reducible apply pw_below_drewN; with_reducible exact HB.out) | (refine LaidW.below HLD.out ?_; with_reducible apply below_alloc; with_reducible exact HB.out) | (refine LaidW.below HLD.out ?_; repeat (first | (with_reducible first | exact HB.out | apply below_alloc | apply pw_below_drewN | apply below_drew1) | exact HB.out); done) | exact HLD.out | (repeat (first | exact HLD.out | (with_reducible refine LaidW.drewN ?_ _) | (with_reducible refine LaidW.drew ?_) | (with_reducible refine LaidW.alloc ?_ _)))); rintro e w48 ⟨rfl, hb⟩; have n0_ := Aside0.mk (Kd.R_below (by (with_reducible repeat (first | apply Kd.R_alloc | apply Kd.R_drewN | apply Kd.R_drew)); exact HO_5.out) hb); have n1_ := Aside0.mk (below_step (by repeat (first | (with_reducible first | exact HB.out | apply below_alloc | apply pw_below_drewN | apply below_drew1) | exact HB.out)) hb); clear HO_5; clear HB; have HO_5 := n0_; have HB := n1_; clear n0_ n1_; (try clear hb); (try clear hb2); (try clear hk); (try clear hi)))
              go_ret
              exact ⟨by first | rfl | (simp [errW_none, errW_some] <;> rfl) | (simp [*, errW_none, errW_some] <;> rfl), by repeat (first | (with_reducible first | exact HB.out | apply below_alloc | apply pw_below_drewN | apply below_drew1) | exact HB.out)⟩
            ·rw [if_neg c42] at H
             have c42b0 : (t21 == 1) = false := beq_eq_false_iff_ne.mpr c42
             have c42b1 : (t21 != 1) = true := bne_iff_ne.mpr c42
             obtain rfl := Option.some.inj H
             go_wp2
             go_ret
             exact ⟨by first | rfl | (simp [errW_none, errW_some] <;> rfl) | (simp [*, errW_none, errW_some] <;> rfl), by repeat (first | (with_reducible first | exact HB.out | apply below_alloc | apply pw_below_drewN | apply below_drew1) | exact HB.out)⟩
         ·rw [if_neg c35] at H
          have c35b0 : (t19 == 0) = false := beq_eq_false_iff_ne.mpr c35
          have c35b1 : (t19 != 0) = true := bne_iff_ne.mpr c35
          by_cases c49 : t19 = 3
          ·rw [if_pos c49] at H
           have c49b0 : (t19 == 3) = true := beq_iff_eq.mpr c49
           have c49b1 : (t19 != 3) = false := bne_eq_false_iff_eq.mpr c49
           clear c49
           by_cases c50 : t21 = 0
           ·rw [if_pos c50] at H
            have c50b0 : (t21 == 0) = true := beq_iff_eq.mpr c50
            have c50b1 : (t21 != 0) = false := bne_eq_false_iff_eq.mpr c50
            clear c50
            replace H := Option.bind_eq_some_iff.mp H
            obtain ⟨t26, A510, H⟩ := H
            replace H : (some t26) = some r := H
            have A51 := Aside0.mk A510
            clear A510
            obtain rfl := Option.some.inj H
            go_wp2_with (first | (go_at_call 10; (with_reducible refine (narcissuslaw02_awake.calls kj19  t26 _ ?side1 A51.out).mono ?_); (case side1 => first | (refine LaidW.below HLD.out ?_; with_reducible exact HB.out) | (refine LaidW.below HLD.out ?_; with_reducible apply pw_below_drewN; with_reducible exact HB.out) | (refine LaidW.below HLD.out ?_; with_reducible apply below_alloc; with_reducible exact HB.out) | (refine LaidW.below HLD.out ?_; repeat (first | (with_reducible first | exact HB.out | apply below_alloc | apply pw_below_drewN | apply below_drew1) | exact HB.out); done) | exact HLD.out | (repeat (first | exact HLD.out | (with_reducible refine LaidW.drewN ?_ _) | (with_reducible refine LaidW.drew ?_) | (with_reducible refine LaidW.alloc ?_ _)))); rintro e w52 ⟨rfl, hb⟩; have n0_ := Aside0.mk (Kd.R_below (by (with_reducible repeat (first | apply Kd.R_alloc | apply Kd.R_drewN | apply Kd.R_drew)); exact HO_5.out) hb); have n1_ := Aside0.mk (below_step (by repeat (first | (with_reducible first | exact HB.out | apply below_alloc | apply pw_below_drewN | apply below_drew1) | exact HB.out)) hb); clear HO_5; clear HB; have HO_5 := n0_; have HB := n1_; clear n0_ n1_; (try clear hb); (try clear hb2); (try clear hk); (try clear hi)))
            go_ret
            exact ⟨by first | rfl | (simp [errW_none, errW_some] <;> rfl) | (simp [*, errW_none, errW_some] <;> rfl), by repeat (first | (with_reducible first | exact HB.out | apply below_alloc | apply pw_below_drewN | apply below_drew1) | exact HB.out)⟩
           ·rw [if_neg c50] at H
            have c50b0 : (t21 == 0) = false := beq_eq_false_iff_ne.mpr c50
            have c50b1 : (t21 != 0) = true := bne_iff_ne.mpr c50
            by_cases c53 : t21 = 3
            ·rw [if_pos c53] at H
             have c53b0 : (t21 == 3) = true := beq_iff_eq.mpr c53
             have c53b1 : (t21 != 3) = false := bne_eq_false_iff_eq.mpr c53
             clear c53
             replace H := Option.bind_eq_some_iff.mp H
             obtain ⟨t27, A540, H⟩ := H
             replace H : (some t27) = some r := H
             have A54 := Aside0.mk A540
             clear A540
             obtain rfl := Option.some.inj H
             go_wp2_with (first | (go_at_call 10; (with_reducible refine (narcissuslaw02_awake.calls kj19  t27 _ ?side1 A54.out).mono ?_); (case side1 => first | (refine LaidW.below HLD.out ?_; with_reducible exact HB.out) | (refine LaidW.below HLD.out ?_; with_reducible apply pw_below_drewN; with_reducible exact HB.out) | (refine LaidW.below HLD.out ?_; with_reducible apply below_alloc; with_reducible exact HB.out) | (refine LaidW.below HLD.out ?_; repeat (first | (with_reducible first | exact HB.out | apply below_alloc | apply pw_below_drewN | apply below_drew1) | exact HB.out); done) | exact HLD.out | (repeat (first | exact HLD.out | (with_reducible refine LaidW.drewN ?_ _) | (with_reducible refine LaidW.drew ?_) | (with_reducible refine LaidW.alloc ?_ _)))); rintro e w55 ⟨rfl, hb⟩; have n0_ := Aside0.mk (Kd.R_below (by (with_reducible repeat (first | apply Kd.R_alloc | apply Kd.R_drewN | apply Kd.R_drew)); exact HO_5.out) hb); have n1_ := Aside0.mk (below_step (by repeat (first | (with_reducible first | exact HB.out | apply below_alloc | apply pw_below_drewN | apply below_drew1) | exact HB.out)) hb); clear HO_5; clear HB; have HO_5 := n0_; have HB := n1_; clear n0_ n1_; (try clear hb); (try clear hb2); (try clear hk); (try clear hi)))
             go_ret
             exact ⟨by first | rfl | (simp [errW_none, errW_some] <;> rfl) | (simp [*, errW_none, errW_some] <;> rfl), by repeat (first | (with_reducible first | exact HB.out | apply below_alloc | apply pw_below_drewN | apply below_drew1) | exact HB.out)⟩
            ·rw [if_neg c53] at H
             have c53b0 : (t21 == 3) = false := beq_eq_false_iff_ne.mpr c53
             have c53b1 : (t21 != 3) = true := bne_iff_ne.mpr c53
             by_cases c56 : t21 = 1
             ·rw [if_pos c56] at H
              have c56b0 : (t21 == 1) = true := beq_iff_eq.mpr c56
              have c56b1 : (t21 != 1) = false := bne_eq_false_iff_eq.mpr c56
              clear c56
              replace H := Option.bind_eq_some_iff.mp H
              obtain ⟨t28, A570, H⟩ := H
              replace H : (if t28 = true then (some false) else ((narcissuslaw02_awake.f kj19).bind fun t29 => (some t29))) = some r := H
              have A57 := Aside0.mk A570
              clear A570
              by_cases c58 : t28 = true
              ·subst c58
               have H1 : (some false) = some r := by rw [if_pos rfl] at H; exact H
               clear H
               have H := H1
               clear H1
               obtain rfl := Option.some.inj H
               go_wp2_with (first | (go_at_call 15; (with_reducible refine (narcissusref02_Valid.calls kj19 _ _ y7 true _ ?side1 ?side2 A57.out).mono ?_); (case side1 => repeat (first | exact (Kd.R_reads' HO_5.out).2.2 | (with_reducible refine Kd.C_alloc ?_ _) | (with_reducible refine Kd.C_drewN ?_ _) | (with_reducible refine Kd.C_drew ?_))); (case side2 => exact (Kd.R_reads' HO_5.out).2.1); rintro e w59 ⟨rfl, hb⟩; have n0_ := Aside0.mk (Kd.R_below (by (with_reducible repeat (first | apply Kd.R_alloc | apply Kd.R_drewN | apply Kd.R_drew)); exact HO_5.out) hb); have n1_ := Aside0.mk (below_step (by repeat (first | (with_reducible first | exact HB.out | apply below_alloc | apply pw_below_drewN | apply below_drew1) | exact HB.out)) hb); clear HO_5; clear HB; have HO_5 := n0_; have HB := n1_; clear n0_ n1_; (try clear hb); (try clear hb2); (try clear hk); (try clear hi)))
               go_ret
               exact ⟨by first | rfl | (simp [errW_none, errW_some] <;> rfl) | (simp [*, errW_none, errW_some] <;> rfl), by repeat (first | (with_reducible first | exact HB.out | apply below_alloc | apply pw_below_drewN | apply below_drew1) | exact HB.out)⟩
              ·replace c58 := Bool.eq_false_iff.mpr c58
               subst c58
               have H1 : ((narcissuslaw02_awake.f kj19).bind fun t29 => (some t29)) = some r := by rw [if_neg (show ¬ (false = true) by decide)] at H; exact H
               clear H
               have H := H1
               clear H1
               replace H := Option.bind_eq_some_iff.mp H
               obtain ⟨t29, A600, H⟩ := H
               replace H : (some t29) = some r := H
               have A60 := Aside0.mk A600
               clear A600
               obtain rfl := Option.some.inj H
               go_wp2_with (first | (go_at_call 15; (with_reducible refine (narcissusref02_Valid.calls kj19 _ _ y7 false _ ?side1 ?side2 A57.out).mono ?_); (case side1 => repeat (first | exact (Kd.R_reads' HO_5.out).2.2 | (with_reducible refine Kd.C_alloc ?_ _) | (with_reducible refine Kd.C_drewN ?_ _) | (with_reducible refine Kd.C_drew ?_))); (case side2 => exact (Kd.R_reads' HO_5.out).2.1); rintro e w61 ⟨rfl, hb⟩; have n0_ := Aside0.mk (Kd.R_below (by (with_reducible repeat (first | apply Kd.R_alloc | apply Kd.R_drewN | apply Kd.R_drew)); exact HO_5.out) hb); have n1_ := Aside0.mk (below_step (by repeat (first | (with_reducible first | exact HB.out | apply below_alloc | apply pw_below_drewN | apply below_drew1) | exact HB.out)) hb); clear HO_5; clear HB; have HO_5 := n0_; have HB := n1_; clear n0_ n1_; (try clear hb); (try clear hb2); (try clear hk); (try clear hi)) | (go_at_call 10; (with_reducible refine (narcissuslaw02_awake.calls kj19  t29 _ ?side1 A60.out).mono ?_); (case side1 => first | (refine LaidW.below HLD.out ?_; with_reducible exact HB.out) | (refine LaidW.below HLD.out ?_; with_reducible apply pw_below_drewN; with_reducible exact HB.out) | (refine LaidW.below HLD.out ?_; with_reducible apply below_alloc; with_reducible exact HB.out) | (refine LaidW.below HLD.out ?_; repeat (first | (with_reducible first | exact HB.out | apply below_alloc | apply pw_below_drewN | apply below_drew1) | exact HB.out); done) | exact HLD.out | (repeat (first | exact HLD.out | (with_reducible refine LaidW.drewN ?_ _) | (with_reducible refine LaidW.drew ?_) | (with_reducible refine LaidW.alloc ?_ _)))); rintro e w62 ⟨rfl, hb⟩; have n0_ := Aside0.mk (Kd.R_below (by (with_reducible repeat (first | apply Kd.R_alloc | apply Kd.R_drewN | apply Kd.R_drew)); exact HO_5.out) hb); have n1_ := Aside0.mk (below_step (by repeat (first | (with_reducible first | exact HB.out | apply below_alloc | apply pw_below_drewN | apply below_drew1) | exact HB.out)) hb); clear HO_5; clear HB; have HO_5 := n0_; have HB := n1_; clear n0_ n1_; (try clear hb); (try clear hb2); (try clear hk); (try clear hi)))
               go_ret
               exact ⟨by first | rfl | (simp [errW_none, errW_some] <;> rfl) | (simp [*, errW_none, errW_some] <;> rfl), by repeat (first | (with_reducible first | exact HB.out | apply below_alloc | apply pw_below_drewN | apply below_drew1) | exact HB.out)⟩
             ·rw [if_neg c56] at H
              have c56b0 : (t21 == 1) = false := beq_eq_false_iff_ne.mpr c56
              have c56b1 : (t21 != 1) = true := bne_iff_ne.mpr c56
              obtain rfl := Option.some.inj H
              go_wp2
              go_ret
              exact ⟨by first | rfl | (simp [errW_none, errW_some] <;> rfl) | (simp [*, errW_none, errW_some] <;> rfl), by repeat (first | (with_reducible first | exact HB.out | apply below_alloc | apply pw_below_drewN | apply below_drew1) | exact HB.out)⟩
          ·rw [if_neg c49] at H
           have c49b0 : (t19 == 3) = false := beq_eq_false_iff_ne.mpr c49
           have c49b1 : (t19 != 3) = true := bne_iff_ne.mpr c49
           obtain rfl := Option.some.inj H
           go_wp2
           go_ret
           exact ⟨by first | rfl | (simp [errW_none, errW_some] <;> rfl) | (simp [*, errW_none, errW_some] <;> rfl), by repeat (first | (with_reducible first | exact HB.out | apply below_alloc | apply pw_below_drewN | apply below_drew1) | exact HB.out)⟩
        ·rw [if_neg c34] at H
         have c34b0 : (t14 == 0) = false := beq_eq_false_iff_ne.mpr c34
         have c34b1 : (t14 != 0) = true := bne_iff_ne.mpr c34
         by_cases c63 : t14 = 3
         ·rw [if_pos c63] at H
          have c63b0 : (t14 == 3) = true := beq_iff_eq.mpr c63
          have c63b1 : (t14 != 3) = false := bne_eq_false_iff_eq.mpr c63
          clear c63
          by_cases c64 : t19 = 0
          ·rw [if_pos c64] at H
           have c64b0 : (t19 == 0) = true := beq_iff_eq.mpr c64
           have c64b1 : (t19 != 0) = false := bne_eq_false_iff_eq.mpr c64
           clear c64
           by_cases c65 : t21 = 0
           ·rw [if_pos c65] at H
            have c65b0 : (t21 == 0) = true := beq_iff_eq.mpr c65
            have c65b1 : (t21 != 0) = false := bne_eq_false_iff_eq.mpr c65
            clear c65
            replace H := Option.bind_eq_some_iff.mp H
            obtain ⟨t30, A660, H⟩ := H
            replace H : (some t30) = some r := H
            have A66 := Aside0.mk A660
            clear A660
            obtain rfl := Option.some.inj H
            go_wp2_with (first | (go_at_call 10; (with_reducible refine (narcissuslaw02_awake.calls kj19  t30 _ ?side1 A66.out).mono ?_); (case side1 => first | (refine LaidW.below HLD.out ?_; with_reducible exact HB.out) | (refine LaidW.below HLD.out ?_; with_reducible apply pw_below_drewN; with_reducible exact HB.out) | (refine LaidW.below HLD.out ?_; with_reducible apply below_alloc; with_reducible exact HB.out) | (refine LaidW.below HLD.out ?_; repeat (first | (with_reducible first | exact HB.out | apply below_alloc | apply pw_below_drewN | apply below_drew1) | exact HB.out); done) | exact HLD.out | (repeat (first | exact HLD.out | (with_reducible refine LaidW.drewN ?_ _) | (with_reducible refine LaidW.drew ?_) | (with_reducible refine LaidW.alloc ?_ _)))); rintro e w67 ⟨rfl, hb⟩; have n0_ := Aside0.mk (Kd.R_below (by (with_reducible repeat (first | apply Kd.R_alloc | apply Kd.R_drewN | apply Kd.R_drew)); exact HO_5.out) hb); have n1_ := Aside0.mk (below_step (by repeat (first | (with_reducible first | exact HB.out | apply below_alloc | apply pw_below_drewN | apply below_drew1) | exact HB.out)) hb); clear HO_5; clear HB; have HO_5 := n0_; have HB := n1_; clear n0_ n1_; (try clear hb); (try clear hb2); (try clear hk); (try clear hi)))
            go_ret
            exact ⟨by first | rfl | (simp [errW_none, errW_some] <;> rfl) | (simp [*, errW_none, errW_some] <;> rfl), by repeat (first | (with_reducible first | exact HB.out | apply below_alloc | apply pw_below_drewN | apply below_drew1) | exact HB.out)⟩
           ·rw [if_neg c65] at H
            have c65b0 : (t21 == 0) = false := beq_eq_false_iff_ne.mpr c65
            have c65b1 : (t21 != 0) = true := bne_iff_ne.mpr c65
            by_cases c68 : t21 = 3
            ·rw [if_pos c68] at H
             have c68b0 : (t21 == 3) = true := beq_iff_eq.mpr c68
             have c68b1 : (t21 != 3) = false := bne_eq_false_iff_eq.mpr c68
             clear c68
             replace H := Option.bind_eq_some_iff.mp H
             obtain ⟨t31, A690, H⟩ := H
             replace H : (some t31) = some r := H
             have A69 := Aside0.mk A690
             clear A690
             obtain rfl := Option.some.inj H
             go_wp2_with (first | (go_at_call 10; (with_reducible refine (narcissuslaw02_awake.calls kj19  t31 _ ?side1 A69.out).mono ?_); (case side1 => first | (refine LaidW.below HLD.out ?_; with_reducible exact HB.out) | (refine LaidW.below HLD.out ?_; with_reducible apply pw_below_drewN; with_reducible exact HB.out) | (refine LaidW.below HLD.out ?_; with_reducible apply below_alloc; with_reducible exact HB.out) | (refine LaidW.below HLD.out ?_; repeat (first | (with_reducible first | exact HB.out | apply below_alloc | apply pw_below_drewN | apply below_drew1) | exact HB.out); done) | exact HLD.out | (repeat (first | exact HLD.out | (with_reducible refine LaidW.drewN ?_ _) | (with_reducible refine LaidW.drew ?_) | (with_reducible refine LaidW.alloc ?_ _)))); rintro e w70 ⟨rfl, hb⟩; have n0_ := Aside0.mk (Kd.R_below (by (with_reducible repeat (first | apply Kd.R_alloc | apply Kd.R_drewN | apply Kd.R_drew)); exact HO_5.out) hb); have n1_ := Aside0.mk (below_step (by repeat (first | (with_reducible first | exact HB.out | apply below_alloc | apply pw_below_drewN | apply below_drew1) | exact HB.out)) hb); clear HO_5; clear HB; have HO_5 := n0_; have HB := n1_; clear n0_ n1_; (try clear hb); (try clear hb2); (try clear hk); (try clear hi)))
             go_ret
             exact ⟨by first | rfl | (simp [errW_none, errW_some] <;> rfl) | (simp [*, errW_none, errW_some] <;> rfl), by repeat (first | (with_reducible first | exact HB.out | apply below_alloc | apply pw_below_drewN | apply below_drew1) | exact HB.out)⟩
            ·rw [if_neg c68] at H
             have c68b0 : (t21 == 3) = false := beq_eq_false_iff_ne.mpr c68
             have c68b1 : (t21 != 3) = true := bne_iff_ne.mpr c68
             by_cases c71 : t21 = 1
             ·rw [if_pos c71] at H
              have c71b0 : (t21 == 1) = true := beq_iff_eq.mpr c71
              have c71b1 : (t21 != 1) = false := bne_eq_false_iff_eq.mpr c71
              clear c71
              replace H := Option.bind_eq_some_iff.mp H
              obtain ⟨t32, A720, H⟩ := H
              replace H : (if t32 = true then (some false) else ((narcissuslaw02_awake.f kj19).bind fun t33 => (some t33))) = some r := H
              have A72 := Aside0.mk A720
              clear A720
              by_cases c73 : t32 = true
              ·subst c73
               have H1 : (some false) = some r := by rw [if_pos rfl] at H; exact H
               clear H
               have H := H1
               clear H1
               obtain rfl := Option.some.inj H
               go_wp2_with (first | (go_at_call 15; (with_reducible refine (narcissusref02_Valid.calls kj19 _ _ y7 true _ ?side1 ?side2 A72.out).mono ?_); (case side1 => repeat (first | exact (Kd.R_reads' HO_5.out).2.2 | (with_reducible refine Kd.C_alloc ?_ _) | (with_reducible refine Kd.C_drewN ?_ _) | (with_reducible refine Kd.C_drew ?_))); (case side2 => exact (Kd.R_reads' HO_5.out).2.1); rintro e w74 ⟨rfl, hb⟩; have n0_ := Aside0.mk (Kd.R_below (by (with_reducible repeat (first | apply Kd.R_alloc | apply Kd.R_drewN | apply Kd.R_drew)); exact HO_5.out) hb); have n1_ := Aside0.mk (below_step (by repeat (first | (with_reducible first | exact HB.out | apply below_alloc | apply pw_below_drewN | apply below_drew1) | exact HB.out)) hb); clear HO_5; clear HB; have HO_5 := n0_; have HB := n1_; clear n0_ n1_; (try clear hb); (try clear hb2); (try clear hk); (try clear hi)))
               go_ret
               exact ⟨by first | rfl | (simp [errW_none, errW_some] <;> rfl) | (simp [*, errW_none, errW_some] <;> rfl), by repeat (first | (with_reducible first | exact HB.out | apply below_alloc | apply pw_below_drewN | apply below_drew1) | exact HB.out)⟩
              ·replace c73 := Bool.eq_false_iff.mpr c73
               subst c73
               have H1 : ((narcissuslaw02_awake.f kj19).bind fun t33 => (some t33)) = some r := by rw [if_neg (show ¬ (false = true) by decide)] at H; exact H
               clear H
               have H := H1
               clear H1
               replace H := Option.bind_eq_some_iff.mp H
               obtain ⟨t33, A750, H⟩ := H
               replace H : (some t33) = some r := H
               have A75 := Aside0.mk A750
               clear A750
               obtain rfl := Option.some.inj H
               go_wp2_with (first | (go_at_call 15; (with_reducible refine (narcissusref02_Valid.calls kj19 _ _ y7 false _ ?side1 ?side2 A72.out).mono ?_); (case side1 => repeat (first | exact (Kd.R_reads' HO_5.out).2.2 | (with_reducible refine Kd.C_alloc ?_ _) | (with_reducible refine Kd.C_drewN ?_ _) | (with_reducible refine Kd.C_drew ?_))); (case side2 => exact (Kd.R_reads' HO_5.out).2.1); rintro e w76 ⟨rfl, hb⟩; have n0_ := Aside0.mk (Kd.R_below (by (with_reducible repeat (first | apply Kd.R_alloc | apply Kd.R_drewN | apply Kd.R_drew)); exact HO_5.out) hb); have n1_ := Aside0.mk (below_step (by repeat (first | (with_reducible first | exact HB.out | apply below_alloc | apply pw_below_drewN | apply below_drew1) | exact HB.out)) hb); clear HO_5; clear HB; have HO_5 := n0_; have HB := n1_; clear n0_ n1_; (try clear hb); (try clear hb2); (try clear hk); (try clear hi)) | (go_at_call 10; (with_reducible refine (narcissuslaw02_awake.calls kj19  t33 _ ?side1 A75.out).mono ?_); (case side1 => first | (refine LaidW.below HLD.out ?_; with_reducible exact HB.out) | (refine LaidW.below HLD.out ?_; with_reducible apply pw_below_drewN; with_reducible exact HB.out) | (refine LaidW.below HLD.out ?_; with_reducible apply below_alloc; with_reducible exact HB.out) | (refine LaidW.below HLD.out ?_; repeat (first | (with_reducible first | exact HB.out | apply below_alloc | apply pw_below_drewN | apply below_drew1) | exact HB.out); done) | exact HLD.out | (repeat (first | exact HLD.out | (with_reducible refine LaidW.drewN ?_ _) | (with_reducible refine LaidW.drew ?_) | (with_reducible refine LaidW.alloc ?_ _)))); rintro e w77 ⟨rfl, hb⟩; have n0_ := Aside0.mk (Kd.R_below (by (with_reducible repeat (first | apply Kd.R_alloc | apply Kd.R_drewN | apply Kd.R_drew)); exact HO_5.out) hb); have n1_ := Aside0.mk (below_step (by repeat (first | (with_reducible first | exact HB.out | apply below_alloc | apply pw_below_drewN | apply below_drew1) | exact HB.out)) hb); clear HO_5; clear HB; have HO_5 := n0_; have HB := n1_; clear n0_ n1_; (try clear hb); (try clear hb2); (try clear hk); (try clear hi)))
               go_ret
               exact ⟨by first | rfl | (simp [errW_none, errW_some] <;> rfl) | (simp [*, errW_none, errW_some] <;> rfl), by repeat (first | (with_reducible first | exact HB.out | apply below_alloc | apply pw_below_drewN | apply below_drew1) | exact HB.out)⟩
             ·rw [if_neg c71] at H
              have c71b0 : (t21 == 1) = false := beq_eq_false_iff_ne.mpr c71
              have c71b1 : (t21 != 1) = true := bne_iff_ne.mpr c71
              obtain rfl := Option.some.inj H
              go_wp2
              go_ret
              exact ⟨by first | rfl | (simp [errW_none, errW_some] <;> rfl) | (simp [*, errW_none, errW_some] <;> rfl), by repeat (first | (with_reducible first | exact HB.out | apply below_alloc | apply pw_below_drewN | apply below_drew1) | exact HB.out)⟩
          ·rw [if_neg c64] at H
           have c64b0 : (t19 == 0) = false := beq_eq_false_iff_ne.mpr c64
           have c64b1 : (t19 != 0) = true := bne_iff_ne.mpr c64
           by_cases c78 : t19 = 3
           ·rw [if_pos c78] at H
            have c78b0 : (t19 == 3) = true := beq_iff_eq.mpr c78
            have c78b1 : (t19 != 3) = false := bne_eq_false_iff_eq.mpr c78
            clear c78
            by_cases c79 : t21 = 0
            ·rw [if_pos c79] at H
             have c79b0 : (t21 == 0) = true := beq_iff_eq.mpr c79
             have c79b1 : (t21 != 0) = false := bne_eq_false_iff_eq.mpr c79
             clear c79
             replace H := Option.bind_eq_some_iff.mp H
             obtain ⟨t34, A800, H⟩ := H
             replace H : (some t34) = some r := H
             have A80 := Aside0.mk A800
             clear A800
             obtain rfl := Option.some.inj H
             go_wp2_with (first | (go_at_call 10; (with_reducible refine (narcissuslaw02_awake.calls kj19  t34 _ ?side1 A80.out).mono ?_); (case side1 => first | (refine LaidW.below HLD.out ?_; with_reducible exact HB.out) | (refine LaidW.below HLD.out ?_; with_reducible apply pw_below_drewN; with_reducible exact HB.out) | (refine LaidW.below HLD.out ?_; with_reducible apply below_alloc; with_reducible exact HB.out) | (refine LaidW.below HLD.out ?_; repeat (first | (with_reducible first | exact HB.out | apply below_alloc | apply pw_below_drewN | apply below_drew1) | exact HB.out); done) | exact HLD.out | (repeat (first | exact HLD.out | (with_reducible refine LaidW.drewN ?_ _) | (with_reducible refine LaidW.drew ?_) | (with_reducible refine LaidW.alloc ?_ _)))); rintro e w81 ⟨rfl, hb⟩; have n0_ := Aside0.mk (Kd.R_below (by (with_reducible repeat (first | apply Kd.R_alloc | apply Kd.R_drewN | apply Kd.R_drew)); exact HO_5.out) hb); have n1_ := Aside0.mk (below_step (by repeat (first | (with_reducible first | exact HB.out | apply below_alloc | apply pw_below_drewN | apply below_drew1) | exact HB.out)) hb); clear HO_5; clear HB; have HO_5 := n0_; have HB := n1_; clear n0_ n1_; (try clear hb); (try clear hb2); (try clear hk); (try clear hi)))
             go_ret
             exact ⟨by first | rfl | (simp [errW_none, errW_some] <;> rfl) | (simp [*, errW_none, errW_some] <;> rfl), by repeat (first | (with_reducible first | exact HB.out | apply below_alloc | apply pw_below_drewN | apply below_drew1) | exact HB.out)⟩
            ·rw [if_neg c79] at H
             have c79b0 : (t21 == 0) = false := beq_eq_false_iff_ne.mpr c79
             have c79b1 : (t21 != 0) = true := bne_iff_ne.mpr c79
             by_cases c82 : t21 = 3
             ·rw [if_pos c82] at H
              have c82b0 : (t21 == 3) = true := beq_iff_eq.mpr c82
              have c82b1 : (t21 != 3) = false := bne_eq_false_iff_eq.mpr c82
              clear c82
              replace H := Option.bind_eq_some_iff.mp H
              obtain ⟨t35, A830, H⟩ := H
              replace H : (some t35) = some r := H
              have A83 := Aside0.mk A830
              clear A830
              obtain rfl := Option.some.inj H
              go_wp2_with (first | (go_at_call 10; (with_reducible refine (narcissuslaw02_awake.calls kj19  t35 _ ?side1 A83.out).mono ?_); (case side1 => first | (refine LaidW.below HLD.out ?_; with_reducible exact HB.out) | (refine LaidW.below HLD.out ?_; with_reducible apply pw_below_drewN; with_reducible exact HB.out) | (refine LaidW.below HLD.out ?_; with_reducible apply below_alloc; with_reducible exact HB.out) | (refine LaidW.below HLD.out ?_; repeat (first | (with_reducible first | exact HB.out | apply below_alloc | apply pw_below_drewN | apply below_drew1) | exact HB.out); done) | exact HLD.out | (repeat (first | exact HLD.out | (with_reducible refine LaidW.drewN ?_ _) | (with_reducible refine LaidW.drew ?_) | (with_reducible refine LaidW.alloc ?_ _)))); rintro e w84 ⟨rfl, hb⟩; have n0_ := Aside0.mk (Kd.R_below (by (with_reducible repeat (first | apply Kd.R_alloc | apply Kd.R_drewN | apply Kd.R_drew)); exact HO_5.out) hb); have n1_ := Aside0.mk (below_step (by repeat (first | (with_reducible first | exact HB.out | apply below_alloc | apply pw_below_drewN | apply below_drew1) | exact HB.out)) hb); clear HO_5; clear HB; have HO_5 := n0_; have HB := n1_; clear n0_ n1_; (try clear hb); (try clear hb2); (try clear hk); (try clear hi)))
              go_ret
              exact ⟨by first | rfl | (simp [errW_none, errW_some] <;> rfl) | (simp [*, errW_none, errW_some] <;> rfl), by repeat (first | (with_reducible first | exact HB.out | apply below_alloc | apply pw_below_drewN | apply below_drew1) | exact HB.out)⟩
             ·rw [if_neg c82] at H
              have c82b0 : (t21 == 3) = false := beq_eq_false_iff_ne.mpr c82
              have c82b1 : (t21 != 3) = true := bne_iff_ne.mpr c82
              by_cases c85 : t21 = 1
              ·rw [if_pos c85] at H
               have c85b0 : (t21 == 1) = true := beq_iff_eq.mpr c85
               have c85b1 : (t21 != 1) = false := bne_eq_false_iff_eq.mpr c85
               clear c85
               replace H := Option.bind_eq_some_iff.mp H
               obtain ⟨t36, A860, H⟩ := H
               replace H : (if t36 = true then (some false) else ((narcissuslaw02_awake.f kj19).bind fun t37 => (some t37))) = some r := H
               have A86 := Aside0.mk A860
               clear A860
               by_cases c87 : t36 = true
               ·subst c87
                have H1 : (some false) = some r := by rw [if_pos rfl] at H; exact H
                clear H
                have H := H1
                clear H1
                obtain rfl := Option.some.inj H
                go_wp2_with (first | (go_at_call 15; (with_reducible refine (narcissusref02_Valid.calls kj19 _ _ y7 true _ ?side1 ?side2 A86.out).mono ?_); (case side1 => repeat (first | exact (Kd.R_reads' HO_5.out).2.2 | (with_reducible refine Kd.C_alloc ?_ _) | (with_reducible refine Kd.C_drewN ?_ _) | (with_reducible refine Kd.C_drew ?_))); (case side2 => exact (Kd.R_reads' HO_5.out).2.1); rintro e w88 ⟨rfl, hb⟩; have n0_ := Aside0.mk (Kd.R_below (by (with_reducible repeat (first | apply Kd.R_alloc | apply Kd.R_drewN | apply Kd.R_drew)); exact HO_5.out) hb); have n1_ := Aside0.mk (below_step (by repeat (first | (with_reducible first | exact HB.out | apply below_alloc | apply pw_below_drewN | apply below_drew1) | exact HB.out)) hb); clear HO_5; clear HB; have HO_5 := n0_; have HB := n1_; clear n0_ n1_; (try clear hb); (try clear hb2); (try clear hk); (try clear hi)))
                go_ret
                exact ⟨by first | rfl | (simp [errW_none, errW_some] <;> rfl) | (simp [*, errW_none, errW_some] <;> rfl), by repeat (first | (with_reducible first | exact HB.out | apply below_alloc | apply pw_below_drewN | apply below_drew1) | exact HB.out)⟩
               ·replace c87 := Bool.eq_false_iff.mpr c87
                subst c87
                have H1 : ((narcissuslaw02_awake.f kj19).bind fun t37 => (some t37)) = some r := by rw [if_neg (show ¬ (false = true) by decide)] at H; exact H
                clear H
                have H := H1
                clear H1
                replace H := Option.bind_eq_some_iff.mp H
                obtain ⟨t37, A890, H⟩ := H
                replace H : (some t37) = some r := H
                have A89 := Aside0.mk A890
                clear A890
                obtain rfl := Option.some.inj H
                go_wp2_with (first | (go_at_call 15; (with_reducible refine (narcissusref02_Valid.calls kj19 _ _ y7 false _ ?side1 ?side2 A86.out).mono ?_); (case side1 => repeat (first | exact (Kd.R_reads' HO_5.out).2.2 | (with_reducible refine Kd.C_alloc ?_ _) | (with_reducible refine Kd.C_drewN ?_ _) | (with_reducible refine Kd.C_drew ?_))); (case side2 => exact (Kd.R_reads' HO_5.out).2.1); rintro e w90 ⟨rfl, hb⟩; have n0_ := Aside0.mk (Kd.R_below (by (with_reducible repeat (first | apply Kd.R_alloc | apply Kd.R_drewN | apply Kd.R_drew)); exact HO_5.out) hb); have n1_ := Aside0.mk (below_step (by repeat (first | (with_reducible first | exact HB.out | apply below_alloc | apply pw_below_drewN | apply below_drew1) | exact HB.out)) hb); clear HO_5; clear HB; have HO_5 := n0_; have HB := n1_; clear n0_ n1_; (try clear hb); (try clear hb2); (try clear hk); (try clear hi)) | (go_at_call 10; (with_reducible refine (narcissuslaw02_awake.calls kj19  t37 _ ?side1 A89.out).mono ?_); (case side1 => first | (refine LaidW.below HLD.out ?_; with_reducible exact HB.out) | (refine LaidW.below HLD.out ?_; with_reducible apply pw_below_drewN; with_reducible exact HB.out) | (refine LaidW.below HLD.out ?_; with_reducible apply below_alloc; with_reducible exact HB.out) | (refine LaidW.below HLD.out ?_; repeat (first | (with_reducible first | exact HB.out | apply below_alloc | apply pw_below_drewN | apply below_drew1) | exact HB.out); done) | exact HLD.out | (repeat (first | exact HLD.out | (with_reducible refine LaidW.drewN ?_ _) | (with_reducible refine LaidW.drew ?_) | (with_reducible refine LaidW.alloc ?_ _)))); rintro e w91 ⟨rfl, hb⟩; have n0_ := Aside0.mk (Kd.R_below (by (with_reducible repeat (first | apply Kd.R_alloc | apply Kd.R_drewN | apply Kd.R_drew)); exact HO_5.out) hb); have n1_ := Aside0.mk (below_step (by repeat (first | (with_reducible first | exact HB.out | apply below_alloc | apply pw_below_drewN | apply below_drew1) | exact HB.out)) hb); clear HO_5; clear HB; have HO_5 := n0_; have HB := n1_; clear n0_ n1_; (try clear hb); (try clear hb2); (try clear hk); (try clear hi)))
                go_ret
                exact ⟨by first | rfl | (simp [errW_none, errW_some] <;> rfl) | (simp [*, errW_none, errW_some] <;> rfl), by repeat (first | (with_reducible first | exact HB.out | apply below_alloc | apply pw_below_drewN | apply below_drew1) | exact HB.out)⟩
              ·rw [if_neg c85] at H
               have c85b0 : (t21 == 1) = false := beq_eq_false_iff_ne.mpr c85
               have c85b1 : (t21 != 1) = true := bne_iff_ne.mpr c85
               obtain rfl := Option.some.inj H
               go_wp2
               go_ret
               exact ⟨by first | rfl | (simp [errW_none, errW_some] <;> rfl) | (simp [*, errW_none, errW_some] <;> rfl), by repeat (first | (with_reducible first | exact HB.out | apply below_alloc | apply pw_below_drewN | apply below_drew1) | exact HB.out)⟩
           ·rw [if_neg c78] at H
            have c78b0 : (t19 == 3) = false := beq_eq_false_iff_ne.mpr c78
            have c78b1 : (t19 != 3) = true := bne_iff_ne.mpr c78
            obtain rfl := Option.some.inj H
            go_wp2
            go_ret
            exact ⟨by first | rfl | (simp [errW_none, errW_some] <;> rfl) | (simp [*, errW_none, errW_some] <;> rfl), by repeat (first | (with_reducible first | exact HB.out | apply below_alloc | apply pw_below_drewN | apply below_drew1) | exact HB.out)⟩
         ·rw [if_neg c63] at H
          have c63b0 : (t14 == 3) = false := beq_eq_false_iff_ne.mpr c63
          have c63b1 : (t14 != 3) = true := bne_iff_ne.mpr c63
          obtain rfl := Option.some.inj H
          go_wp2
          go_ret
          exact ⟨by first | rfl | (simp [errW_none, errW_some] <;> rfl) | (simp [*, errW_none, errW_some] <;> rfl), by repeat (first | (with_reducible first | exact HB.out | apply below_alloc | apply pw_below_drewN | apply below_drew1) | exact HB.out)⟩
       ·replace c33 := Bool.eq_false_iff.mpr c33
        subst c33
        have H1 : ((tree_Items.f kj19 t13).bind fun bt38 => ((tree_Items.f kj19 t18).bind fun bt42 => ((tree_Items.f kj19 t20).bind fun bt46 => (if bt38.2 = 0 then (if bt42.2 = 0 then (if bt46.2 = 0 then (if (bt38.1.length : Int) = (l0.length : Int) then (if (bt42.1.length : Int) = (l1.length : Int) then ((some (([] : List ByteArray) : List ByteArray)).bind fun y50 => (if y50.length + bt38.1.length < 8796093022208 then ((some (y50 ++ bt38.1 : List ByteArray)).bind fun y53 => (if y53.length + bt42.1.length < 8796093022208 then ((narcissusref01_Same.f kj19 bt46.1 (y53 ++ bt42.1)).bind fun t59 => (narcissuslaw02_CodeParts.j2 kj19 l0 bt38.1 (!t59))) else (none))) else (none))) else (narcissuslaw02_CodeParts.j2 kj19 l0 bt38.1 true)) else (narcissuslaw02_CodeParts.j2 kj19 l0 bt38.1 true)) else (narcissuslaw02_CodeParts.j2 kj19 l0 bt38.1 true)) else (narcissuslaw02_CodeParts.j2 kj19 l0 bt38.1 true)) else (narcissuslaw02_CodeParts.j2 kj19 l0 bt38.1 true))))) = some r := by rw [if_neg (show ¬ (false = true) by decide)] at H; exact H
        clear H
        have H := H1
        clear H1
        replace H := Option.bind_eq_some_iff.mp H
        obtain ⟨⟨t38, t39⟩, A920, H⟩ := H
        replace H : ((tree_Items.f kj19 t18).bind fun bt42 => ((tree_Items.f kj19 t20).bind fun bt46 => (if t39 = 0 then (if bt42.2 = 0 then (if bt46.2 = 0 then (if (t38.length : Int) = (l0.length : Int) then (if (bt42.1.length : Int) = (l1.length : Int) then ((some (([] : List ByteArray) : List ByteArray)).bind fun y50 => (if y50.length + t38.length < 8796093022208 then ((some (y50 ++ t38 : List ByteArray)).bind fun y53 => (if y53.length + bt42.1.length < 8796093022208 then ((narcissusref01_Same.f kj19 bt46.1 (y53 ++ bt42.1)).bind fun t59 => (narcissuslaw02_CodeParts.j2 kj19 l0 t38 (!t59))) else (none))) else (none))) else (narcissuslaw02_CodeParts.j2 kj19 l0 t38 true)) else (narcissuslaw02_CodeParts.j2 kj19 l0 t38 true)) else (narcissuslaw02_CodeParts.j2 kj19 l0 t38 true)) else (narcissuslaw02_CodeParts.j2 kj19 l0 t38 true)) else (narcissuslaw02_CodeParts.j2 kj19 l0 t38 true)))) = some r := H
        have A92 := Aside0.mk A920
        clear A920
        replace H := Option.bind_eq_some_iff.mp H
        obtain ⟨⟨t42, t43⟩, A930, H⟩ := H
        replace H : ((tree_Items.f kj19 t20).bind fun bt46 => (if t39 = 0 then (if t43 = 0 then (if bt46.2 = 0 then (if (t38.length : Int) = (l0.length : Int) then (if (t42.length : Int) = (l1.length : Int) then ((some (([] : List ByteArray) : List ByteArray)).bind fun y50 => (if y50.length + t38.length < 8796093022208 then ((some (y50 ++ t38 : List ByteArray)).bind fun y53 => (if y53.length + t42.length < 8796093022208 then ((narcissusref01_Same.f kj19 bt46.1 (y53 ++ t42)).bind fun t59 => (narcissuslaw02_CodeParts.j2 kj19 l0 t38 (!t59))) else (none))) else (none))) else (narcissuslaw02_CodeParts.j2 kj19 l0 t38 true)) else (narcissuslaw02_CodeParts.j2 kj19 l0 t38 true)) else (narcissuslaw02_CodeParts.j2 kj19 l0 t38 true)) else (narcissuslaw02_CodeParts.j2 kj19 l0 t38 true)) else (narcissuslaw02_CodeParts.j2 kj19 l0 t38 true))) = some r := H
        have A93 := Aside0.mk A930
        clear A930
        replace H := Option.bind_eq_some_iff.mp H
        obtain ⟨⟨t46, t47⟩, A940, H⟩ := H
        replace H : (if t39 = 0 then (if t43 = 0 then (if t47 = 0 then (if (t38.length : Int) = (l0.length : Int) then (if (t42.length : Int) = (l1.length : Int) then ((some (([] : List ByteArray) : List ByteArray)).bind fun y50 => (if y50.length + t38.length < 8796093022208 then ((some (y50 ++ t38 : List ByteArray)).bind fun y53 => (if y53.length + t42.length < 8796093022208 then ((narcissusref01_Same.f kj19 t46 (y53 ++ t42)).bind fun t59 => (narcissuslaw02_CodeParts.j2 kj19 l0 t38 (!t59))) else (none))) else (none))) else (narcissuslaw02_CodeParts.j2 kj19 l0 t38 true)) else (narcissuslaw02_CodeParts.j2 kj19 l0 t38 true)) else (narcissuslaw02_CodeParts.j2 kj19 l0 t38 true)) else (narcissuslaw02_CodeParts.j2 kj19 l0 t38 true)) else (narcissuslaw02_CodeParts.j2 kj19 l0 t38 true)) = some r := H
        have A94 := Aside0.mk A940
        clear A940
        have HC95 := Aside0.mk H
        clear H
        go_upto_region 12 with (first | ((with_reducible refine gate_callee (f := 18) rfl ?_); refine goesL_ (some 95) rfl rfl Tryz.func18 (by kernel_rfl) rfl #[.string t13] rfl (by (try simp only [List.map_toArray, List.map_cons, List.map_nil]); first | done | rfl | (simp only [List.length_drop, List.length_take]; rfl)) ?_; (with_reducible refine (tree_Items.calls kj19 t13 t38 t39 _ A92.out).mono ?_); rintro e w96 ⟨v40, rfl, ho0, hb⟩; refine ⟨_, rfl, ?_⟩; have n0_ := Aside0.mk (Kd.R_below (by (with_reducible repeat (first | apply Kd.R_alloc | apply Kd.R_drewN | apply Kd.R_drew)); exact HO_5.out) hb); have n1_ := Aside0.mk (Kd.R_lower ho0 (below_size (by repeat (first | (with_reducible first | exact HB.out | apply below_alloc | apply pw_below_drewN | apply below_drew1) | exact HB.out)))); have n2_ := Aside0.mk (below_step (by repeat (first | (with_reducible first | exact HB.out | apply below_alloc | apply pw_below_drewN | apply below_drew1) | exact HB.out)) hb); clear HO_5; clear HB; have HO_5 := n0_; have HO41 := n1_; have HB := n2_; clear n0_ n1_ n2_; (try clear hb); (try clear hb2); (try clear hk); (try clear hi); (try clear ho0)) | ((with_reducible refine gate_callee (f := 18) rfl ?_); refine goesL_ (some 100) rfl rfl Tryz.func18 (by kernel_rfl) rfl #[.string t18] rfl (by (try simp only [List.map_toArray, List.map_cons, List.map_nil]); first | done | rfl | (simp only [List.length_drop, List.length_take]; rfl)) ?_; (with_reducible refine (tree_Items.calls kj19 t18 t42 t43 _ A93.out).mono ?_); rintro e w97 ⟨v44, rfl, ho0, hb⟩; refine ⟨_, rfl, ?_⟩; have n0_ := Aside0.mk (Kd.R_below (by (with_reducible repeat (first | apply Kd.R_alloc | apply Kd.R_drewN | apply Kd.R_drew)); exact HO_5.out) hb); have n1_ := Aside0.mk (Kd.R_elder' (by (with_reducible repeat (first | apply Kd.R_alloc | apply Kd.R_drewN | apply Kd.R_drew)); exact HO41.out) (Kd.R_base ho0) hb); have n2_ := Aside0.mk (Kd.R_lower (Kd.R_new' ho0 (Kd.R_lt (by (with_reducible repeat (first | apply Kd.R_alloc | apply Kd.R_drewN | apply Kd.R_drew)); exact HO41.out))) (below_size (by repeat (first | (with_reducible first | exact HB.out | apply below_alloc | apply pw_below_drewN | apply below_drew1) | exact HB.out)))); have n3_ := Aside0.mk (below_step (by repeat (first | (with_reducible first | exact HB.out | apply below_alloc | apply pw_below_drewN | apply below_drew1) | exact HB.out)) hb); clear HO_5; clear HO41; clear HB; have HO_5 := n0_; have HO41 := n1_; have HO45 := n2_; have HB := n3_; clear n0_ n1_ n2_ n3_; (try clear hb); (try clear hb2); (try clear hk); (try clear hi); (try clear ho0)) | ((with_reducible refine gate_callee (f := 18) rfl ?_); refine goesL_ (some 105) rfl rfl Tryz.func18 (by kernel_rfl) rfl #[.string t20] rfl (by (try simp only [List.map_toArray, List.map_cons, List.map_nil]); first | done | rfl | (simp only [List.length_drop, List.length_take]; rfl)) ?_; (with_reducible refine (tree_Items.calls kj19 t20 t46 t47 _ A94.out).mono ?_); rintro e w98 ⟨v48, rfl, ho0, hb⟩; refine ⟨_, rfl, ?_⟩; have n0_ := Aside0.mk (Kd.R_below (by (with_reducible repeat (first | apply Kd.R_alloc | apply Kd.R_drewN | apply Kd.R_drew)); exact HO_5.out) hb); have n1_ := Aside0.mk (Kd.R_elder' (by (with_reducible repeat (first | apply Kd.R_alloc | apply Kd.R_drewN | apply Kd.R_drew)); exact HO41.out) (Kd.R_base ho0) hb); have n2_ := Aside0.mk (Kd.R_elder' (by (with_reducible repeat (first | apply Kd.R_alloc | apply Kd.R_drewN | apply Kd.R_drew)); exact HO45.out) (Kd.R_base ho0) hb); have n3_ := Aside0.mk (Kd.R_lower (Kd.R_new' (Kd.R_new' ho0 (Kd.R_lt (by (with_reducible repeat (first | apply Kd.R_alloc | apply Kd.R_drewN | apply Kd.R_drew)); exact HO41.out))) (Kd.R_lt (by (with_reducible repeat (first | apply Kd.R_alloc | apply Kd.R_drewN | apply Kd.R_drew)); exact HO45.out))) (below_size (by repeat (first | (with_reducible first | exact HB.out | apply below_alloc | apply pw_below_drewN | apply below_drew1) | exact HB.out)))); have n4_ := Aside0.mk (below_step (by repeat (first | (with_reducible first | exact HB.out | apply below_alloc | apply pw_below_drewN | apply below_drew1) | exact HB.out)) hb); clear HO_5; clear HO41; clear HO45; clear HB; have HO_5 := n0_; have HO41 := n1_; have HO45 := n2_; have HO49 := n3_; have HB := n4_; clear n0_ n1_ n2_ n3_ n4_; (try clear hb); (try clear hb2); (try clear hk); (try clear hi); (try clear ho0)))
        (try simp only [Act.put, List.setIfInBounds_toArray, List.set_cons_zero, List.set_cons_succ])
        go_cut [141] (fun v141 wc => ∃ (kq : Nat) (x141_94 : Bool), v141 = .bool x141_94 ∧ Aside0 (narcissuslaw02_CodeParts.j2 kq l0 t38 x141_94 = some r) ∧ Aside0 (kq ≤ kj19) ∧ Aside0 (Kd.R Kd.string 9 wc w.heap.size (fun _ => True) v40 t38) ∧ Aside0 (Below w.heap.size w wc))
        case first =>
         have H := HC95.out
         clear HC95
         by_cases c99 : t39 = 0
         ·rw [if_pos c99] at H
          have c99b0 : (t39 == 0) = true := beq_iff_eq.mpr c99
          have c99b1 : (t39 != 0) = false := bne_eq_false_iff_eq.mpr c99
          clear c99
          (first | rw [c99b0] | (simp only [i64_w, i32_w]; rw [c99b0]) | skip)
          by_cases c100 : t43 = 0
          ·rw [if_pos c100] at H
           have c100b0 : (t43 == 0) = true := beq_iff_eq.mpr c100
           have c100b1 : (t43 != 0) = false := bne_eq_false_iff_eq.mpr c100
           clear c100
           by_cases c101 : t47 = 0
           ·rw [if_pos c101] at H
            have c101b0 : (t47 == 0) = true := beq_iff_eq.mpr c101
            have c101b1 : (t47 != 0) = false := bne_eq_false_iff_eq.mpr c101
            clear c101
            by_cases c102 : (t38.length : Int) = (l0.length : Int)
            ·rw [if_pos c102] at H
             have c102b0 : ((t38.length : Int) == (l0.length : Int)) = true := beq_iff_eq.mpr c102
             have c102b1 : ((t38.length : Int) != (l0.length : Int)) = false := bne_eq_false_iff_eq.mpr c102
             have c102b2 : (t38.length == l0.length) = true := by first | simpa using c102 | (simp at c102 ⊢; omega)
             clear c102
             by_cases c103 : (t42.length : Int) = (l1.length : Int)
             ·rw [if_pos c103] at H
              have c103b0 : ((t42.length : Int) == (l1.length : Int)) = true := beq_iff_eq.mpr c103
              have c103b1 : ((t42.length : Int) != (l1.length : Int)) = false := bne_eq_false_iff_eq.mpr c103
              have c103b2 : (t42.length == l1.length) = true := by first | simpa using c103 | (simp at c103 ⊢; omega)
              clear c103
              obtain ⟨y50, hy50⟩ : ∃ y_ : List ByteArray, y_ = (([] : List ByteArray)) := ⟨_, rfl⟩
              replace H : (if y50.length + t38.length < 8796093022208 then ((some (y50 ++ t38 : List ByteArray)).bind fun y53 => (if y53.length + t42.length < 8796093022208 then ((narcissusref01_Same.f kj19 t46 (y53 ++ t42)).bind fun t59 => (narcissuslaw02_CodeParts.j2 kj19 l0 t38 (!t59))) else (none))) else (none)) = some r := by first | (rw [hy50]; with_reducible exact H) | (have H2_ := (Option.bind_some _ _).symm.trans H; rw [hy50]; with_reducible exact H2_) | (have H2_ := (Option.bind_some _ _).symm.trans H; with_reducible exact H2_) | with_reducible exact H | (rw [hy50]; exact H) | exact H
              have Ny50 := Aside0.mk hy50
              clear hy50
              by_cases c104 : y50.length + t38.length < 8796093022208
              ·rw [if_pos c104] at H
               have LMc104 := Aside0.mk c104
               clear c104
               obtain ⟨y53, hy53⟩ : ∃ y_ : List ByteArray, y_ = (y50 ++ t38) := ⟨_, rfl⟩
               replace H : (if y53.length + t42.length < 8796093022208 then ((narcissusref01_Same.f kj19 t46 (y53 ++ t42)).bind fun t59 => (narcissuslaw02_CodeParts.j2 kj19 l0 t38 (!t59))) else (none)) = some r := by first | (rw [hy53]; with_reducible exact H) | (have H2_ := (Option.bind_some _ _).symm.trans H; rw [hy53]; with_reducible exact H2_) | (have H2_ := (Option.bind_some _ _).symm.trans H; with_reducible exact H2_) | with_reducible exact H | (rw [hy53]; exact H) | exact H
               have Ny53 := Aside0.mk hy53
               clear hy53
               by_cases c105 : y53.length + t42.length < 8796093022208
               ·rw [if_pos c105] at H
                have LMc105 := Aside0.mk c105
                clear c105
                obtain ⟨y56, hy56⟩ : ∃ y_ : List ByteArray, y_ = (y53 ++ t42) := ⟨_, rfl⟩
                replace H : ((narcissusref01_Same.f kj19 t46 y56).bind fun t59 => (narcissuslaw02_CodeParts.j2 kj19 l0 t38 (!t59))) = some r := by first | (rw [hy56]; with_reducible exact H) | (have H2_ := (Option.bind_some _ _).symm.trans H; rw [hy56]; with_reducible exact H2_) | (have H2_ := (Option.bind_some _ _).symm.trans H; with_reducible exact H2_) | with_reducible exact H | (rw [hy56]; exact H) | exact H
                have Ny56 := Aside0.mk hy56
                clear hy56
                replace H := Option.bind_eq_some_iff.mp H
                obtain ⟨t59, A1060, H⟩ := H
                replace H : (narcissuslaw02_CodeParts.j2 kj19 l0 t38 (!t59)) = some r := H
                have A106 := Aside0.mk A1060
                clear A1060
                have H' := Aside0.mk H
                clear H
                obtain ⟨Ao107, co107, eo107⟩ := Kd.R_slice HO41.out
                subst eo107
                obtain ⟨Ao108, co108, eo108⟩ := Kd.R_slice HO45.out
                subst eo108
                go_wp2_with (first | ((with_reducible refine gate_dst (N := 134) rfl ?_); (try (refine gate_guard (by rfl) ?_; dsimp only)); refine Kd.R_lit Kd.string _ 9 ?hg (N := 134) ?hd (xs := ([] : List ByteArray)) (inner := []) (ok := fun _ => True) (okp := fun _ => True) ?hr ?hp (fun _ hk => hk) trivial (Below.refl _ _) (Nat.le_refl _) (by simp) ?_; (case hd => rfl); (case hg => rfl); (case hr => first | (go_simp; done) | (go_simp; rfl)); (case hp => exact (Reps.none _ _)); intro v51 w109 ho110 hb hg_ hnew_; clear hg_ hnew_; (first | rw [← Ny50.out] at ho110 | (simp only [Int.reduceToNat] at ho110; rw [← Ny50.out] at ho110)); have n0_ := Aside0.mk (Kd.R_below (by (with_reducible repeat (first | apply Kd.R_alloc | apply Kd.R_drewN | apply Kd.R_drew)); exact HO_5.out) hb); have n1_ := Aside0.mk (Kd.R_elder' (by (with_reducible repeat (first | apply Kd.R_alloc | apply Kd.R_drewN | apply Kd.R_drew)); exact HO41.out) (Kd.R_base ho110) hb); have n2_ := Aside0.mk (Kd.R_elder' (by (with_reducible repeat (first | apply Kd.R_alloc | apply Kd.R_drewN | apply Kd.R_drew)); exact HO45.out) (Kd.R_base ho110) hb); have n3_ := Aside0.mk (Kd.R_elder' (by (with_reducible repeat (first | apply Kd.R_alloc | apply Kd.R_drewN | apply Kd.R_drew)); exact HO49.out) (Kd.R_base ho110) hb); have n4_ := Aside0.mk (Kd.R_lower (Kd.R_new' (Kd.R_new' (Kd.R_new' ho110 (Kd.R_lt (by (with_reducible repeat (first | apply Kd.R_alloc | apply Kd.R_drewN | apply Kd.R_drew)); exact HO41.out))) (Kd.R_lt (by (with_reducible repeat (first | apply Kd.R_alloc | apply Kd.R_drewN | apply Kd.R_drew)); exact HO45.out))) (Kd.R_lt (by (with_reducible repeat (first | apply Kd.R_alloc | apply Kd.R_drewN | apply Kd.R_drew)); exact HO49.out))) (below_size (by repeat (first | (with_reducible first | exact HB.out | apply below_alloc | apply pw_below_drewN | apply below_drew1) | exact HB.out)))); have n5_ := Aside0.mk (below_step (by repeat (first | (with_reducible first | exact HB.out | apply below_alloc | apply pw_below_drewN | apply below_drew1) | exact HB.out)) hb); clear HO_5; clear HO41; clear HO45; clear HO49; clear HB; have HO_5 := n0_; have HO41 := n1_; have HO45 := n2_; have HO49 := n3_; have HO52 := n4_; have HB := n5_; clear n0_ n1_ n2_ n3_ n4_ n5_; clear hb ho110) | ((with_reducible refine gate_builtin (b := .append) (xs := #[.tmp 134, .tmp 135]) rfl ?_); (try (refine gate_guard (by rfl) ?_; dsimp only)); at_builtin; refine Kd.R_append_rows Kd.string (w0 := w) w.heap.size rfl (.tmp 134) (.tmp 135) 36 9 (.string ⟨#[]⟩) 16 rfl Tryz.underlying36 info9 rfl (by decide) (by omega) v51 y50 t38 _ _ _ (fun k_ => some k_ ≠ (.slice Ao107 t38.length co107 : Value).ownBlock ∧ some k_ ≠ (.slice Ao108 t42.length co108 : Value).ownBlock ∧ some k_ ≠ (v48 : Value).ownBlock) (fun _ => False) rfl rfl ?aO ?aR (fun _ _ h => h) (fun _ h => h.elim) ?aF ?aB ?aS ?aL ?_; (case aR => repeat (first | exact (Kd.R_reads' HO41.out).2.2 | (with_reducible refine Kd.C_alloc ?_ _) | (with_reducible refine Kd.C_drewN ?_ _) | (with_reducible refine Kd.C_drew ?_))); (case aB => exact (by repeat (first | (with_reducible first | exact HB.out | apply below_alloc | apply pw_below_drewN | apply below_drew1) | exact HB.out))); (case aF => exact (fun k_ hk => ⟨Kd.fresh' (Kd.R_lt (by (with_reducible repeat (first | apply Kd.R_alloc | apply Kd.R_drewN | apply Kd.R_drew)); exact HO41.out)) k_ hk, Kd.fresh' (Kd.R_lt (by (with_reducible repeat (first | apply Kd.R_alloc | apply Kd.R_drewN | apply Kd.R_drew)); exact HO45.out)) k_ hk, Kd.fresh' (Kd.R_lt (by (with_reducible repeat (first | apply Kd.R_alloc | apply Kd.R_drewN | apply Kd.R_drew)); exact HO49.out)) k_ hk⟩)); (case aO => exact (by (with_reducible repeat (first | apply Kd.R_alloc | apply Kd.R_drewN | apply Kd.R_drew)); exact Kd.R_mono HO52.out (fun _ hk => ⟨hk.1.1.2, ⟨hk.1.2, hk.2⟩⟩))); (case aS => exact (below_size (by repeat (first | (with_reducible first | exact HB.out | apply below_alloc | apply pw_below_drewN | apply below_drew1) | exact HB.out)))); (case aL => have := LMc104.out; first | omega | (simp only [lit_size, List.size_toArray, List.length_cons, List.length_nil]; omega)); intro v54 w111 ho hb hg hat; rw [← Ny53.out] at ho; have n0_ := Aside0.mk (Kd.R_over' (by (with_reducible repeat (first | apply Kd.R_alloc | apply Kd.R_drewN | apply Kd.R_drew)); exact HO_5.out) (Kd.R_typed (by (with_reducible repeat (first | apply Kd.R_alloc | apply Kd.R_drewN | apply Kd.R_drew)); exact HO52.out)) (by decide) hg); have n1_ := Aside0.mk (Kd.R_after (ok := (fun k_ => some k_ ≠ (.slice Ao108 t42.length co108 : Value).ownBlock ∧ some k_ ≠ (v48 : Value).ownBlock)) (by (with_reducible repeat (first | apply Kd.R_alloc | apply Kd.R_drewN | apply Kd.R_drew)); exact Kd.R_mono HO41.out (fun _ hk => ⟨⟨hk.1.1.2, hk.1.2⟩, hk.2⟩)) hg hat); have n2_ := Aside0.mk (Kd.R_after (ok := (fun k_ => some k_ ≠ (.slice Ao107 t38.length co107 : Value).ownBlock ∧ some k_ ≠ (v48 : Value).ownBlock)) (by (with_reducible repeat (first | apply Kd.R_alloc | apply Kd.R_drewN | apply Kd.R_drew)); exact Kd.R_mono HO45.out (fun _ hk => ⟨⟨hk.1.1.2, hk.1.2⟩, hk.2⟩)) hg hat); have n3_ := Aside0.mk (Kd.R_after (ok := (fun k_ => some k_ ≠ (.slice Ao107 t38.length co107 : Value).ownBlock ∧ some k_ ≠ (.slice Ao108 t42.length co108 : Value).ownBlock)) (by (with_reducible repeat (first | apply Kd.R_alloc | apply Kd.R_drewN | apply Kd.R_drew)); exact Kd.R_mono HO49.out (fun _ hk => ⟨⟨hk.1.1.2, hk.1.2⟩, hk.2⟩)) hg hat); have n4_ := Aside0.mk (hb); have n5_ := Aside0.mk (ho); clear HO_5; clear HO41; clear HO45; clear HO49; clear HB; clear HO52; have HO_5 := n0_; have HO41 := n1_; have HO45 := n2_; have HO49 := n3_; have HB := n4_; have HO55 := n5_; clear n0_ n1_ n2_ n3_ n4_ n5_; clear ho hb hg hat) | ((with_reducible refine gate_builtin (b := .append) (xs := #[.tmp 136, .tmp 137]) rfl ?_); (try (refine gate_guard (by rfl) ?_; dsimp only)); at_builtin; refine Kd.R_append_rows Kd.string (w0 := w) w.heap.size rfl (.tmp 136) (.tmp 137) 36 9 (.string ⟨#[]⟩) 16 rfl Tryz.underlying36 info9 rfl (by decide) (by omega) v54 y53 t42 _ _ _ (fun k_ => some k_ ≠ (.slice Ao107 t38.length co107 : Value).ownBlock ∧ some k_ ≠ (.slice Ao108 t42.length co108 : Value).ownBlock ∧ some k_ ≠ (v48 : Value).ownBlock) (fun _ => False) rfl rfl ?aO ?aR (fun _ _ h => h) (fun _ h => h.elim) ?aF ?aB ?aS ?aL ?_; (case aR => repeat (first | exact (Kd.R_reads' HO45.out).2.2 | (with_reducible refine Kd.C_alloc ?_ _) | (with_reducible refine Kd.C_drewN ?_ _) | (with_reducible refine Kd.C_drew ?_))); (case aB => exact (by repeat (first | (with_reducible first | exact HB.out | apply below_alloc | apply pw_below_drewN | apply below_drew1) | exact HB.out))); (case aF => exact (fun k_ hk => ⟨Kd.fresh' (Kd.R_lt (by (with_reducible repeat (first | apply Kd.R_alloc | apply Kd.R_drewN | apply Kd.R_drew)); exact HO41.out)) k_ hk, Kd.fresh' (Kd.R_lt (by (with_reducible repeat (first | apply Kd.R_alloc | apply Kd.R_drewN | apply Kd.R_drew)); exact HO45.out)) k_ hk, Kd.fresh' (Kd.R_lt (by (with_reducible repeat (first | apply Kd.R_alloc | apply Kd.R_drewN | apply Kd.R_drew)); exact HO49.out)) k_ hk⟩)); (case aO => exact (by (with_reducible repeat (first | apply Kd.R_alloc | apply Kd.R_drewN | apply Kd.R_drew)); exact HO55.out)); (case aS => exact (below_size (by repeat (first | (with_reducible first | exact HB.out | apply below_alloc | apply pw_below_drewN | apply below_drew1) | exact HB.out)))); (case aL => have := LMc105.out; first | omega | (simp only [lit_size, List.size_toArray, List.length_cons, List.length_nil]; omega)); intro v57 w112 ho hb hg hat; rw [← Ny56.out] at ho; have n0_ := Aside0.mk (Kd.R_over' (by (with_reducible repeat (first | apply Kd.R_alloc | apply Kd.R_drewN | apply Kd.R_drew)); exact HO_5.out) (Kd.R_typed (by (with_reducible repeat (first | apply Kd.R_alloc | apply Kd.R_drewN | apply Kd.R_drew)); exact HO55.out)) (by decide) hg); have n1_ := Aside0.mk (Kd.R_after (ok := (fun k_ => some k_ ≠ (.slice Ao108 t42.length co108 : Value).ownBlock ∧ some k_ ≠ (v48 : Value).ownBlock)) (by (with_reducible repeat (first | apply Kd.R_alloc | apply Kd.R_drewN | apply Kd.R_drew)); exact HO41.out) hg hat); have n2_ := Aside0.mk (Kd.R_after (ok := (fun k_ => some k_ ≠ (.slice Ao107 t38.length co107 : Value).ownBlock ∧ some k_ ≠ (v48 : Value).ownBlock)) (by (with_reducible repeat (first | apply Kd.R_alloc | apply Kd.R_drewN | apply Kd.R_drew)); exact HO45.out) hg hat); have n3_ := Aside0.mk (Kd.R_after (ok := (fun k_ => some k_ ≠ (.slice Ao107 t38.length co107 : Value).ownBlock ∧ some k_ ≠ (.slice Ao108 t42.length co108 : Value).ownBlock)) (by (with_reducible repeat (first | apply Kd.R_alloc | apply Kd.R_drewN | apply Kd.R_drew)); exact HO49.out) hg hat); have n4_ := Aside0.mk (hb); have n5_ := Aside0.mk (ho); clear HO_5; clear HO41; clear HO45; clear HO49; clear HB; clear HO55; have HO_5 := n0_; have HO41 := n1_; have HO45 := n2_; have HO49 := n3_; have HB := n4_; have HO58 := n5_; clear n0_ n1_ n2_ n3_ n4_ n5_; clear ho hb hg hat; obtain ⟨Ao113, co113, eo113⟩ := Kd.R_slice HO49.out; subst eo113; obtain ⟨Ao114, co114, eo114⟩ := Kd.R_slice HO58.out; subst eo114) | (go_at_call 19; (with_reducible refine (narcissusref01_Same.calls kj19 _ _ t46 _ _ y56 t59 _ ?side1 ?side2 ?side3 ?side4 A106.out).mono ?_); (case side1 => repeat (first | exact (Kd.R_reads' HO49.out).2.2 | (with_reducible refine Kd.C_alloc ?_ _) | (with_reducible refine Kd.C_drewN ?_ _) | (with_reducible refine Kd.C_drew ?_))); (case side2 => exact (Kd.R_reads' HO49.out).2.1); (case side3 => repeat (first | exact (Kd.R_reads' HO58.out).2.2 | (with_reducible refine Kd.C_alloc ?_ _) | (with_reducible refine Kd.C_drewN ?_ _) | (with_reducible refine Kd.C_drew ?_))); (case side4 => exact (Kd.R_reads' HO58.out).2.1); rintro e w' ⟨rfl, ⟨nd, rfl⟩⟩))
                go_meet
                case rel => exact ⟨_, (!t59), (by first | rfl | (simp; done) | (simp [*]; done)), H', ⟨by have := HJ2.out; have := HJ19.out; first | omega | exact Nat.le_refl _⟩, ⟨by (with_reducible repeat (first | apply Kd.R_alloc | apply Kd.R_drewN | apply Kd.R_drew)); exact Kd.R_mono HO41.out (fun _ hk => trivial)⟩, ⟨by repeat (first | (with_reducible first | exact HB.out | apply below_alloc | apply pw_below_drewN | apply below_drew1) | exact HB.out)⟩⟩
               ·rw [if_neg c105] at H
                exact absurd H (by simp)
              ·rw [if_neg c104] at H
               exact absurd H (by simp)
             ·rw [if_neg c103] at H
              have c103b0 : ((t42.length : Int) == (l1.length : Int)) = false := beq_eq_false_iff_ne.mpr c103
              have c103b1 : ((t42.length : Int) != (l1.length : Int)) = true := bne_iff_ne.mpr c103
              have c103b2 : (t42.length == l1.length) = false := by first | simpa using c103 | (simp at c103 ⊢; omega)
              have H' := Aside0.mk H
              clear H
              obtain ⟨Ao115, co115, eo115⟩ := Kd.R_slice HO41.out
              subst eo115
              obtain ⟨Ao116, co116, eo116⟩ := Kd.R_slice HO45.out
              subst eo116
              go_wp2
              go_meet
              case rel => exact ⟨_, (true), (by first | rfl | (simp; done) | (simp [*]; done)), H', ⟨by have := HJ2.out; have := HJ19.out; first | omega | exact Nat.le_refl _⟩, ⟨by (with_reducible repeat (first | apply Kd.R_alloc | apply Kd.R_drewN | apply Kd.R_drew)); exact Kd.R_mono HO41.out (fun _ hk => trivial)⟩, ⟨by repeat (first | (with_reducible first | exact HB.out | apply below_alloc | apply pw_below_drewN | apply below_drew1) | exact HB.out)⟩⟩
            ·rw [if_neg c102] at H
             have c102b0 : ((t38.length : Int) == (l0.length : Int)) = false := beq_eq_false_iff_ne.mpr c102
             have c102b1 : ((t38.length : Int) != (l0.length : Int)) = true := bne_iff_ne.mpr c102
             have c102b2 : (t38.length == l0.length) = false := by first | simpa using c102 | (simp at c102 ⊢; omega)
             have H' := Aside0.mk H
             clear H
             obtain ⟨Ao117, co117, eo117⟩ := Kd.R_slice HO41.out
             subst eo117
             go_wp2
             go_meet
             case rel => exact ⟨_, (true), (by first | rfl | (simp; done) | (simp [*]; done)), H', ⟨by have := HJ2.out; have := HJ19.out; first | omega | exact Nat.le_refl _⟩, ⟨by (with_reducible repeat (first | apply Kd.R_alloc | apply Kd.R_drewN | apply Kd.R_drew)); exact Kd.R_mono HO41.out (fun _ hk => trivial)⟩, ⟨by repeat (first | (with_reducible first | exact HB.out | apply below_alloc | apply pw_below_drewN | apply below_drew1) | exact HB.out)⟩⟩
           ·rw [if_neg c101] at H
            have c101b0 : (t47 == 0) = false := beq_eq_false_iff_ne.mpr c101
            have c101b1 : (t47 != 0) = true := bne_iff_ne.mpr c101
            have H' := Aside0.mk H
            clear H
            go_wp2
            go_meet
            case rel => exact ⟨_, (true), (by first | rfl | (simp; done) | (simp [*]; done)), H', ⟨by have := HJ2.out; have := HJ19.out; first | omega | exact Nat.le_refl _⟩, ⟨by (with_reducible repeat (first | apply Kd.R_alloc | apply Kd.R_drewN | apply Kd.R_drew)); exact Kd.R_mono HO41.out (fun _ hk => trivial)⟩, ⟨by repeat (first | (with_reducible first | exact HB.out | apply below_alloc | apply pw_below_drewN | apply below_drew1) | exact HB.out)⟩⟩
          ·rw [if_neg c100] at H
           have c100b0 : (t43 == 0) = false := beq_eq_false_iff_ne.mpr c100
           have c100b1 : (t43 != 0) = true := bne_iff_ne.mpr c100
           have H' := Aside0.mk H
           clear H
           go_wp2
           go_meet
           case rel => exact ⟨_, (true), (by first | rfl | (simp; done) | (simp [*]; done)), H', ⟨by have := HJ2.out; have := HJ19.out; first | omega | exact Nat.le_refl _⟩, ⟨by (with_reducible repeat (first | apply Kd.R_alloc | apply Kd.R_drewN | apply Kd.R_drew)); exact Kd.R_mono HO41.out (fun _ hk => trivial)⟩, ⟨by repeat (first | (with_reducible first | exact HB.out | apply below_alloc | apply pw_below_drewN | apply below_drew1) | exact HB.out)⟩⟩
         ·rw [if_neg c99] at H
          have c99b0 : (t39 == 0) = false := beq_eq_false_iff_ne.mpr c99
          have c99b1 : (t39 != 0) = true := bne_iff_ne.mpr c99
          (first | rw [c99b0] | (simp only [i64_w, i32_w]; rw [c99b0]) | skip)
          have H' := Aside0.mk H
          clear H
          go_wp2
          go_meet
          case rel => exact ⟨_, (true), (by first | rfl | (simp; done) | (simp [*]; done)), H', ⟨by have := HJ2.out; have := HJ19.out; first | omega | exact Nat.le_refl _⟩, ⟨by (with_reducible repeat (first | apply Kd.R_alloc | apply Kd.R_drewN | apply Kd.R_drew)); exact Kd.R_mono HO41.out (fun _ hk => trivial)⟩, ⟨by repeat (first | (with_reducible first | exact HB.out | apply below_alloc | apply pw_below_drewN | apply below_drew1) | exact HB.out)⟩⟩
        case rest =>
         clear HC95
         try clear c1
         try clear p2
         try clear c3
         try clear c4
         try clear c5
         try clear c6
         try clear c7
         try clear c8
         try clear c9
         try clear c10
         try clear c14
         try clear c15
         try clear c16
         try clear c17
         try clear c18
         try clear c31
         try clear c31b0
         try clear c31b1
         try clear c32
         try clear c32b0
         try clear c32b1
         try clear c33
         try clear c34
         try clear c34b0
         try clear c34b1
         try clear c35
         try clear c35b0
         try clear c35b1
         try clear c36
         try clear c36b0
         try clear c36b1
         try clear c39
         try clear c39b0
         try clear c39b1
         try clear c42
         try clear c42b0
         try clear c42b1
         try clear c44
         try clear c49
         try clear c49b0
         try clear c49b1
         try clear c50
         try clear c50b0
         try clear c50b1
         try clear c53
         try clear c53b0
         try clear c53b1
         try clear c56
         try clear c56b0
         try clear c56b1
         try clear c58
         try clear c63
         try clear c63b0
         try clear c63b1
         try clear c64
         try clear c64b0
         try clear c64b1
         try clear c65
         try clear c65b0
         try clear c65b1
         try clear c68
         try clear c68b0
         try clear c68b1
         try clear c71
         try clear c71b0
         try clear c71b1
         try clear c73
         try clear c78
         try clear c78b0
         try clear c78b1
         try clear c79
         try clear c79b0
         try clear c79b1
         try clear c82
         try clear c82b0
         try clear c82b1
         try clear c85
         try clear c85b0
         try clear c85b1
         try clear c87
         try clear c99
         try clear c99b0
         try clear c99b1
         try clear c100
         try clear c100b0
         try clear c100b1
         try clear c101
         try clear c101b0
         try clear c101b1
         try clear c102
         try clear c102b0
         try clear c102b1
         try clear c102b2
         try clear c103
         try clear c103b0
         try clear c103b1
         try clear c103b2
         try clear c104
         try clear c105
         try clear p2
         obtain ⟨kq, x141_94, rfl, HA, HJ94, HO_12, HB⟩ := hcut
         cases kq with
         | zero => exact absurd HA.out (by simp [narcissuslaw02_CodeParts.j2])
         | succ kj94 =>
          have H := HA.out
          clear HA
          simp only [narcissuslaw02_CodeParts.j2] at H
          by_cases c118 : x141_94 = true
          ·subst c118
           have H1 : (some false) = some r := by rw [if_pos rfl] at H; exact H
           clear H
           have H := H1
           clear H1
           obtain rfl := Option.some.inj H
           go_wp2
           go_ret
           exact ⟨by first | rfl | (simp [errW_none, errW_some] <;> rfl) | (simp [*, errW_none, errW_some] <;> rfl), by repeat (first | (with_reducible first | exact HB.out | apply below_alloc | apply pw_below_drewN | apply below_drew1) | exact HB.out)⟩
          ·replace c118 := Bool.eq_false_iff.mpr c118
           subst c118
           have H1 : (narcissuslaw02_CodeParts.l0 kj94 l0 t38 0) = some r := by rw [if_neg (show ¬ (false = true) by decide)] at H; exact H
           clear H
           have H := H1
           clear H1
           have H' := Aside0.mk H
           clear H
           go_wp2
           go_loopg [18] kj94 (fun kq v18 w' => ∃ (x18_4 : Int), v18 = .int .i64 x18_4 ∧ Aside0 (narcissuslaw02_CodeParts.l0 kq l0 t38 x18_4 = some r) ∧ Aside0 (kq ≤ kj94) ∧ Aside0 (Kd.R Kd.string 9 w' w.heap.size (fun _ => True) v40 t38) ∧ Aside0 (Below w.heap.size w w'))
           case atStart => exact ⟨(0), (by first | rfl | (simp; done) | (simp [*]; done)), H', ⟨Nat.le_refl _⟩, ⟨by (with_reducible repeat (first | apply Kd.R_alloc | apply Kd.R_drewN | apply Kd.R_drew)); exact HO_12.out⟩, ⟨by repeat (first | (with_reducible first | exact HB.out | apply below_alloc | apply pw_below_drewN | apply below_drew1) | exact HB.out)⟩⟩
           case round =>
            clear H'
            try clear c1
            try clear p2
            try clear c3
            try clear c4
            try clear c5
            try clear c6
            try clear c7
            try clear c8
            try clear c9
            try clear c10
            try clear c11
            try clear c14
            try clear c15
            try clear c16
            try clear c17
            try clear c18
            try clear c31
            try clear c31b0
            try clear c31b1
            try clear c32
            try clear c32b0
            try clear c32b1
            try clear c33
            try clear c34
            try clear c34b0
            try clear c34b1
            try clear c35
            try clear c35b0
            try clear c35b1
            try clear c36
            try clear c36b0
            try clear c36b1
            try clear c39
            try clear c39b0
            try clear c39b1
            try clear c42
            try clear c42b0
            try clear c42b1
            try clear c44
            try clear c49
            try clear c49b0
            try clear c49b1
            try clear c50
            try clear c50b0
            try clear c50b1
            try clear c53
            try clear c53b0
            try clear c53b1
            try clear c56
            try clear c56b0
            try clear c56b1
            try clear c58
            try clear c63
            try clear c63b0
            try clear c63b1
            try clear c64
            try clear c64b0
            try clear c64b1
            try clear c65
            try clear c65b0
            try clear c65b1
            try clear c68
            try clear c68b0
            try clear c68b1
            try clear c71
            try clear c71b0
            try clear c71b1
            try clear c73
            try clear c78
            try clear c78b0
            try clear c78b1
            try clear c79
            try clear c79b0
            try clear c79b1
            try clear c82
            try clear c82b0
            try clear c82b1
            try clear c85
            try clear c85b0
            try clear c85b1
            try clear c87
            try clear c99
            try clear c99b0
            try clear c99b1
            try clear c100
            try clear c100b0
            try clear c100b1
            try clear c101
            try clear c101b0
            try clear c101b1
            try clear c102
            try clear c102b0
            try clear c102b1
            try clear c102b2
            try clear c103
            try clear c103b0
            try clear c103b1
            try clear c103b2
            try clear c104
            try clear c105
            try clear c118
            try clear p2
            obtain ⟨x18_4, rfl, HA, HK4, HO_12, HB⟩ := hrel
            cases gk with
            | zero => exact absurd HA.out (by simp [narcissuslaw02_CodeParts.l0])
            | succ k4 =>
             have H := HA.out
             clear HA
             simp only [narcissuslaw02_CodeParts.l0] at H
             by_cases c119 : x18_4 < (l0.length : Int)
             ·rw [if_pos c119] at H
              have c119b0 : decide (x18_4 < (l0.length : Int)) = true := decide_eq_true c119
              clear c119
              by_cases c120 : 0 ≤ x18_4
              ·rw [if_pos c120] at H
               have c120b0 : decide (0 ≤ x18_4) = true := decide_eq_true c120
               clear c120
               by_cases c121 : x18_4 < (t38.length : Int)
               ·rw [if_pos c121] at H
                have c121b0 : decide (x18_4 < (t38.length : Int)) = true := decide_eq_true c121
                clear c121
                replace H := Option.bind_eq_some_iff.mp H
                obtain ⟨t62, A1220, H⟩ := H
                replace H : (if (rdOf ByteArray.empty t38 x18_4).toList = t62.toList then (narcissuslaw02_CodeParts.l0 k4 l0 t38 (wrap64 (x18_4 + 1))) else (some false)) = some r := H
                have A122 := Aside0.mk A1220
                clear A1220
                by_cases c123 : (rdOf ByteArray.empty t38 x18_4).toList = t62.toList
                ·rw [if_pos c123] at H
                 have c123b0 : ((rdOf ByteArray.empty t38 x18_4).toList == t62.toList) = true := beq_iff_eq.mpr c123
                 have c123b1 : ((rdOf ByteArray.empty t38 x18_4).toList != t62.toList) = false := bne_eq_false_iff_eq.mpr c123
                 clear c123
                 have H' := Aside0.mk H
                 clear H
                 try go_wp2
                 have n0_ := Aside0.mk (Kd.R_drew HO_12.out)
                 have n1_ := Aside0.mk (below_drew1 HB.out)
                 clear HO_12
                 clear HB
                 have HO_12 := n0_
                 have HB := n1_
                 clear n0_ n1_
                 obtain ⟨Ao125, co125, eo125⟩ := Kd.R_slice HO_12.out
                 (first | subst eo125 | (injection eo125 with f1_ f2_ f3_; have f4_ := f1_.symm; have f5_ := f3_.symm; clear f1_ f2_ f3_; subst f4_; subst f5_))
                 have p60 : 0 ≤ (x18_4 : Int) := of_decide_eq_true (by first | (with_reducible assumption) | assumption)
                 have q60 : x18_4 < (t38.length : Int) := of_decide_eq_true (by first | (with_reducible assumption) | assumption)
                 obtain ⟨ad60, e60, hx60_0⟩ := Kd.at_string (Kd.R_reads' HO_12.out).2.2 x18_4 p60 q60
                 cases e60
                 replace p60 := eq_true p60
                 replace q60 := eq_true q60
                 have p61 : 0 ≤ (x18_4 : Int) := of_decide_eq_true (by first | (with_reducible assumption) | assumption)
                 have q61 : x18_4 < (l0.length : Int) := of_decide_eq_true (by first | (with_reducible assumption) | assumption)
                 obtain ⟨ad61, e61, hx61_0, hx61_1, hx61_2, hx61_3, hx61_4⟩ := at_T42 HR0.out x18_4 p61 q61
                 have hw61_4 := hx61_4
                 have hw61_3 := hx61_3
                 have hw61_2 := hx61_2
                 have hw61_1 := hx61_1
                 have hw61_0 := hx61_0
                 cases e61
                 replace hx61_0 := (HB.out.cell (World.block_lt_of_cell? w _ hx61_0)).trans hx61_0
                 replace hx61_1 := (HB.out.cell (World.block_lt_of_cell? w _ hx61_1)).trans hx61_1
                 replace hx61_2 := (HB.out.cell (World.block_lt_of_cell? w _ hx61_2)).trans hx61_2
                 replace hx61_3 := (HB.out.cell (World.block_lt_of_cell? w _ hx61_3)).trans hx61_3
                 replace hx61_4 := (HB.out.cell (World.block_lt_of_cell? w _ hx61_4)).trans hx61_4
                 replace p61 := eq_true p61
                 replace q61 := eq_true q61
                 refine start_ (n := 10) (S := fun w' => w'.cell? (ad60.add (x18_4).toNat) = some (.string (rdOf ByteArray.empty t38 x18_4)) ∧ w'.cell? (ad61.add ((x18_4).toNat * 5)) = some (.int .i64 ((rd_T42 l0 x18_4).f0)) ∧ w'.cell? ⟨(ad61.add ((x18_4).toNat * 5)).block, (ad61.add ((x18_4).toNat * 5)).off + 1, none⟩ = some (.int .i64 ((rd_T42 l0 x18_4).f1)) ∧ w'.cell? ⟨(ad61.add ((x18_4).toNat * 5)).block, (ad61.add ((x18_4).toNat * 5)).off + 2, none⟩ = some (.int .i64 ((rd_T42 l0 x18_4).f2)) ∧ w'.cell? ⟨(ad61.add ((x18_4).toNat * 5)).block, (ad61.add ((x18_4).toNat * 5)).off + 3, none⟩ = some (.int .i64 ((rd_T42 l0 x18_4).f3)) ∧ w'.cell? ⟨(ad61.add ((x18_4).toNat * 5)).block, (ad61.add ((x18_4).toNat * 5)).off + 4, none⟩ = some (.string ((rd_T42 l0 x18_4).f4))) (ds := []) #[false, false, false, false, false, false, false, false, false, false] (by kernel_rfl) rfl rfl ⟨hx60_0, ((HB.out.cell (World.block_lt_of_cell? w _ hw61_0)).trans hw61_0), ((HB.out.cell (World.block_lt_of_cell? w _ hw61_1)).trans hw61_1), ((HB.out.cell (World.block_lt_of_cell? w _ hw61_2)).trans hw61_2), ((HB.out.cell (World.block_lt_of_cell? w _ hw61_3)).trans hw61_3), ((HB.out.cell (World.block_lt_of_cell? w _ hw61_4)).trans hw61_4)⟩ (fun hHeld => ?_); refine with_tabW narcissuslaw02_CodeParts.tab17 narcissuslaw02_CodeParts.bits17 (fun HT_ HW_ => ?_)
                 generalize wr.drew = w124 at HO_12 HB hx60_0 hx61_0 hx61_1 hx61_2 hx61_3 hx61_4 hHeld ⊢
                 refine pure_ (i := 0) (N := some 148) (v := ?_) (a' := ?_) #[true, false, false, false, false, false, false, false, false, false] rfl rfl (any_of HT_.out (by kernel_rfl)) (fun _ _ _ h => h) (Or.inl ⟨by rfl, ?_⟩) ?_ ?_
                 rotate_left
                 ·intro w'
                  go_simp
                  with_reducible rfl
                 rotate_left
                 ·simp only [Act.put, List.setIfInBounds_toArray, List.set_cons_zero, List.set_cons_succ, i64_w, i32_w]
                  rfl
                 refine pure_ (i := 1) (N := some 149) (v := ?_) (a' := ?_) #[true, true, false, false, false, false, false, false, false, false] rfl rfl (any_of HT_.out (by kernel_rfl)) (fun _ _ _ h => h) (Or.inl ⟨by rfl, ?_⟩) ?_ ?_
                 rotate_left
                 ·intro w'
                  go_simp
                  with_reducible rfl
                 rotate_left
                 ·simp only [Act.put, List.setIfInBounds_toArray, List.set_cons_zero, List.set_cons_succ, i64_w, i32_w]
                  rfl
                 refine pure_ (i := 2) (N := some 150) (v := ?_) (a' := ?_) #[true, true, true, false, false, false, false, false, false, false] rfl rfl (any_of HT_.out (by kernel_rfl)) (fun _ _ _ h => h) (Or.inl ⟨by rfl, ?_⟩) ?_ ?_
                 rotate_left
                 ·intro w'
                  go_simp
                  with_reducible rfl
                 rotate_left
                 ·simp only [Act.put, List.setIfInBounds_toArray, List.set_cons_zero, List.set_cons_succ, i64_w, i32_w]
                  rfl
                 refine pure_ (i := 4) (N := some 152) (v := ?_) (a' := ?_) #[true, true, true, false, true, false, false, false, false, false] rfl rfl (any_of HT_.out (by kernel_rfl)) (fun _ _ _ h => h) (Or.inl ⟨by rfl, ?_⟩) ?_ ?_
                 rotate_left
                 ·intro w'
                  go_simp
                  with_reducible rfl
                 rotate_left
                 ·simp only [Act.put, List.setIfInBounds_toArray, List.set_cons_zero, List.set_cons_succ, i64_w, i32_w]
                  rfl
                 refine pure_ (i := 5) (N := some 153) (v := ?_) (a' := ?_) #[true, true, true, false, true, true, false, false, false, false] rfl rfl (any_of HT_.out (by kernel_rfl)) (fun _ _ _ h => h) (Or.inl ⟨by rfl, ?_⟩) ?_ ?_
                 rotate_left
                 ·intro w'
                  go_simp
                  with_reducible rfl
                 rotate_left
                 ·simp only [Act.put, List.setIfInBounds_toArray, List.set_cons_zero, List.set_cons_succ, i64_w, i32_w]
                  rfl
                 refine pure_ (i := 6) (N := some 154) (v := ?_) (a' := ?_) #[true, true, true, false, true, true, true, false, false, false] rfl rfl (any_of HT_.out (by kernel_rfl)) (fun _ _ _ h => h) (Or.inl ⟨by rfl, ?_⟩) ?_ ?_
                 rotate_left
                 ·intro w'
                  go_simp
                  with_reducible rfl
                 rotate_left
                 ·simp only [Act.put, List.setIfInBounds_toArray, List.set_cons_zero, List.set_cons_succ, i64_w, i32_w]
                  rfl
                 refine take_ (i := 3) (N := some 151) (v := ?_) (a' := ?_) #[true, true, true, true, true, true, true, false, false, false] rfl rfl (take_ofW HT_.out HW_.out (by kernel_rfl)) (fun _ _ _ h => h) (Or.inl ⟨by rfl, ?_⟩) hHeld ?_ ?_
                 rotate_left
                 ·rintro w' ⟨s0, s1, s2, s3, s4, s5⟩
                  go_simp
                  with_reducible rfl
                 rotate_left
                 ·simp only [Act.put, List.setIfInBounds_toArray, List.set_cons_zero, List.set_cons_succ, i64_w, i32_w]
                  rfl
                 refine take_ (i := 7) (N := some 155) (v := ?_) (a' := ?_) #[true, true, true, true, true, true, true, true, false, false] rfl rfl (take_ofW HT_.out HW_.out (by kernel_rfl)) (fun _ _ _ h => h) (Or.inl ⟨by rfl, ?_⟩) hHeld ?_ ?_
                 rotate_left
                 ·rintro w' ⟨s0, s1, s2, s3, s4, s5⟩
                  go_simp
                  with_reducible rfl
                 rotate_left
                 ·simp only [Act.put, List.setIfInBounds_toArray, List.set_cons_zero, List.set_cons_succ, i64_w, i32_w]
                  rfl
                 refine one_ (i := 8) (N := some 156) #[true, true, true, true, true, true, true, true, true, false] rfl rfl (one_of HT_.out (by kernel_rfl)) (by decide) (fun K hK => ?_)
                 refine goes_ Tryz.func20 (by kernel_rfl) rfl #[.agg #[.int .i64 ((rd_T42 l0 x18_4).f0), .int .i64 ((rd_T42 l0 x18_4).f1), .int .i64 ((rd_T42 l0 x18_4).f2), .int .i64 ((rd_T42 l0 x18_4).f3), .string ((rd_T42 l0 x18_4).f4)]] (by rfl) rfl rfl (by (try simp only [List.map_toArray, List.map_cons, List.map_nil]); first | done | rfl | (simp only [List.length_drop, List.length_take]; rfl)) ?_
                 with_reducible refine (narcissusref02_CodeOf.calls k4 ((rd_T42 l0 x18_4).f0) ((rd_T42 l0 x18_4).f1) ((rd_T42 l0 x18_4).f2) ((rd_T42 l0 x18_4).f3) ((rd_T42 l0 x18_4).f4) t62 _ A122.out).mono ?_
                 rintro e w126 ⟨rfl, hb⟩
                 have HS0_ := (hb.cell (World.block_lt_of_cell? _ _ (hHeld.1))).trans (hHeld.1)
                 refine ⟨_, rfl, ?_⟩
                 have n0_ := Aside0.mk (Kd.R_below (by (with_reducible repeat (first | apply Kd.R_alloc | apply Kd.R_drewN | apply Kd.R_drew)); exact HO_12.out) hb)
                 have n1_ := Aside0.mk (below_step (by repeat (first | (with_reducible first | exact HB.out | apply below_alloc | apply pw_below_drewN | apply below_drew1) | exact HB.out)) hb)
                 clear HO_12
                 clear HB
                 have HO_12 := n0_
                 have HB := n1_
                 clear n0_ n1_
                 (try clear hb)
                 (try clear hb2)
                 (try clear hk)
                 (try clear hi)
                 refine hK.out _ _ ⟨HS0_, ((HB.out.cell (World.block_lt_of_cell? w _ hw61_0)).trans hw61_0), ((HB.out.cell (World.block_lt_of_cell? w _ hw61_1)).trans hw61_1), ((HB.out.cell (World.block_lt_of_cell? w _ hw61_2)).trans hw61_2), ((HB.out.cell (World.block_lt_of_cell? w _ hw61_3)).trans hw61_3), ((HB.out.cell (World.block_lt_of_cell? w _ hw61_4)).trans hw61_4)⟩ (fun hHeld => ?_)
                 clear hK K
                 refine norm_ (a' := ?_) ?_ ?_
                 rotate_left
                 ·show Act.put _ (some 156) _ = _
                  simp only [Act.put, List.setIfInBounds_toArray, List.set_cons_zero, List.set_cons_succ, i64_w, i32_w]
                  rfl
                 refine pure_ (i := 9) (N := some 157) (v := ?_) (a' := ?_) #[true, true, true, true, true, true, true, true, true, true] rfl rfl (any_of HT_.out (by kernel_rfl)) (fun _ _ _ h => h) (Or.inl ⟨by rfl, ?_⟩) ?_ ?_
                 rotate_left
                 ·intro w'
                  go_simp
                  with_reducible rfl
                 rotate_left
                 ·simp only [Act.put, List.setIfInBounds_toArray, List.set_cons_zero, List.set_cons_succ, i64_w, i32_w]
                  rfl
                 refine done_ (done_of HT_.out (by kernel_rfl)) ?_
                 try go_wp2
                 go_roundg k4
                 case measure => have := HJ2.out; have := HJ19.out; have := HJ94.out; have := HK4.out; omega
                 case rel => exact ⟨(wrap64 (x18_4 + 1)), (by first | rfl | (simp; done) | (simp [*]; done)), H', ⟨by have := HJ2.out; have := HJ19.out; have := HJ94.out; have := HK4.out; omega⟩, ⟨by (with_reducible repeat (first | apply Kd.R_alloc | apply Kd.R_drewN | apply Kd.R_drew)); exact HO_12.out⟩, ⟨by repeat (first | (with_reducible first | exact HB.out | apply below_alloc | apply pw_below_drewN | apply below_drew1) | exact HB.out)⟩⟩
                ·rw [if_neg c123] at H
                 have c123b0 : ((rdOf ByteArray.empty t38 x18_4).toList == t62.toList) = false := beq_eq_false_iff_ne.mpr c123
                 have c123b1 : ((rdOf ByteArray.empty t38 x18_4).toList != t62.toList) = true := bne_iff_ne.mpr c123
                 obtain rfl := Option.some.inj H
                 try go_wp2
                 have n0_ := Aside0.mk (Kd.R_drew HO_12.out)
                 have n1_ := Aside0.mk (below_drew1 HB.out)
                 clear HO_12
                 clear HB
                 have HO_12 := n0_
                 have HB := n1_
                 clear n0_ n1_
                 obtain ⟨Ao128, co128, eo128⟩ := Kd.R_slice HO_12.out
                 (first | subst eo128 | (injection eo128 with f1_ f2_ f3_; have f4_ := f1_.symm; have f5_ := f3_.symm; clear f1_ f2_ f3_; subst f4_; subst f5_))
                 have p60 : 0 ≤ (x18_4 : Int) := of_decide_eq_true (by first | (with_reducible assumption) | assumption)
                 have q60 : x18_4 < (t38.length : Int) := of_decide_eq_true (by first | (with_reducible assumption) | assumption)
                 obtain ⟨ad60, e60, hx60_0⟩ := Kd.at_string (Kd.R_reads' HO_12.out).2.2 x18_4 p60 q60
                 cases e60
                 replace p60 := eq_true p60
                 replace q60 := eq_true q60
                 have p61 : 0 ≤ (x18_4 : Int) := of_decide_eq_true (by first | (with_reducible assumption) | assumption)
                 have q61 : x18_4 < (l0.length : Int) := of_decide_eq_true (by first | (with_reducible assumption) | assumption)
                 obtain ⟨ad61, e61, hx61_0, hx61_1, hx61_2, hx61_3, hx61_4⟩ := at_T42 HR0.out x18_4 p61 q61
                 have hw61_4 := hx61_4
                 have hw61_3 := hx61_3
                 have hw61_2 := hx61_2
                 have hw61_1 := hx61_1
                 have hw61_0 := hx61_0
                 cases e61
                 replace hx61_0 := (HB.out.cell (World.block_lt_of_cell? w _ hx61_0)).trans hx61_0
                 replace hx61_1 := (HB.out.cell (World.block_lt_of_cell? w _ hx61_1)).trans hx61_1
                 replace hx61_2 := (HB.out.cell (World.block_lt_of_cell? w _ hx61_2)).trans hx61_2
                 replace hx61_3 := (HB.out.cell (World.block_lt_of_cell? w _ hx61_3)).trans hx61_3
                 replace hx61_4 := (HB.out.cell (World.block_lt_of_cell? w _ hx61_4)).trans hx61_4
                 replace p61 := eq_true p61
                 replace q61 := eq_true q61
                 refine start_ (n := 10) (S := fun w' => w'.cell? (ad60.add (x18_4).toNat) = some (.string (rdOf ByteArray.empty t38 x18_4)) ∧ w'.cell? (ad61.add ((x18_4).toNat * 5)) = some (.int .i64 ((rd_T42 l0 x18_4).f0)) ∧ w'.cell? ⟨(ad61.add ((x18_4).toNat * 5)).block, (ad61.add ((x18_4).toNat * 5)).off + 1, none⟩ = some (.int .i64 ((rd_T42 l0 x18_4).f1)) ∧ w'.cell? ⟨(ad61.add ((x18_4).toNat * 5)).block, (ad61.add ((x18_4).toNat * 5)).off + 2, none⟩ = some (.int .i64 ((rd_T42 l0 x18_4).f2)) ∧ w'.cell? ⟨(ad61.add ((x18_4).toNat * 5)).block, (ad61.add ((x18_4).toNat * 5)).off + 3, none⟩ = some (.int .i64 ((rd_T42 l0 x18_4).f3)) ∧ w'.cell? ⟨(ad61.add ((x18_4).toNat * 5)).block, (ad61.add ((x18_4).toNat * 5)).off + 4, none⟩ = some (.string ((rd_T42 l0 x18_4).f4))) (ds := []) #[false, false, false, false, false, false, false, false, false, false] (by kernel_rfl) rfl rfl ⟨hx60_0, ((HB.out.cell (World.block_lt_of_cell? w _ hw61_0)).trans hw61_0), ((HB.out.cell (World.block_lt_of_cell? w _ hw61_1)).trans hw61_1), ((HB.out.cell (World.block_lt_of_cell? w _ hw61_2)).trans hw61_2), ((HB.out.cell (World.block_lt_of_cell? w _ hw61_3)).trans hw61_3), ((HB.out.cell (World.block_lt_of_cell? w _ hw61_4)).trans hw61_4)⟩ (fun hHeld => ?_); refine with_tabW narcissuslaw02_CodeParts.tab17 narcissuslaw02_CodeParts.bits17 (fun HT_ HW_ => ?_)
                 generalize wr.drew = w127 at HO_12 HB hx60_0 hx61_0 hx61_1 hx61_2 hx61_3 hx61_4 hHeld ⊢
                 refine pure_ (i := 0) (N := some 148) (v := ?_) (a' := ?_) #[true, false, false, false, false, false, false, false, false, false] rfl rfl (any_of HT_.out (by kernel_rfl)) (fun _ _ _ h => h) (Or.inl ⟨by rfl, ?_⟩) ?_ ?_
                 rotate_left
                 ·intro w'
                  go_simp
                  with_reducible rfl
                 rotate_left
                 ·simp only [Act.put, List.setIfInBounds_toArray, List.set_cons_zero, List.set_cons_succ, i64_w, i32_w]
                  rfl
                 refine pure_ (i := 1) (N := some 149) (v := ?_) (a' := ?_) #[true, true, false, false, false, false, false, false, false, false] rfl rfl (any_of HT_.out (by kernel_rfl)) (fun _ _ _ h => h) (Or.inl ⟨by rfl, ?_⟩) ?_ ?_
                 rotate_left
                 ·intro w'
                  go_simp
                  with_reducible rfl
                 rotate_left
                 ·simp only [Act.put, List.setIfInBounds_toArray, List.set_cons_zero, List.set_cons_succ, i64_w, i32_w]
                  rfl
                 refine pure_ (i := 2) (N := some 150) (v := ?_) (a' := ?_) #[true, true, true, false, false, false, false, false, false, false] rfl rfl (any_of HT_.out (by kernel_rfl)) (fun _ _ _ h => h) (Or.inl ⟨by rfl, ?_⟩) ?_ ?_
                 rotate_left
                 ·intro w'
                  go_simp
                  with_reducible rfl
                 rotate_left
                 ·simp only [Act.put, List.setIfInBounds_toArray, List.set_cons_zero, List.set_cons_succ, i64_w, i32_w]
                  rfl
                 refine pure_ (i := 4) (N := some 152) (v := ?_) (a' := ?_) #[true, true, true, false, true, false, false, false, false, false] rfl rfl (any_of HT_.out (by kernel_rfl)) (fun _ _ _ h => h) (Or.inl ⟨by rfl, ?_⟩) ?_ ?_
                 rotate_left
                 ·intro w'
                  go_simp
                  with_reducible rfl
                 rotate_left
                 ·simp only [Act.put, List.setIfInBounds_toArray, List.set_cons_zero, List.set_cons_succ, i64_w, i32_w]
                  rfl
                 refine pure_ (i := 5) (N := some 153) (v := ?_) (a' := ?_) #[true, true, true, false, true, true, false, false, false, false] rfl rfl (any_of HT_.out (by kernel_rfl)) (fun _ _ _ h => h) (Or.inl ⟨by rfl, ?_⟩) ?_ ?_
                 rotate_left
                 ·intro w'
                  go_simp
                  with_reducible rfl
                 rotate_left
                 ·simp only [Act.put, List.setIfInBounds_toArray, List.set_cons_zero, List.set_cons_succ, i64_w, i32_w]
                  rfl
                 refine pure_ (i := 6) (N := some 154) (v := ?_) (a' := ?_) #[true, true, true, false, true, true, true, false, false, false] rfl rfl (any_of HT_.out (by kernel_rfl)) (fun _ _ _ h => h) (Or.inl ⟨by rfl, ?_⟩) ?_ ?_
                 rotate_left
                 ·intro w'
                  go_simp
                  with_reducible rfl
                 rotate_left
                 ·simp only [Act.put, List.setIfInBounds_toArray, List.set_cons_zero, List.set_cons_succ, i64_w, i32_w]
                  rfl
                 refine take_ (i := 3) (N := some 151) (v := ?_) (a' := ?_) #[true, true, true, true, true, true, true, false, false, false] rfl rfl (take_ofW HT_.out HW_.out (by kernel_rfl)) (fun _ _ _ h => h) (Or.inl ⟨by rfl, ?_⟩) hHeld ?_ ?_
                 rotate_left
                 ·rintro w' ⟨s0, s1, s2, s3, s4, s5⟩
                  go_simp
                  with_reducible rfl
                 rotate_left
                 ·simp only [Act.put, List.setIfInBounds_toArray, List.set_cons_zero, List.set_cons_succ, i64_w, i32_w]
                  rfl
                 refine take_ (i := 7) (N := some 155) (v := ?_) (a' := ?_) #[true, true, true, true, true, true, true, true, false, false] rfl rfl (take_ofW HT_.out HW_.out (by kernel_rfl)) (fun _ _ _ h => h) (Or.inl ⟨by rfl, ?_⟩) hHeld ?_ ?_
                 rotate_left
                 ·rintro w' ⟨s0, s1, s2, s3, s4, s5⟩
                  go_simp
                  with_reducible rfl
                 rotate_left
                 ·simp only [Act.put, List.setIfInBounds_toArray, List.set_cons_zero, List.set_cons_succ, i64_w, i32_w]
                  rfl
                 refine one_ (i := 8) (N := some 156) #[true, true, true, true, true, true, true, true, true, false] rfl rfl (one_of HT_.out (by kernel_rfl)) (by decide) (fun K hK => ?_)
                 refine goes_ Tryz.func20 (by kernel_rfl) rfl #[.agg #[.int .i64 ((rd_T42 l0 x18_4).f0), .int .i64 ((rd_T42 l0 x18_4).f1), .int .i64 ((rd_T42 l0 x18_4).f2), .int .i64 ((rd_T42 l0 x18_4).f3), .string ((rd_T42 l0 x18_4).f4)]] (by rfl) rfl rfl (by (try simp only [List.map_toArray, List.map_cons, List.map_nil]); first | done | rfl | (simp only [List.length_drop, List.length_take]; rfl)) ?_
                 with_reducible refine (narcissusref02_CodeOf.calls k4 ((rd_T42 l0 x18_4).f0) ((rd_T42 l0 x18_4).f1) ((rd_T42 l0 x18_4).f2) ((rd_T42 l0 x18_4).f3) ((rd_T42 l0 x18_4).f4) t62 _ A122.out).mono ?_
                 rintro e w129 ⟨rfl, hb⟩
                 have HS0_ := (hb.cell (World.block_lt_of_cell? _ _ (hHeld.1))).trans (hHeld.1)
                 refine ⟨_, rfl, ?_⟩
                 have n0_ := Aside0.mk (Kd.R_below (by (with_reducible repeat (first | apply Kd.R_alloc | apply Kd.R_drewN | apply Kd.R_drew)); exact HO_12.out) hb)
                 have n1_ := Aside0.mk (below_step (by repeat (first | (with_reducible first | exact HB.out | apply below_alloc | apply pw_below_drewN | apply below_drew1) | exact HB.out)) hb)
                 clear HO_12
                 clear HB
                 have HO_12 := n0_
                 have HB := n1_
                 clear n0_ n1_
                 (try clear hb)
                 (try clear hb2)
                 (try clear hk)
                 (try clear hi)
                 refine hK.out _ _ ⟨HS0_, ((HB.out.cell (World.block_lt_of_cell? w _ hw61_0)).trans hw61_0), ((HB.out.cell (World.block_lt_of_cell? w _ hw61_1)).trans hw61_1), ((HB.out.cell (World.block_lt_of_cell? w _ hw61_2)).trans hw61_2), ((HB.out.cell (World.block_lt_of_cell? w _ hw61_3)).trans hw61_3), ((HB.out.cell (World.block_lt_of_cell? w _ hw61_4)).trans hw61_4)⟩ (fun hHeld => ?_)
                 clear hK K
                 refine norm_ (a' := ?_) ?_ ?_
                 rotate_left
                 ·show Act.put _ (some 156) _ = _
                  simp only [Act.put, List.setIfInBounds_toArray, List.set_cons_zero, List.set_cons_succ, i64_w, i32_w]
                  rfl
                 refine pure_ (i := 9) (N := some 157) (v := ?_) (a' := ?_) #[true, true, true, true, true, true, true, true, true, true] rfl rfl (any_of HT_.out (by kernel_rfl)) (fun _ _ _ h => h) (Or.inl ⟨by rfl, ?_⟩) ?_ ?_
                 rotate_left
                 ·intro w'
                  go_simp
                  with_reducible rfl
                 rotate_left
                 ·simp only [Act.put, List.setIfInBounds_toArray, List.set_cons_zero, List.set_cons_succ, i64_w, i32_w]
                  rfl
                 refine done_ (done_of HT_.out (by kernel_rfl)) ?_
                 try go_wp2
                 go_ret
                 exact ⟨by first | rfl | (simp [errW_none, errW_some] <;> rfl) | (simp [*, errW_none, errW_some] <;> rfl), by repeat (first | (with_reducible first | exact HB.out | apply below_alloc | apply pw_below_drewN | apply below_drew1) | exact HB.out)⟩
               ·rw [if_neg c121] at H
                exact absurd H (by simp)
              ·rw [if_neg c120] at H
               exact absurd H (by simp)
             ·rw [if_neg c119] at H
              have c119b0 : decide (x18_4 < (l0.length : Int)) = false := decide_eq_false c119
              clear c119
              replace H := Option.bind_eq_some_iff.mp H
              obtain ⟨t63, A1300, H⟩ := H
              replace H : (some t63) = some r := H
              have A130 := Aside0.mk A1300
              clear A1300
              obtain rfl := Option.some.inj H
              go_wp2_with (first | ((with_reducible refine gate_callee (f := 10) rfl ?_); refine goesL_ (some 158) rfl rfl Tryz.func10 (by kernel_rfl) rfl #[] rfl (by (try simp only [List.map_toArray, List.map_cons, List.map_nil]); first | done | rfl | (simp only [List.length_drop, List.length_take]; rfl)) ?_; (with_reducible refine (narcissuslaw02_awake.calls k4  t63 _ ?side1 A130.out).mono ?_); (case side1 => first | (refine LaidW.below HLD.out ?_; with_reducible exact HB.out) | (refine LaidW.below HLD.out ?_; with_reducible apply pw_below_drewN; with_reducible exact HB.out) | (refine LaidW.below HLD.out ?_; with_reducible apply below_alloc; with_reducible exact HB.out) | (refine LaidW.below HLD.out ?_; repeat (first | (with_reducible first | exact HB.out | apply below_alloc | apply pw_below_drewN | apply below_drew1) | exact HB.out); done) | exact HLD.out | (repeat (first | exact HLD.out | (with_reducible refine LaidW.drewN ?_ _) | (with_reducible refine LaidW.drew ?_) | (with_reducible refine LaidW.alloc ?_ _)))); rintro e w131 ⟨rfl, hb⟩; refine ⟨_, rfl, ?_⟩; have n0_ := Aside0.mk (Kd.R_below (by (with_reducible repeat (first | apply Kd.R_alloc | apply Kd.R_drewN | apply Kd.R_drew)); exact HO_12.out) hb); have n1_ := Aside0.mk (below_step (by repeat (first | (with_reducible first | exact HB.out | apply below_alloc | apply pw_below_drewN | apply below_drew1) | exact HB.out)) hb); clear HO_12; clear HB; have HO_12 := n0_; have HB := n1_; clear n0_ n1_; (try clear hb); (try clear hb2); (try clear hk); (try clear hi)))
              go_ret
              exact ⟨by first | rfl | (simp [errW_none, errW_some] <;> rfl) | (simp [*, errW_none, errW_some] <;> rfl), by repeat (first | (with_reducible first | exact HB.out | apply below_alloc | apply pw_below_drewN | apply below_drew1) | exact HB.out)⟩
    ·rw [if_neg c14] at H
     exact absurd H (by simp)

end Go.Proofs.YtfckjfoalpkpjaaGreatDoor.C
end
section
/- For all programs: the items of a program's code are the codes of its instructions, and of two programs, one after the other, the items are those of each. The row lists variables of Go's library with what the program's text lays in them (strconv's two errors and its table of powers of ten, math/bits' and utf8's tables); the card ties them. -/
namespace Go.Proofs.YtfckjfoalpkpjaaGreatDoor.CodeParts
open Go.ChangeShapes Go.WideShapes Go.ChangeAt Go.RowKit Go.Proofs.YtfckjfoalpkpjaaGreatDoorW.PrintWords Go.Proofs.YtfckjfoalpkpjaaGreatDoorW.PrintMore Go.Proofs.YtfckjfoalpkpjaaGreatDoor.C Go.Proofs.YtfckjfoalpkpjaaGreatDoor.Plain Go.Proofs.YtfckjfoalpkpjaaGreatDoor.Card
open Go.ChangeMaps (open_string shut_string)
set_option linter.unusedVariables false
set_option linter.unusedSimpArgs false

theorem same01_l (a : List ByteArray) (ha : a.length ≤ 100000) : ∀ (d k i : Nat), a.length - i = d → i ≤ a.length → d < k → narcissusref01_Same.l0 k a a (i : Int) = some true
  | d, k, i, hd, hi, hk => by
    obtain ⟨k, rfl⟩ : ∃ m, k = m + 1 := ⟨k - 1, by omega⟩
    by_cases hlt : i < a.length
    · rw [narcissusref01_Same.l0, if_pos (by omega), if_pos (by omega), if_pos (by omega), if_pos rfl, Plain.wrap_small (by omega) (by omega), show (i : Int) + 1 = ((i + 1 : Nat) : Int) from rfl]
      exact same01_l a ha (a.length - (i + 1)) k (i + 1) rfl (by omega) (by omega)
    · rw [narcissusref01_Same.l0, if_neg (by omega)]
  termination_by d => d
theorem same01_yes (a : List ByteArray) (ha : a.length ≤ 100000) (k : Nat) (hk : a.length < k) : narcissusref01_Same.f k a a = some true := by
  unfold narcissusref01_Same.f
  rw [if_pos rfl]
  exact same01_l a ha a.length k 0 rfl (by omega) hk
theorem parts_l (p : List Ins) (hp : OKP p) : ∀ (d k i : Nat), p.length - i = d → i ≤ p.length → d + 4500000 < k → narcissuslaw02_CodeParts.l0 k p (p.map fun x => bs (item x)) (i : Int) = some true
  | d, k, i, hd, hi, hk => by
    obtain ⟨k, rfl⟩ : ∃ m, k = m + 1 := ⟨k - 1, by omega⟩
    have h4 := hp.1
    by_cases hlt : i < p.length
    · have hx := okp_nice hp p[i] (List.getElem_mem hlt)
      have hr : rdOf ByteArray.empty (p.map fun x => bs (item x)) (i : Int) = bs (item p[i]) := by simp [rdOf, hlt]
      rw [narcissuslaw02_CodeParts.l0, if_pos (by omega), if_pos (by omega), if_pos (by rw [List.length_map]; omega), rd_at p i hlt, refCodeOf_tells hx k (by omega), Option.bind_some, hr, if_pos rfl, Plain.wrap_small (by omega) (by omega), show (i : Int) + 1 = ((i + 1 : Nat) : Int) from rfl]
      exact parts_l p hp (p.length - (i + 1)) k (i + 1) rfl (by omega) (by omega)
    · rw [narcissuslaw02_CodeParts.l0, if_neg (by omega), awake_tells k (by omega)]
      rfl
  termination_by d => d
theorem fits_of {l : List Ins} (h : ∀ x ∈ l, x.f4.size ≤ 140737488351232) : Fits l := fun x hx => by have := h x hx; omega
theorem items_code {p : List Ins} (hp : OKP p) {k : Nat} (hk : 5000 ≤ k) (hz : (codeL p).length ≤ 2000000) : tree_Items.f k (bs (codeL p)) = some (p.map fun x => bs (item x), 0) := by
  have h4 := hp.1
  rw [items_yes (xs := p.map item) (fun s hs => by
    obtain ⟨x, hx, rfl⟩ := List.mem_map.1 hs
    exact isT_item (okp_nice hp x hx)) (show bl (bs (codeL p)) = lst (p.map item) from bl_bs _) (by rw [bs_size]; exact hz) (by rw [List.length_map]; omega), List.map_map]
  rfl
def cErr (p : List Ins) : Int := if 2000000 < (codeL p).length then 3 else 0
def cStr (p : List Ins) : ByteArray := if 2000000 < (codeL p).length then bs [] else bs (codeL p)
theorem code_both {p : List Ins} (hp : OKP p) {k : Nat} (hk : 4010 ≤ k) : code_Code.f k p = some (cStr p, cErr p) := by
  rw [code_yes hk hp]
  unfold cStr cErr
  split <;> rfl
theorem cErr_cases (p : List Ins) : (cErr p = 0 ∧ (codeL p).length ≤ 2000000 ∧ cStr p = bs (codeL p)) ∨ cErr p = 3 := by
  unfold cErr cStr
  by_cases h : 2000000 < (codeL p).length
  · rw [if_pos h]; exact .inr rfl
  · rw [if_neg h, if_neg h]; exact .inl ⟨rfl, by omega, rfl⟩
/-- A code is missing: the errors are as documented. -/
theorem law_miss (p q r : List Ins) (k : Nat) (hk : 4600000 ≤ k) (hr : Fits r) (x6 x8 x10 : ByteArray) (x7 x9 x11 : Int) (h7 : x7 = 0 ∨ x7 = 3) (h9 : x9 = 0 ∨ x9 = 3) (h11 : x11 = 0 ∨ x11 = 3 ∨ (x11 = 1 ∧ ¬ OKP r)) :
    narcissuslaw02_CodeParts.j1 k p q r x6 x7 x8 x9 x10 x11 true = some true := by
  obtain ⟨k, rfl⟩ : ∃ m, k = m + 1 := ⟨k - 1, by omega⟩
  have haw := awake_tells k (by omega)
  rw [narcissuslaw02_CodeParts.j1, if_pos rfl, haw]
  rcases h7 with rfl | rfl <;> rcases h9 with rfl | rfl <;> rcases h11 with rfl | rfl | ⟨rfl, hno⟩ <;> first | rfl | (rw [refValidp_no hr (by omega) hno]; rfl)
/-- All codes are there: their items are as documented. -/
theorem law_all (p q : List Ins) (hp : OKP p) (hq : OKP q) (hr : OKP (p ++ q)) (k : Nat) (hk : 4700000 ≤ k) (z1 : (codeL p).length ≤ 2000000) (z2 : (codeL q).length ≤ 2000000) (z3 : (codeL (p ++ q)).length ≤ 2000000) :
    narcissuslaw02_CodeParts.j1 k p q (p ++ q) (bs (codeL p)) 0 (bs (codeL q)) 0 (bs (codeL (p ++ q))) 0 false = some true := by
  obtain ⟨k, rfl⟩ : ∃ m, k = m + 2 := ⟨k - 2, by omega⟩
  have h4 := hp.1
  have h5 := hq.1
  have hj2 : narcissuslaw02_CodeParts.j2 (k + 1) p (p.map fun x => bs (item x)) false = some true := by
    rw [narcissuslaw02_CodeParts.j2, if_neg (by decide)]
    exact parts_l p hp p.length k 0 rfl (by omega) (by omega)
  have hs : narcissusref01_Same.f (k + 1) ((p ++ q).map fun x => bs (item x)) (([] ++ p.map fun x => bs (item x)) ++ q.map fun x => bs (item x)) = some true := by
    rw [List.nil_append, List.map_append]
    exact same01_yes _ (by rw [List.length_append, List.length_map, List.length_map]; omega) _ (by rw [List.length_append, List.length_map, List.length_map]; omega)
  rw [narcissuslaw02_CodeParts.j1, if_neg (by decide), items_code hp (by omega) z1, Option.bind_some, items_code hq (by omega) z2, Option.bind_some, items_code hr (by omega) z3, Option.bind_some]
  rw [if_pos rfl, if_pos rfl, if_pos rfl, if_pos (by rw [List.length_map]), if_pos (by rw [List.length_map]), Option.bind_some, if_pos (by simp; omega), Option.bind_some, if_pos (by simp; omega), hs, Option.bind_some]
  exact hj2
/-- The plain law: the printed function answers true. -/
theorem law_at (p q : List Ins) (hp48 : p.length * 48 ≤ 140737488351232) (hpz : ∀ x ∈ p, x.f4.size ≤ 140737488351232) (hq48 : q.length * 48 ≤ 140737488351232) (hqz : ∀ x ∈ q, x.f4.size ≤ 140737488351232) : narcissuslaw02_CodeParts.f 5000000 p q = some true := by
  unfold narcissuslaw02_CodeParts.f
  have haw := awake_tells 4999999 (by omega)
  have hj : narcissuslaw02_CodeParts.j0 5000000 p q true = some true := by
    rw [show (5000000 : Nat) = 4999999 + 1 from rfl, narcissuslaw02_CodeParts.j0, if_pos rfl, haw]
    rfl
  by_cases hp : OKP p
  · rw [refValidp_yes (fits_of hpz) (by omega) hp, Option.bind_some, if_pos rfl]
    by_cases hq : OKP q
    · have h4 := hp.1
      have h5 := hq.1
      have hfit : Fits (p ++ q) := fun x hx => by
        rcases List.mem_append.1 hx with hx | hx
        · exact okp_fits hp x hx
        · exact okp_fits hq x hx
      rw [refValidp_yes (fits_of hqz) (by omega) hq, Option.bind_some, show (!true) = false from rfl, show (5000000 : Nat) = 4999999 + 1 from rfl, narcissuslaw02_CodeParts.j0, if_neg (by decide), twin_tells p (by omega), Option.bind_some, if_pos (by omega), Option.bind_some, Option.bind_some, code_both hp (by omega), Option.bind_some, twin_tells q (by omega), Option.bind_some, code_both hq (by omega), Option.bind_some]
      obtain ⟨c, ce, ec, hce⟩ : ∃ c ce, code_Code.f 4999999 (p ++ q) = some (c, ce) ∧ ((ce = 0 ∧ OKP (p ++ q) ∧ (codeL (p ++ q)).length ≤ 2000000 ∧ c = bs (codeL (p ++ q))) ∨ ce = 3 ∨ (ce = 1 ∧ ¬ OKP (p ++ q))) := by
        by_cases hr : OKP (p ++ q)
        · refine ⟨_, _, code_both hr (by omega), ?_⟩
          rcases cErr_cases (p ++ q) with ⟨h1, h2, h3⟩ | h
          · exact .inl ⟨h1, hr, h2, h3⟩
          · exact .inr (.inl h)
        · exact ⟨_, _, code_no (by omega) hr, .inr (.inr ⟨rfl, hr⟩)⟩
      rw [ec, Option.bind_some]
      have h7 : cErr p = 0 ∨ cErr p = 3 := by rcases cErr_cases p with h | h; exact .inl h.1; exact .inr h
      have h9 : cErr q = 0 ∨ cErr q = 3 := by rcases cErr_cases q with h | h; exact .inl h.1; exact .inr h
      have h11 : ce = 0 ∨ ce = 3 ∨ (ce = 1 ∧ ¬ OKP (p ++ q)) := by rcases hce with h | h | h; exact .inl h.1; exact .inr (.inl h); exact .inr (.inr h)
      have hmiss := law_miss p q (p ++ q) 4999999 (by omega) hfit (cStr p) (cStr q) c (cErr p) (cErr q) ce h7 h9 h11
      rcases cErr_cases p with ⟨e7, z1, s1⟩ | e7
      · rw [if_pos e7]
        rcases cErr_cases q with ⟨e9, z2, s2⟩ | e9
        · rw [if_pos e9]
          rcases hce with ⟨e11, hr, z3, s3⟩ | hce
          · rw [e7, e9, s1, s2, e11, s3]
            exact law_all p q hp hq hr 4999999 (by omega) z1 z2 z3
          · have : (ce != 0) = true := by
              rw [bne_iff_ne]
              rcases hce with h | h
              · omega
              · omega
            rw [this]
            exact hmiss
        · rw [if_neg (by omega)]
          exact hmiss
      · rw [if_neg (by omega)]
        exact hmiss
    · rw [refValidp_no (fits_of hqz) (by omega) hq, Option.bind_some, show (!false) = true from rfl, hj]
  · rw [refValidp_no (fits_of hpz) (by omega) hp, Option.bind_some, if_neg (by decide), hj]
theorem plain_law (p q : List Ins) (hp48 : p.length * 48 ≤ 140737488351232) (hpz : ∀ x ∈ p, x.f4.size ≤ 140737488351232) (hq48 : q.length * 48 ≤ 140737488351232) (hqz : ∀ x ∈ q, x.f4.size ≤ 140737488351232) : ∃ k, narcissuslaw02_CodeParts.f k p q = some true := ⟨_, law_at p q hp48 hpz hq48 hqz⟩

set_option maxRecDepth 100000 in
/-- What the row asks, of every argument and every world that holds what is listed. -/
theorem contract (H : Type) (enc : TypeId × Value → H) (W : World) (base : Nat) (args : Array Value) (ds gs : List (DataW H)) (before : List MemPlace)
    (hval0 : ∀ (j : Nat) t v, Tryz.f5.params[j]? = some t → args[j]? = some v → Value.okWide Tryz.prog W .any base t v)
    (hW : DataW.Whole enc Tryz.prog Tryz.f5.params.toList Rows.codePartsSpec.vars false W args.toList ds gs before)
    (hsz0 : (DataW.weightsEach Tryz.prog (Tryz.f5.params.toList ++ Rows.codePartsSpec.plain.varTypes Tryz.prog) (ds ++ gs)).all (· ≤ reachBytes) = true) (hL : LaidW W) :
    Calls Tryz.prog 5 args W fun e W' => ∃ v, e = .returned v ∧ Rows.codePartsSpec.post enc Tryz.prog Tryz.f5 false true false false W args v W' := by
  have hsz : (DataW.weightsEach Tryz.prog (Tryz.f5.params.toList ++ Rows.codePartsSpec.plain.varTypes Tryz.prog) (ds ++ gs)).all (· ≤ reachBytes) = true := hsz0
  have hval : ∀ (j : Nat) t v, Tryz.f5.params[j]? = some t → args[j]? = some v → Value.okWide Tryz.prog W .any base t v := hval0
  have hW' := hW
  obtain ⟨p, q, hA0, hV, rfl, hfz, hnd⟩ := hW
  have hA : DataW.TrodAll enc Tryz.prog W 0 (fun _ => true) true Tryz.f5.params.toList args.toList ds p := hA0
  rw [Tryz.params5] at hA hval hsz
  obtain ⟨v0, vs0, d0, ds0, p0, q0, hargs, rfl, rfl, h0, r0⟩ := trodAll_cons hA
  obtain ⟨v1, vs1, d1, ds1, p1, q1, rfl, rfl, rfl, h1, r1⟩ := trodAll_cons r0
  obtain ⟨rfl, rfl, rfl⟩ := trodAll_nil r1
  obtain rfl : args = #[v0, v1] := by cases args; simp_all
  obtain ⟨rfl, rfl⟩ := trodVars_none hV
  have k0 := h0
  have lt0 : ∀ x ∈ p0, x.block < W.heap.size := by obtain ⟨m, hm⟩ := k0; exact DataW.trod_lt m _ _ _ hm
  obtain ⟨A0, c0, l0, rfl, hl0, hC0, hs0⟩ := open_prog (hval 0 23 v0 rfl rfl) h0
  obtain ⟨z0, y0⟩ := hs0 _ _ 0 hsz rfl rfl
  have k1 := h1
  have lt1 : ∀ x ∈ p1, x.block < W.heap.size := by obtain ⟨m, hm⟩ := k1; exact DataW.trod_lt m _ _ _ hm
  obtain ⟨A1, c1, l1, rfl, hl1, hC1, hs1⟩ := open_prog (hval 1 23 v1 rfl rfl) h1
  obtain ⟨z1, y1⟩ := hs1 _ _ 1 hsz rfl rfl
  clear hA0 hval0 hsz0 hsz
  obtain ⟨kk, hkk⟩ := plain_law l0 l1 z0 y0 z1 y1
  refine (narcissuslaw02_CodeParts.calls kk A0 c0 l0 A1 c1 l1 true W hC0 hl0 hC1 hl1 hL hkk).mono ?_
  rintro e W' ⟨rfl, bel⟩
  exact ⟨_, rfl, _, _, _, [], _, [], hW', trodAll_mk1 (shut_bool Tryz.underlying4 _), (trodAll_cons_mk (Below.trod laidOut (by kernel_rfl) (of_decide_eq_true (by kernel_rfl)) k0 bel lt0) (trodAll_cons_mk (Below.trod laidOut (by kernel_rfl) (of_decide_eq_true (by kernel_rfl)) k1 bel lt1) trodAll_mk0)), rfl, bel.frame _, fun h => by cases h⟩

theorem reads (os : Os) {H : Type} (enc : TypeId × Value → H) : ∃ places, DataW.whole enc Tryz.prog ((laidWorld os).forCall (fun _ _ => 0) ⟨#[], #[.slice none 0 0, .slice none 0 0], []⟩).memory Tryz.f5.params.toList Rows.codePartsSpec.vars false (#[.slice none 0 0, .slice none 0 0] : Array Value).toList 8 = some ([.nil, .nil], [], places) :=
  ⟨[], by kernel_rfl⟩

set_option maxRecDepth 100000 in
theorem lifted (os : Os) (started : os.Started) (H : Type) (enc : TypeId × Value → H) (F : Stop.Interp) :
    ReturnsInHanded {} Tryz.checked os 5 .any ((OpenSpec.ofChange Rows.codePartsSpec).preRow enc Tryz.prog Tryz.f5 Rows.codePartsRow.domain false Rows.codePartsRow.laid) (((OpenSpec.ofChange Rows.codePartsSpec).at F).post enc Tryz.prog Tryz.f5 false true false false) := by
  obtain ⟨places, hx⟩ := reads os enc
  have hok : Input.okWideB Tryz.checked.prog ((laidWorld os).forCall (fun _ _ => 0) ⟨#[], #[.slice none 0 0, .slice none 0 0], []⟩) 5 ⟨#[], #[.slice none 0 0, .slice none 0 0], []⟩ = true := by kernel_rfl
  refine returnsInHanded_of_row (C := Tryz.checked) (s := OpenSpec.ofChange Rows.codePartsSpec) own started (by kernel_rfl) Tryz.func5
    ⟨laidWorld os, fun _ _ => 0, ⟨#[], #[.slice none 0 0, .slice none 0 0], []⟩, World.laidAll_os _ _ _, World.shaped_of_ZipB (by kernel_rfl) (by kernel_rfl), (Input.okWide_of_okWideB (base := 0) hok).1, (Input.okWide_of_okWideB hok).2,
      OpenSpec.preRow_of_cond 8 hx (by kernel_rfl) (fun k hk => by cases hk) (by kernel_rfl) (laid_met os _), by
        simp only [Assume.holds]
        exact ⟨by simp, by simp, fun _ => Modest.zero, by simp, by simp⟩⟩ ?_
  intro W base args ds gs before hval hW _ _ hsz hL hsh _
  exact contract H enc W base args ds gs before hval hW hsz (laidW_of hsh hL)

theorem said : Rows.CodePartsSaid :=
  OpenClaim.holds_of_cond 5 Tryz.f5 rfl rfl rfl rfl rfl rfl rfl ⟨rfl, rfl, rfl, rfl, rfl⟩ rfl rfl rfl rfl rfl (by kernel_rfl) Tryz.func5 (by kernel_rfl)
    (of_decide_eq_true (by kernel_rfl)) (by unfold Func.isWrapper; first | (rw [if_pos (by decide +kernel)]; kernel_rfl) | (rw [if_neg (by decide +kernel)]; exact ⟨rfl, rfl⟩))
    (fun os started H enc _ F => by rw [OpenClaim.pre_eq_preRow]; exact lifted os started H enc F)

theorem plain_args (f : FuncId) (fn : Func) (hf : Tryz.pinned.checked.prog.funcNamed "narcissus/narcissuslaw02.CodeParts" = some f) (hfn : Tryz.pinned.checked.prog.funcs[f]? = some fn) :
    true = Tryz.pinned.checked.prog.looks [] ∧ ∀ (j : Nat) t, fn.params[j]? = some t → Tryz.pinned.checked.prog.wantsStandIn t = false := by
  obtain rfl : f = 5 := Option.some.inj ((show Tryz.prog.funcNamed "narcissus/narcissuslaw02.CodeParts" = some 5 by kernel_rfl).symm.trans hf) |>.symm
  obtain rfl : fn = Tryz.f5 := (Option.some.inj (Tryz.func5.symm.trans hfn)).symm
  refine ⟨by kernel_rfl, fun j t ht => ?_⟩
  rw [Tryz.params5] at ht
  have hm : t ∈ [23, 23] := by simpa using Array.mem_of_getElem? ht
  have hall : ([23, 23].all fun u => !Tryz.prog.wantsStandIn u) = true := by kernel_rfl
  exact (show Tryz.prog.wantsStandIn t = false by simpa using List.all_eq_true.1 hall t hm)
end Go.Proofs.YtfckjfoalpkpjaaGreatDoor.CodeParts
namespace Go.Proofs.YtfckjfoalpkpjaaGreatDoor
/-- The card. -/
theorem codeParts_holds : Rows.CodePartsCardSaid :=
  Claim7.holds_tied_plain_at .later [] _ _ _ _ CodeParts.said (fun _ h => by cases h) (by kernel_rfl) (fun _ h => by cases h) codeParts_row_tie rfl ⟨rfl, rfl⟩ (by kernel_rfl) rfl CodeParts.plain_args (by kernel_rfl)
end Go.Proofs.YtfckjfoalpkpjaaGreatDoor
end
