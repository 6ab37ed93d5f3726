/- Texts of this claim, together: what the functions return, and what they say in plain words. -/
import Derived.Test.YtocoamgbpoommaaGreatDoorUJ
import Derived.Test.YtocoamgbpoommaaGreatDoorUAB
import Derived.Test.YtocoamgbpoommaaGreatDoorUB
import Derived.Test.YtocoamgbpoommaaGreatDoorUD
import Derived.Test.YtocoamgbpoommaaGreatDoorUQ
section
/- Programs that know each other: on what they begin, and the walk along a ring. -/
namespace Go.Proofs.YtocoamgbpoommaaGreatDoor.Plain
open Go.Proofs.YtocoamgbpoommaaGreatDoor.C
set_option linter.unusedVariables false
set_option linter.unusedSimpArgs false

/-! ### what the programs of a ring return -/
theorem codeT_append_head (x y z : Ins) (r : List Ins) : codeT ([x, y, z] ++ r) = .cons (itemT x) (.cons (itemT y) (.cons (itemT z) (codeT r))) := rfl
theorem codeT_spec (y : ByteArray) (r : List Ins) : codeT (specHead y ++ r) = cellT (dec (bl y)) (codeT r) := rfl
theorem tab_dec (rs : List (List Ins)) (h : ∀ r ∈ rs, ∀ x ∈ r, Nice x) : dec (tabL rs) = lstT (rs.map codeT) := by
  have : (lstT (rs.map codeT)).enc = tabL rs := by
    rw [lstT_enc, tabL, List.map_map]
    congr 1
    exact List.map_congr_left fun r hr => codeT_enc (h r hr)
  rw [← this, dec_enc]
theorem made_codes (rs : List (List Ins)) (h : ∀ r ∈ rs, ∀ x ∈ r, Nice x) : (madeL rs).map codeT = (rs.map codeT).map (cellT (lstT (rs.map codeT))) := by
  rw [madeL, List.map_map, List.map_map]
  refine List.map_congr_left fun r _ => ?_
  show codeT (specHead (bs (tabL rs)) ++ r) = cellT _ (codeT r)
  rw [codeT_spec, bl_bs, tab_dec rs h]
/-- Each program of a ring begins, after so many steps, on the pair of the list of all codes and the input. -/
theorem ring_begins (ps : List (List Ins)) (h : ∀ p ∈ ps, ∀ x ∈ ringHead ++ p, Nice x) (p : List Ins) (hp : p ∈ ps) (x : Tr)
    (hz : 1 + (lstT ((madeL (ps.map fun p => ringHead ++ p)).map codeT)).size + x.size ≤ 2000000) :
    Goes (specHead (bs (tabL (ps.map fun p => ringHead ++ p))) ++ ringHead ++ p) (24 + 11 * ps.length) 0 (init x) 33 (init (.cons (lstT ((madeL (ps.map fun p => ringHead ++ p)).map codeT)) x)) := by
  have hn : ∀ r ∈ ps.map (fun p => ringHead ++ p), ∀ x ∈ r, Nice x := by
    intro r hr
    obtain ⟨q, hq, rfl⟩ := List.mem_map.1 hr
    exact h q hq
  rw [made_codes _ hn] at hz ⊢
  have hl : ((ps.map fun p => ringHead ++ p).map codeT).length = ps.length := by simp
  rw [← hl]
  refine ring_prefix (P := specHead (bs (tabL (ps.map fun p => ringHead ++ p))) ++ ringHead ++ p) (y := bs (tabL (ps.map fun p => ringHead ++ p))) ?_ ?_ _ ?_ x ?_ hz
  · intro i hi
    rw [List.getD_eq_getElem?_getD, List.getElem?_append_left (by simp [specHead, ringHead]; omega), ← List.getD_eq_getElem?_getD]
  · simp [specHead, ringHead]
  · rw [bl_bs, tab_dec _ hn]
  · intro e
    have := congrArg List.length e
    rw [hl] at this
    have h0 := List.length_pos_of_mem hp
    rw [List.length_nil] at this
    omega
/-- The walk along a ring: the code of the program so many places on. -/
def turnP (n j : Nat) : List Ins := ⟨3, 0, 0, 0, ⟨#[]⟩⟩ :: (List.replicate ((j + 1) % n) ⟨4, 0, 0, 0, ⟨#[]⟩⟩ ++ [⟨3, 0, 0, 0, ⟨#[]⟩⟩])
theorem up_init (a v : Tr) : upd (init a) 0 v = init v := by
  funext i
  unfold upd init
  split <;> rfl
theorem tails_go {P : List Ins} (m : Nat) (a : Nat) (H : ∀ i, i < m → P.getD (a + i) zz = ⟨4, 0, 0, 0, ⟨#[]⟩⟩) (hl : a + m ≤ P.length) : ∀ (ts : List Tr), m ≤ ts.length →
    Goes P m (a : Int) (init (lstT ts)) ((a + m : Nat) : Int) (init (lstT (ts.drop m))) := by
  induction m generalizing a with
  | zero => intro ts _; exact Goes.refl _ _ _
  | succ m ih =>
    intro ts hm
    obtain ⟨t, l, rfl⟩ : ∃ t l, ts = t :: l := by cases ts with | nil => simp at hm | cons t l => exact ⟨t, l, rfl⟩
    refine go1 ⟨4, 0, 0, 0, ⟨#[]⟩⟩ (by omega) (by rw [Int.toNat_natCast]; exact H 0 (by omega)) (ex_tail 0 0 _) (a1 := ((a + 1 : Nat) : Int)) (by omega) ?_
    rw [show ((0 : Int).toNat) = 0 from rfl, up_init]
    have := ih (a + 1) (fun i hi => by rw [Nat.add_assoc, Nat.add_comm 1 i]; exact H (i + 1) (by omega)) (by omega) l (by simpa using hm)
    rw [show a + 1 + m = a + (m + 1) from by omega] at this
    exact this
theorem turn_run (n j : Nat) (ts : List Tr) (x : Tr) (hn : 0 < n) (hl : ts.length = n) (k : Nat) (hk : (j + 1) % n + 2 ≤ k) :
    runM (turnP n j) (.cons (lstT ts) x) k = (ts.getD ((j + 1) % n) .nil, (j + 1) % n + 2, 0) := by
  obtain ⟨k, rfl⟩ : ∃ d, k = ((j + 1) % n + 2) + d := ⟨k - ((j + 1) % n + 2), by omega⟩
  have hlt : (j + 1) % n < n := Nat.mod_lt _ hn
  generalize hm : (j + 1) % n = m at *
  have hP : turnP n j = ⟨3, 0, 0, 0, ⟨#[]⟩⟩ :: (List.replicate m ⟨4, 0, 0, 0, ⟨#[]⟩⟩ ++ [⟨3, 0, 0, 0, ⟨#[]⟩⟩]) := by rw [turnP, hm]
  have hlen : (turnP n j).length = m + 2 := by rw [hP]; simp
  have g : Goes (turnP n j) (m + 2) 0 (init (.cons (lstT ts) x)) ((m + 2 : Nat) : Int) (init (ts.getD m .nil)) := by
    rw [show m + 2 = (m + 1) + 1 from rfl]
    refine go1 ⟨3, 0, 0, 0, ⟨#[]⟩⟩ (by omega) (by rw [hP]; rfl) (ex_head 0 0 _) (a1 := ((1 : Nat) : Int)) rfl ?_
    rw [show ((0 : Int).toNat) = 0 from rfl, up_init]
    show Goes _ _ _ (init (lstT ts)) _ _
    refine Goes.trans (tails_go m 1 (fun i hi => ?_) (by omega) ts (by omega)) ?_
    · rw [hP, Nat.add_comm 1 i, List.getD_cons_succ, List.getD_eq_getElem?_getD, List.getElem?_append_left (by simpa using hi), List.getElem?_replicate, if_pos hi]; rfl
    · have hdrop : ts.drop m = ts.getD m .nil :: ts.drop (m + 1) := by
        rw [List.drop_eq_getElem_cons (by omega), List.getD_eq_getElem?_getD, List.getElem?_eq_getElem (by omega)]; rfl
      refine go1 ⟨3, 0, 0, 0, ⟨#[]⟩⟩ (by omega) ?_ (ex_head 0 0 _) (a1 := ((m + 2 : Nat) : Int)) (by omega) ?_
      · rw [hP, Int.toNat_natCast, Nat.add_comm 1 m, List.getD_cons_succ, List.getD_eq_getElem?_getD, List.getElem?_append_right (by simp)]; simp
      · rw [show ((0 : Int).toNat) = 0 from rfl, up_init, hdrop]
        exact Goes.refl _ _ _
  have e : after (turnP n j) k ((m + 2 : Nat) : Int) (init (ts.getD m .nil)) = (((m + 2 : Nat) : Int), init (ts.getD m .nil), 0, true) := by
    cases k with
    | zero => rfl
    | succ k => rw [after, if_pos (by rw [hlen])]
  unfold runM
  rw [g k, e]
  simp only [hlen, if_true, Nat.zero_add]
  rfl
end Go.Proofs.YtocoamgbpoommaaGreatDoor.Plain
end
section
namespace Go.Proofs.YtocoamgbpoommaaGreatDoor.C
open Go.RowKit Go.Proofs.YtocoamgbpoommaaGreatDoorW.PrintWords Go.Proofs.YtocoamgbpoommaaGreatDoorW.PrintLast Go.Proofs.YtocoamgbpoommaaGreatDoorW.PrintMore
attribute [local go_sem] max2_int min2_int max_two min_two max_three min_three max_four min_four
set_option linter.unusedVariables false
set_option linter.unusedSimpArgs false

/-! ### ring_Ring: function 19 -/
mutual
def ring_Ring.j0 : Nat → Int → Bool → Option ((List (List (S72))) × Int)
 | 0, _, _ => none
 | k + 1, x0, x12 => if x12 = true then (some (([] : List (List (S72))), 2)) else (ring_Ring.l0 k x0 ([] : List (List (S72))) x0 0)
def ring_Ring.l0 : Nat → Int → List (List (S72)) → Int → Int → Option ((List (List (S72))) × Int)
 | 0, _, _, _, _ => none
 | k + 1, x0, x4, x13, x14 => if x14 < x13 then (if x0 = 0 then (none) else (ring_Ring.l1 k x0 x4 (([(⟨3, 0, 0, 0, (⟨#[]⟩ : ByteArray)⟩ : S72)] : List (S72))) x13 x14 (Int.tmod (wrap64 (x14 + 1)) x0) 0)) else ((ring_Together.f k x4).bind fun bt1 => (some (bt1.1, bt1.2)))
def ring_Ring.l1 : Nat → Int → List (List (S72)) → List (S72) → Int → Int → Int → Int → Option ((List (List (S72))) × Int)
 | 0, _, _, _, _, _, _, _ => none
 | k + 1, x0, x4, x6, x13, x14, x22, x23 => if x23 < x22 then (if x6.length < 2932031007402 then (ring_Ring.l1 k x0 x4 (x6 ++ [(⟨4, 0, 0, 0, (⟨#[]⟩ : ByteArray)⟩ : S72)]) x13 x14 x22 (wrap64 (x23 + 1))) else (none)) else (if x6.length < 2932031007402 then (if x4.length < 5864062014805 then (ring_Ring.l0 k x0 (x4 ++ [(x6 ++ [(⟨3, 0, 0, 0, (⟨#[]⟩ : ByteArray)⟩ : S72)])]) x13 (wrap64 (x14 + 1))) else (none)) else (none))
end
def ring_Ring.f (k : Nat) (a0 : Int) : Option ((List (List (S72))) × Int) := if a0 < 1 then (ring_Ring.j0 k a0 true) else (ring_Ring.j0 k a0 (decide (a0 > 40)))
theorem ring_Ring.mono_l : ∀ k, (∀ y0 y1, LeO (ring_Ring.j0 k y0 y1) (ring_Ring.j0 (k + 1) y0 y1)) ∧ (∀ y0 y1 y2 y3, LeO (ring_Ring.l0 k y0 y1 y2 y3) (ring_Ring.l0 (k + 1) y0 y1 y2 y3)) ∧ (∀ y0 y1 y2 y3 y4 y5 y6, LeO (ring_Ring.l1 k y0 y1 y2 y3 y4 y5 y6) (ring_Ring.l1 (k + 1) y0 y1 y2 y3 y4 y5 y6))
 | 0 => ⟨fun _ _ r h => by simp [ring_Ring.j0] at h, fun _ _ _ _ r h => by simp [ring_Ring.l0] at h, fun _ _ _ _ _ _ _ r h => by simp [ring_Ring.l1] at h⟩
 | k + 1 => by
  obtain ⟨ih0, ih1, ih2⟩ := ring_Ring.mono_l k
  refine ⟨?_, ?_, ?_⟩
  ·intro y0 y1
   unfold ring_Ring.j0
   repeat' first
   | (with_reducible exact ih0 _ _)
   | (with_reducible exact ih1 _ _ _ _)
   | (with_reducible exact ih2 _ _ _ _ _ _ _)
   | (with_reducible exact ring_Together.mono _ _)
   | (with_reducible exact LeO.refl _)
   | (with_reducible exact LeO.none _)
   | (with_reducible refine LeO.ite ?_ ?_)
   | (with_reducible refine LeO.bind ?_ (fun _ => ?_))
   | exact ih0 _ _
   | exact ih1 _ _ _ _
   | exact ih2 _ _ _ _ _ _ _
   | exact ring_Together.mono _ _
   | exact LeO.none _
   | refine LeO.ite ?_ ?_
   | refine LeO.bind ?_ (fun _ => ?_)
  ·intro y0 y1 y2 y3
   unfold ring_Ring.l0
   repeat' first
   | (with_reducible exact ih0 _ _)
   | (with_reducible exact ih1 _ _ _ _)
   | (with_reducible exact ih2 _ _ _ _ _ _ _)
   | (with_reducible exact ring_Together.mono _ _)
   | (with_reducible exact LeO.refl _)
   | (with_reducible exact LeO.none _)
   | (with_reducible refine LeO.ite ?_ ?_)
   | (with_reducible refine LeO.bind ?_ (fun _ => ?_))
   | exact ih0 _ _
   | exact ih1 _ _ _ _
   | exact ih2 _ _ _ _ _ _ _
   | exact ring_Together.mono _ _
   | exact LeO.none _
   | refine LeO.ite ?_ ?_
   | refine LeO.bind ?_ (fun _ => ?_)
  ·intro y0 y1 y2 y3 y4 y5 y6
   unfold ring_Ring.l1
   repeat' first
   | (with_reducible exact ih0 _ _)
   | (with_reducible exact ih1 _ _ _ _)
   | (with_reducible exact ih2 _ _ _ _ _ _ _)
   | (with_reducible exact ring_Together.mono _ _)
   | (with_reducible exact LeO.refl _)
   | (with_reducible exact LeO.none _)
   | (with_reducible refine LeO.ite ?_ ?_)
   | (with_reducible refine LeO.bind ?_ (fun _ => ?_))
   | exact ih0 _ _
   | exact ih1 _ _ _ _
   | exact ih2 _ _ _ _ _ _ _
   | exact ring_Together.mono _ _
   | exact LeO.none _
   | refine LeO.ite ?_ ?_
   | refine LeO.bind ?_ (fun _ => ?_)
theorem ring_Ring.mono : ∀ a0 k, LeO (ring_Ring.f k a0) (ring_Ring.f (k + 1) a0) := by
 intro a0 k
 obtain ⟨ih0, ih1, ih2⟩ := ring_Ring.mono_l k
 unfold ring_Ring.f
 repeat' first
   | (with_reducible exact ih0 _ _)
   | (with_reducible exact ih1 _ _ _ _)
   | (with_reducible exact ih2 _ _ _ _ _ _ _)
   | (with_reducible exact ring_Together.mono _ _)
   | (with_reducible exact LeO.refl _)
   | (with_reducible exact LeO.none _)
   | (with_reducible refine LeO.ite ?_ ?_)
   | (with_reducible refine LeO.bind ?_ (fun _ => ?_))
   | exact ih0 _ _
   | exact ih1 _ _ _ _
   | exact ih2 _ _ _ _ _ _ _
   | exact ring_Together.mono _ _
   | exact LeO.none _
   | refine LeO.ite ?_ ?_
   | refine LeO.bind ?_ (fun _ => ?_)
set_option maxHeartbeats 8000000 in
set_option maxRecDepth 100000 in
theorem ring_Ring.calls (k : Nat) (a0 : Int) (r1 : List (List (S72))) (r2 : Int) (w : World) (hL : LaidW w) (h : ring_Ring.f k a0 = some (r1, r2)) :
  Calls Tryz.prog 19 #[.int .i64 a0] w fun e w' => ∃ v0_ : Value, e = .returned (.tuple #[v0_, .int .i64 r2]) ∧ Kd.S (Kd.slice 72 k72) 47 w' w.heap.size (fun _ => True) v0_ r1 ∧ Below w.heap.size w w' := by
 have hu72 := Tryz.underlying72
 have HLD := Aside0.mk hL
 clear hL
 have HB := Aside0.mk (Below.refl w.heap.size w)
 have H : (if a0 < 1 then (ring_Ring.j0 k a0 true) else (ring_Ring.j0 k a0 (decide (a0 > 40)))) = some (r1, r2) := h
 clear h
 have HC2 := Aside0.mk H
 clear H
 go_enter Tryz.func19, Tryz.ntmps19
 go_upto_region 1 with (fail)
 go_cut [12] (fun v12 wc => ∃ (kq : Nat) (x12_1 : Bool), v12 = .bool x12_1 ∧ Aside0 (ring_Ring.j0 kq a0 x12_1 = some (r1, r2)) ∧ Aside0 (kq ≤ k) ∧ Aside0 (Below w.heap.size w wc))
 case first =>
  have H := HC2.out
  clear HC2
  by_cases c3 : a0 < 1
  ·rw [if_pos c3] at H
   have c3b0 : decide (a0 < 1) = true := decide_eq_true c3
   clear c3
   (first | rw [c3b0] | (simp only [i64_w, i32_w]; rw [c3b0]) | skip)
   have H' := Aside0.mk H
   clear H
   go_wp2
   go_meet
   case rel => exact ⟨_, (true), (by first | rfl | (simp; done) | (simp [*]; done)), H', ⟨by first | omega | exact Nat.le_refl _⟩, ⟨by repeat (first | (with_reducible first | exact HB.out | apply below_alloc | apply pw_below_drewN | apply below_drew1) | exact HB.out)⟩⟩
  ·rw [if_neg c3] at H
   have c3b0 : decide (a0 < 1) = false := decide_eq_false c3
   clear c3
   (first | rw [c3b0] | (simp only [i64_w, i32_w]; rw [c3b0]) | skip)
   have H' := Aside0.mk H
   clear H
   go_wp2
   go_meet
   case rel => exact ⟨_, (decide (a0 > 40)), (by first | rfl | (simp; done) | (simp [*]; done)), H', ⟨by first | omega | exact Nat.le_refl _⟩, ⟨by repeat (first | (with_reducible first | exact HB.out | apply below_alloc | apply pw_below_drewN | apply below_drew1) | exact HB.out)⟩⟩
 case rest =>
  clear HC2
  try clear c1
  try clear p2
  try clear c3
  try clear c3b0
  obtain ⟨kq, x12_1, rfl, HA, HJ1, HB⟩ := hcut
  cases kq with
  | zero => exact absurd HA.out (by simp [ring_Ring.j0])
  | succ kj1 =>
   have H := HA.out
   clear HA
   simp only [ring_Ring.j0] at H
   by_cases c4 : x12_1 = true
   ·subst c4
    have H1 : (some (([] : List (List (S72))), 2)) = some (r1, r2) := by rw [if_pos rfl] at H; exact H
    clear H
    have H := H1
    clear H1
    simp only [Option.some.injEq, Prod.mk.injEq] at H
    obtain ⟨rfl, rfl⟩ := H
    go_wp2
    go_ret2
    exact ⟨_, by first | rfl | (simp [errW_none, errW_some] <;> rfl) | (simp [*, errW_none, errW_some] <;> rfl), by first | exact Kd.S_nil _ _ _ _ _ | exact Kd.N_nil _ _ _ _ _ | exact Kd.V_nil _ _ _ _ _ | exact Kd.Q_nil _ _ _ _ _ | exact Kd.R_nil _ _ _ _ _, by repeat (first | (with_reducible first | exact HB.out | apply below_alloc | apply pw_below_drewN | apply below_drew1) | exact HB.out)⟩
   ·replace c4 := Bool.eq_false_iff.mpr c4
    subst c4
    have H1 : (ring_Ring.l0 kj1 a0 ([] : List (List (S72))) a0 0) = some (r1, r2) := by rw [if_neg (show ¬ (false = true) by decide)] at H; exact H
    clear H
    have H := H1
    clear H1
    have H' := Aside0.mk H
    clear H
    go_wp2
    go_loopg [4, 14] kj1 (fun kq v4 v14 w' => ∃ (x4_2 : List (List (S72))) (x14_2 : Int), v14 = .int .i64 x14_2 ∧ Aside0 (ring_Ring.l0 kq a0 x4_2 a0 x14_2 = some (r1, r2)) ∧ Aside0 (kq ≤ kj1) ∧ Aside0 (Kd.S (Kd.slice 72 k72) 47 w' w.heap.size (fun _ => True) v4 x4_2) ∧ Aside0 (Below w.heap.size w w'))
    case atStart => exact ⟨(([] : List (List (S72)))), (0), (by first | rfl | (simp; done) | (simp [*]; done)), H', ⟨Nat.le_refl _⟩, ⟨by first | exact Kd.S_nil _ _ _ _ _ | exact Kd.N_nil _ _ _ _ _ | exact Kd.V_nil _ _ _ _ _ | exact Kd.Q_nil _ _ _ _ _ | exact Kd.R_nil _ _ _ _ _⟩, ⟨by repeat (first | (with_reducible first | exact HB.out | apply below_alloc | apply pw_below_drewN | apply below_drew1) | exact HB.out)⟩⟩
    case round =>
     clear H'
     try clear c1
     try clear p2
     try clear c3
     try clear c3b0
     try clear c4
     try clear p2
     obtain ⟨x4_2, x14_2, rfl, HA, HK2, HO_4, HB⟩ := hrel
     cases gk with
     | zero => exact absurd HA.out (by simp [ring_Ring.l0])
     | succ k2 =>
      have H := HA.out
      clear HA
      simp only [ring_Ring.l0] at H
      by_cases c5 : x14_2 < a0
      ·rw [if_pos c5] at H
       have c5b0 : decide (x14_2 < a0) = true := decide_eq_true c5
       clear c5
       obtain ⟨y5, hy5⟩ : ∃ y_ : List (S72), y_ = (([(⟨3, 0, 0, 0, (⟨#[]⟩ : ByteArray)⟩ : S72)] : List (S72))) := ⟨_, rfl⟩
       replace H : (if a0 = 0 then (none) else (ring_Ring.l1 k2 a0 x4_2 y5 a0 x14_2 (Int.tmod (wrap64 (x14_2 + 1)) a0) 0)) = some (r1, r2) := by first | (rw [hy5]; with_reducible exact H) | (have H2_ := (Option.bind_some _ _).symm.trans H; rw [hy5]; with_reducible exact H2_) | (have H2_ := (Option.bind_some _ _).symm.trans H; with_reducible exact H2_) | with_reducible exact H | (rw [hy5]; exact H) | exact H
       have Ny5 := Aside0.mk hy5
       clear hy5
       by_cases c6 : a0 = 0
       ·rw [if_pos c6] at H
        exact absurd H (by simp)
       ·rw [if_neg c6] at H
        have c6b0 : (a0 == 0) = false := beq_eq_false_iff_ne.mpr c6
        have c6b1 : (a0 != 0) = true := bne_iff_ne.mpr c6
        have H' := Aside0.mk H
        clear H
        go_wp2_with (first | ((with_reducible refine gate_dst (N := 18) rfl ?_); refine Kd.R_lit k72 _ 72 ?hg (N := 18) ?hd (xs := ([(⟨3, 0, 0, 0, (⟨#[]⟩ : ByteArray)⟩ : S72)] : List (S72))) (inner := [.int .i64 3, .int .i64 0, .int .i64 0, .int .i64 0, .string (⟨#[]⟩ : ByteArray)]) (ok := fun _ => True) (okp := fun _ => True) ?hr ?hp (fun _ hk => hk) trivial (Below.refl _ _) (Nat.le_refl _) (by simp) ?_; (case hd => rfl); (case hg => rfl); (case hr => first | (go_simp; done) | (go_simp; rfl)); (case hp => exact (Reps.c5 (show Kd.M k72 _ _ _ (⟨3, 0, 0, 0, (⟨#[]⟩ : ByteArray)⟩ : S72) [.int .i64 3, .int .i64 0, .int .i64 0, .int .i64 0, .string (⟨#[]⟩ : ByteArray)] from (k72_mkM _ _ _ (⟨3, 0, 0, 0, (⟨#[]⟩ : ByteArray)⟩ : S72) )) (Reps.none _ _))); intro v6 w7 ho8 hb hg_ hnew_; clear hg_ hnew_; (first | rw [← Ny5.out] at ho8 | (simp only [Int.reduceToNat] at ho8; rw [← Ny5.out] at ho8)); have n0_ := Aside0.mk (Kd.S_elder' (by (with_reducible repeat (first | apply Kd.S_alloc | apply Kd.S_drewN | apply Kd.S_drew)); exact HO_4.out) (Kd.R_base ho8) hb); have n1_ := Aside0.mk (Kd.R_lower ho8 (below_size (by repeat (first | (with_reducible first | exact HB.out | apply below_alloc | apply pw_below_drewN | apply below_drew1) | exact HB.out)))); have n2_ := Aside0.mk (below_step (by repeat (first | (with_reducible first | exact HB.out | apply below_alloc | apply pw_below_drewN | apply below_drew1) | exact HB.out)) hb); clear HO_4; clear HB; have HO_4 := n0_; have HO7 := n1_; have HB := n2_; clear n0_ n1_ n2_; clear hb ho8))
        go_loopg [6, 23] k2 (fun kq v6 v23 w' => ∃ (x6_3 : List (S72)) (x23_3 : Int), v23 = .int .i64 x23_3 ∧ Aside0 (ring_Ring.l1 kq a0 x4_2 x6_3 a0 x14_2 (Int.tmod (wrap64 (x14_2 + 1)) a0) x23_3 = some (r1, r2)) ∧ Aside0 (kq ≤ k2) ∧ Aside0 (Kd.S (Kd.slice 72 k72) 47 w' w.heap.size (fun k_ => some k_ ≠ (v6 : Value).ownBlock) u4 x4_2) ∧ Aside0 (Kd.R k72 72 w' w.heap.size (fun _ => True) v6 x6_3) ∧ Aside0 (Below w.heap.size w w'))
        case atStart => exact ⟨(y5), (0), (by first | rfl | (simp; done) | (simp [*]; done)), H', ⟨Nat.le_refl _⟩, ⟨by (with_reducible repeat (first | apply Kd.S_alloc | apply Kd.S_drewN | apply Kd.S_drew)); exact Kd.S_mono HO_4.out (fun _ hk => hk.2)⟩, ⟨by (with_reducible repeat (first | apply Kd.R_alloc | apply Kd.R_drewN | apply Kd.R_drew)); exact HO7.out⟩, ⟨by repeat (first | (with_reducible first | exact HB.out | apply below_alloc | apply pw_below_drewN | apply below_drew1) | exact HB.out)⟩⟩
        case round =>
         clear H'
         try clear c1
         try clear p2
         try clear c3
         try clear c3b0
         try clear c4
         try clear c5
         try clear c5b0
         try clear c6
         try clear c6b0
         try clear c6b1
         try clear p6
         try clear p2
         obtain ⟨x6_3, x23_3, rfl, HA, HK3, HO_4, HO_6, HB⟩ := hrel
         cases gk with
         | zero => exact absurd HA.out (by simp [ring_Ring.l1])
         | succ k3 =>
          have H := HA.out
          clear HA
          simp only [ring_Ring.l1] at H
          by_cases c9 : x23_3 < (Int.tmod (wrap64 (x14_2 + 1)) a0)
          ·rw [if_pos c9] at H
           have c9b0 : decide (x23_3 < (Int.tmod (wrap64 (x14_2 + 1)) a0)) = true := decide_eq_true c9
           clear c9
           by_cases c10 : x6_3.length < 2932031007402
           ·rw [if_pos c10] at H
            have LMc10 := Aside0.mk c10
            clear c10
            obtain ⟨y8, hy8⟩ : ∃ y_ : List (S72), y_ = (x6_3 ++ [(⟨4, 0, 0, 0, (⟨#[]⟩ : ByteArray)⟩ : S72)]) := ⟨_, rfl⟩
            replace H : (ring_Ring.l1 k3 a0 x4_2 y8 a0 x14_2 (Int.tmod (wrap64 (x14_2 + 1)) a0) (wrap64 (x23_3 + 1))) = some (r1, r2) := by first | (rw [hy8]; with_reducible exact H) | (have H2_ := (Option.bind_some _ _).symm.trans H; rw [hy8]; with_reducible exact H2_) | (have H2_ := (Option.bind_some _ _).symm.trans H; with_reducible exact H2_) | with_reducible exact H | (rw [hy8]; exact H) | exact H
            have Ny8 := Aside0.mk hy8
            clear hy8
            have H' := Aside0.mk H
            clear H
            go_wp2_with (first | ((with_reducible refine gate_builtin (b := .append) (xs := #[.tmp 25, .tmp 27]) rfl ?_); at_builtin; refine Kd.R_append k72 (w0 := w) w.heap.size rfl (.tmp 25) (.tmp 27) 47 72 (.agg #[(.int .i64 0), (.int .i64 0), (.int .i64 0), (.int .i64 0), (.string ⟨#[]⟩)]) 48 rfl Tryz.underlying47 info72 rfl (by decide) (by omega) u6 x6_3 (⟨4, 0, 0, 0, (⟨#[]⟩ : ByteArray)⟩ : S72) [.int .i64 4, .int .i64 0, .int .i64 0, .int .i64 0, .string (⟨#[]⟩ : ByteArray)] (fun _ => True) (fun _ => False) rfl rfl ?aP (fun _ hk => hk.elim) ?aF ?aO ?aB ?aS ?aL ?_; (case aP => exact k72_mkM _ _ _ (⟨4, 0, 0, 0, (⟨#[]⟩ : ByteArray)⟩ : S72)); (case aB => exact (by repeat (first | (with_reducible first | exact HB.out | apply below_alloc | apply pw_below_drewN | apply below_drew1) | exact HB.out))); (case aF => exact (fun _ _ => trivial)); (case aO => exact (by (with_reducible repeat (first | apply Kd.R_alloc | apply Kd.R_drewN | apply Kd.R_drew)); exact HO_6.out)); (case aS => exact (below_size (by repeat (first | (with_reducible first | exact HB.out | apply below_alloc | apply pw_below_drewN | apply below_drew1) | exact HB.out)))); (case aL => have := LMc10.out; first | omega | (simp only [lit_size, List.size_toArray, List.length_cons, List.length_nil]; omega)); intro v9 w11 ho hb hg hat; rw [← Ny8.out] at ho; have n0_ := Aside0.mk (Kd.S_after (ok := (fun _ => True)) (by (with_reducible repeat (first | apply Kd.S_alloc | apply Kd.S_drewN | apply Kd.S_drew)); exact Kd.S_mono HO_4.out (fun _ hk => ⟨trivial, hk⟩)) hg hat); have n1_ := Aside0.mk (hb); have n2_ := Aside0.mk (ho); clear HO_4; clear HB; clear HO_6; have HO_4 := n0_; have HB := n1_; have HO10 := n2_; clear n0_ n1_ n2_; clear ho hb hg hat))
            go_roundg k3
            case measure => have := HJ1.out; have := HK2.out; have := HK3.out; omega
            case rel => exact ⟨(y8), (wrap64 (x23_3 + 1)), (by first | rfl | (simp; done) | (simp [*]; done)), H', ⟨by have := HJ1.out; have := HK2.out; have := HK3.out; omega⟩, ⟨by (with_reducible repeat (first | apply Kd.S_alloc | apply Kd.S_drewN | apply Kd.S_drew)); exact Kd.S_mono HO_4.out (fun _ hk => hk.2)⟩, ⟨by (with_reducible repeat (first | apply Kd.R_alloc | apply Kd.R_drewN | apply Kd.R_drew)); exact HO10.out⟩, ⟨by repeat (first | (with_reducible first | exact HB.out | apply below_alloc | apply pw_below_drewN | apply below_drew1) | exact HB.out)⟩⟩
           ·rw [if_neg c10] at H
            exact absurd H (by simp)
          ·rw [if_neg c9] at H
           have c9b0 : decide (x23_3 < (Int.tmod (wrap64 (x14_2 + 1)) a0)) = false := decide_eq_false c9
           clear c9
           by_cases c12 : x6_3.length < 2932031007402
           ·rw [if_pos c12] at H
            have LMc12 := Aside0.mk c12
            clear c12
            obtain ⟨y11, hy11⟩ : ∃ y_ : List (S72), y_ = (x6_3 ++ [(⟨3, 0, 0, 0, (⟨#[]⟩ : ByteArray)⟩ : S72)]) := ⟨_, rfl⟩
            replace H : (if x4_2.length < 5864062014805 then (ring_Ring.l0 k3 a0 (x4_2 ++ [y11]) a0 (wrap64 (x14_2 + 1))) else (none)) = some (r1, r2) := by first | (rw [hy11]; with_reducible exact H) | (have H2_ := (Option.bind_some _ _).symm.trans H; rw [hy11]; with_reducible exact H2_) | (have H2_ := (Option.bind_some _ _).symm.trans H; with_reducible exact H2_) | with_reducible exact H | (rw [hy11]; exact H) | exact H
            have Ny11 := Aside0.mk hy11
            clear hy11
            by_cases c13 : x4_2.length < 5864062014805
            ·rw [if_pos c13] at H
             have LMc13 := Aside0.mk c13
             clear c13
             obtain ⟨y14, hy14⟩ : ∃ y_ : List (List (S72)), y_ = (x4_2 ++ [y11]) := ⟨_, rfl⟩
             replace H : (ring_Ring.l0 k3 a0 y14 a0 (wrap64 (x14_2 + 1))) = some (r1, r2) := by first | (rw [hy14]; with_reducible exact H) | (have H2_ := (Option.bind_some _ _).symm.trans H; rw [hy14]; with_reducible exact H2_) | (have H2_ := (Option.bind_some _ _).symm.trans H; with_reducible exact H2_) | with_reducible exact H | (rw [hy14]; exact H) | exact H
             have Ny14 := Aside0.mk hy14
             clear hy14
             have H' := Aside0.mk H
             clear H
             go_wp2_with (first | ((with_reducible refine gate_builtin (b := .append) (xs := #[.tmp 31, .tmp 33]) rfl ?_); at_builtin; refine Kd.R_append k72 (w0 := w) w.heap.size rfl (.tmp 31) (.tmp 33) 47 72 (.agg #[(.int .i64 0), (.int .i64 0), (.int .i64 0), (.int .i64 0), (.string ⟨#[]⟩)]) 48 rfl Tryz.underlying47 info72 rfl (by decide) (by omega) u6 x6_3 (⟨3, 0, 0, 0, (⟨#[]⟩ : ByteArray)⟩ : S72) [.int .i64 3, .int .i64 0, .int .i64 0, .int .i64 0, .string (⟨#[]⟩ : ByteArray)] (fun _ => True) (fun _ => False) rfl rfl ?aP (fun _ hk => hk.elim) ?aF ?aO ?aB ?aS ?aL ?_; (case aP => exact k72_mkM _ _ _ (⟨3, 0, 0, 0, (⟨#[]⟩ : ByteArray)⟩ : S72)); (case aB => exact (by repeat (first | (with_reducible first | exact HB.out | apply below_alloc | apply pw_below_drewN | apply below_drew1) | exact HB.out))); (case aF => exact (fun _ _ => trivial)); (case aO => exact (by (with_reducible repeat (first | apply Kd.R_alloc | apply Kd.R_drewN | apply Kd.R_drew)); exact HO_6.out)); (case aS => exact (below_size (by repeat (first | (with_reducible first | exact HB.out | apply below_alloc | apply pw_below_drewN | apply below_drew1) | exact HB.out)))); (case aL => have := LMc12.out; first | omega | (simp only [lit_size, List.size_toArray, List.length_cons, List.length_nil]; omega)); intro v12 w14 ho hb hg hat; rw [← Ny11.out] at ho; have n0_ := Aside0.mk (Kd.S_after (ok := (fun _ => True)) (by (with_reducible repeat (first | apply Kd.S_alloc | apply Kd.S_drewN | apply Kd.S_drew)); exact Kd.S_mono HO_4.out (fun _ hk => ⟨trivial, hk⟩)) hg hat); have n1_ := Aside0.mk (hb); have n2_ := Aside0.mk (ho); clear HO_4; clear HB; clear HO_6; have HO_4 := n0_; have HB := n1_; have HO13 := n2_; clear n0_ n1_ n2_; clear ho hb hg hat; obtain ⟨Ao16, co16, eo16⟩ := Kd.R_slice HO13.out; subst eo16) | ((with_reducible refine gate_builtin (b := .append) (xs := #[.tmp 30, .tmp 35]) rfl ?_); at_builtin; refine Kd.S_append (Kd.slice 72 k72) (w0 := w) w.heap.size rfl (.tmp 30) (.tmp 35) 22 47 (.slice none 0 0) 24 rfl Tryz.underlying22 info47 rfl (by decide) (by omega) u4 x4_2 y11 [.slice Ao16 y11.length co16] (fun _ => True) (fun k_ => some k_ = (.slice Ao16 y11.length co16 : Value).ownBlock) rfl rfl ?aP (fun k_ hk_ => ((Kd.R_mono (ok' := fun k_ => ((fun _ => True)) k_ ∧ some k_ ≠ (u4 : Value).ownBlock) (Kd.R_apart' (HO13.out) (Kd.S_typed HO_4.out) (by decide)) (fun k_ hk => ⟨trivial, hk.2⟩))).1 k_ hk_.symm) ?aF ?aO ?aB ?aS ?aL ?_; (case aP => exact Kd.M_row (Kd.R_mono (Kd.R_tight rfl (Kd.R_mono (ok' := fun k_ => ((fun _ => True)) k_ ∧ some k_ ≠ (u4 : Value).ownBlock) (Kd.R_apart' (HO13.out) (Kd.S_typed HO_4.out) (by decide)) (fun k_ hk => ⟨trivial, hk.2⟩))) (fun _ h_ => h_))); (case aB => exact (by repeat (first | (with_reducible first | exact HB.out | apply below_alloc | apply pw_below_drewN | apply below_drew1) | exact HB.out))); (case aF => exact (fun _ _ => trivial)); (case aO => exact (by (with_reducible repeat (first | apply Kd.S_alloc | apply Kd.S_drewN | apply Kd.S_drew)); exact Kd.S_mono HO_4.out (fun k_ hk => ⟨trivial, fun e_ => hk.2 e_⟩))); (case aS => exact (below_size (by repeat (first | (with_reducible first | exact HB.out | apply below_alloc | apply pw_below_drewN | apply below_drew1) | exact HB.out)))); (case aL => have := LMc13.out; first | omega | (simp only [lit_size, List.size_toArray, List.length_cons, List.length_nil]; omega)); intro v15 w15 ho hb hg hat; rw [← Ny14.out] at ho; have n0_ := Aside0.mk (hb); have n1_ := Aside0.mk (ho); clear HB; clear HO_4; clear HO13; have HB := n0_; have HO16 := n1_; clear n0_ n1_; clear ho hb hg hat))
             go_roundg k3
             case measure => have := HJ1.out; have := HK2.out; have := HK3.out; omega
             case rel => exact ⟨(y14), (wrap64 (x14_2 + 1)), (by first | rfl | (simp; done) | (simp [*]; done)), H', ⟨by have := HJ1.out; have := HK2.out; have := HK3.out; omega⟩, ⟨by (with_reducible repeat (first | apply Kd.S_alloc | apply Kd.S_drewN | apply Kd.S_drew)); exact HO16.out⟩, ⟨by repeat (first | (with_reducible first | exact HB.out | apply below_alloc | apply pw_below_drewN | apply below_drew1) | exact HB.out)⟩⟩
            ·rw [if_neg c13] at H
             exact absurd H (by simp)
           ·rw [if_neg c12] at H
            exact absurd H (by simp)
      ·rw [if_neg c5] at H
       have c5b0 : decide (x14_2 < a0) = false := decide_eq_false c5
       clear c5
       replace H := Option.bind_eq_some_iff.mp H
       obtain ⟨⟨t1, t2⟩, A170, H⟩ := H
       replace H : (some (t1, t2)) = some (r1, r2) := H
       have A17 := Aside0.mk A170
       clear A170
       simp only [Option.some.injEq, Prod.mk.injEq] at H
       obtain ⟨rfl, rfl⟩ := H
       obtain ⟨Ao18, co18, eo18⟩ := Kd.S_slice HO_4.out
       subst eo18
       go_wp2_with (first | ((with_reducible refine gate_callee (f := 15) rfl ?_); refine goesL_ (some 39) rfl rfl Tryz.func15 (by kernel_rfl) rfl #[.slice Ao18 x4_2.length co18] rfl (by (try simp only [List.map_toArray, List.map_cons, List.map_nil]); first | done | rfl | (simp only [List.length_drop, List.length_take]; rfl)) ?_; (with_reducible refine (ring_Together.calls k2 _ _ x4_2 t1 t2 _ ?side1 ?side2 ?side3 A17.out).mono ?_); (case side1 => repeat (first | exact (Kd.S_reads' HO_4.out).2.2 | (with_reducible refine Kd.C_alloc ?_ _) | (with_reducible refine Kd.C_drewN ?_ _) | (with_reducible refine Kd.C_drew ?_))); (case side2 => exact (Kd.S_reads' HO_4.out).2.1); (case side3 => first | (refine LaidW.below HLD.out ?_; with_reducible exact HB.out) | (refine LaidW.below HLD.out ?_; with_reducible apply pw_below_drewN; with_reducible exact HB.out) | (refine LaidW.below HLD.out ?_; with_reducible apply below_alloc; with_reducible exact HB.out) | (refine LaidW.below HLD.out ?_; repeat (first | (with_reducible first | exact HB.out | apply below_alloc | apply pw_below_drewN | apply below_drew1) | exact HB.out); done) | exact HLD.out | (repeat (first | exact HLD.out | (with_reducible refine LaidW.drewN ?_ _) | (with_reducible refine LaidW.drew ?_) | (with_reducible refine LaidW.alloc ?_ _)))); rintro e w19 ⟨v3, rfl, ho0, hb⟩; refine ⟨_, rfl, ?_⟩; have n0_ := Aside0.mk (Kd.S_elder' (by (with_reducible repeat (first | apply Kd.S_alloc | apply Kd.S_drewN | apply Kd.S_drew)); exact HO_4.out) (Kd.S_base ho0) hb); have n1_ := Aside0.mk (Kd.S_lower (Kd.S_new' ho0 (Kd.S_lt (by (with_reducible repeat (first | apply Kd.S_alloc | apply Kd.S_drewN | apply Kd.S_drew)); exact HO_4.out))) (below_size (by repeat (first | (with_reducible first | exact HB.out | apply below_alloc | apply pw_below_drewN | apply below_drew1) | exact HB.out)))); have n2_ := Aside0.mk (below_step (by repeat (first | (with_reducible first | exact HB.out | apply below_alloc | apply pw_below_drewN | apply below_drew1) | exact HB.out)) hb); clear HO_4; clear HB; have HO_4 := n0_; have HO4 := n1_; have HB := n2_; clear n0_ n1_ n2_; (try clear hb); (try clear hb2); (try clear hk); (try clear hi); (try clear ho0)))
       go_ret2
       exact ⟨_, by first | rfl | (simp [errW_none, errW_some] <;> rfl) | (simp [*, errW_none, errW_some] <;> rfl), by (with_reducible repeat (first | apply Kd.S_alloc | apply Kd.S_drewN | apply Kd.S_drew)); exact Kd.S_mono HO4.out (fun _ hk => trivial), by repeat (first | (with_reducible first | exact HB.out | apply below_alloc | apply pw_below_drewN | apply below_drew1) | exact HB.out)⟩

end Go.Proofs.YtocoamgbpoommaaGreatDoor.C
end
section
/- The programs of a ring, the program's and the reference's; equal lists of programs. -/
namespace Go.Proofs.YtocoamgbpoommaaGreatDoor.Plain
open Go.Proofs.YtocoamgbpoommaaGreatDoor.C
open Go.RowKit Go.Proofs.YtocoamgbpoommaaGreatDoorW.PrintWords Go.Proofs.YtocoamgbpoommaaGreatDoorW.PrintLast Go.Proofs.YtocoamgbpoommaaGreatDoorW.PrintMore
set_option linter.unusedVariables false
set_option linter.unusedSimpArgs false

abbrev iHead : Ins := ⟨3, 0, 0, 0, ⟨#[]⟩⟩
abbrev iTail : Ins := ⟨4, 0, 0, 0, ⟨#[]⟩⟩
/-- The programs of which a ring is made. -/
def turns (n : Nat) : List (List Ins) := (List.range n).map (turnP n)
theorem turns_length (n : Nat) : (turns n).length = n := by unfold turns; simp
theorem tmod_nat (a n : Nat) : Int.tmod (a : Int) (n : Int) = ((a % n : Nat) : Int) := rfl
theorem refTurn_l1 (n i : Nat) (hn : 0 < n) (hn2 : n ≤ 40) (hi : i < n) (acc : List (List Ins)) (ha : acc.length = i) : ∀ (d k j : Nat) (p : List Ins), (i + 1) % n - j = d → j ≤ (i + 1) % n → d < k → p.length ≤ j + 1 →
    narcissusref08_Turned.l1 k n acc i p (j : Int) = narcissusref08_Turned.l0 (k - d - 1) n (acc ++ [p ++ (List.replicate d iTail ++ [iHead])]) (i + 1 : Nat)
  | d, k, j, p, hd, hj, hk, hp => by
    obtain ⟨k, rfl⟩ : ∃ m, k = m + 1 := ⟨k - 1, by omega⟩
    have hm : (i + 1) % n < n := Nat.mod_lt _ hn
    have hw : wrap64 ((i : Int) + 1) = ((i + 1 : Nat) : Int) := by rw [wrap_small (by omega) (by omega)]; rfl
    rw [narcissusref08_Turned.l1, if_neg (by omega), hw, tmod_nat]
    by_cases hlt : j < (i + 1) % n
    · rw [if_pos (by omega), show narcissusref08_tail.f 0 0 = some (4, 0, 0, 0, ⟨#[]⟩) from rfl, Option.bind_some, if_pos (by omega), wrap_small (by omega) (by omega), show (j : Int) + 1 = ((j + 1 : Nat) : Int) from rfl]
      rw [refTurn_l1 n i hn hn2 hi acc ha ((i + 1) % n - (j + 1)) k (j + 1) _ rfl (by omega) (by omega) (by rw [List.length_append, List.length_singleton]; omega)]
      obtain ⟨e, rfl⟩ : ∃ e, d = e + 1 := ⟨d - 1, by omega⟩
      rw [show (i + 1) % n - (j + 1) = e from by omega, show k + 1 - (e + 1) - 1 = k - e - 1 from by omega, List.append_assoc, List.replicate_succ]
      rfl
    · obtain rfl : d = 0 := by omega
      rw [if_neg (by omega), show narcissusref08_head.f 0 0 = some (3, 0, 0, 0, ⟨#[]⟩) from rfl, Option.bind_some, if_pos (by omega), if_pos (by omega)]
      rfl
  termination_by d => d
theorem range_drop {n i : Nat} (h : i < n) : (List.range n).drop i = i :: (List.range n).drop (i + 1) := by
  rw [List.drop_eq_getElem_cons (by simpa using h)]; simp
theorem refTurn_l0 (n : Nat) (hn : 0 < n) (hn2 : n ≤ 40) : ∀ (d k i : Nat) (acc : List (List Ins)), n - i = d → i ≤ n → d * 50 < k → acc.length = i →
    narcissusref08_Turned.l0 k n acc (i : Int) = some (acc ++ ((List.range n).drop i).map (turnP n))
  | d, k, i, acc, hd, hi, hk, ha => by
    obtain ⟨k, rfl⟩ : ∃ m, k = m + 1 := ⟨k - 1, by omega⟩
    by_cases hlt : i < n
    · have hm : (i + 1) % n < n := Nat.mod_lt _ hn
      obtain ⟨e, rfl⟩ : ∃ e, d = e + 1 := ⟨d - 1, by omega⟩
      rw [narcissusref08_Turned.l0, if_pos (by omega), show narcissusref08_head.f 0 0 = some (3, 0, 0, 0, ⟨#[]⟩) from rfl, Option.bind_some]
      have h1 := refTurn_l1 n i hn hn2 hlt acc ha ((i + 1) % n) k 0 [iHead] rfl (Nat.zero_le _) (by omega) (by simp)
      rw [show ((0 : Nat) : Int) = 0 from rfl] at h1
      rw [h1, refTurn_l0 n hn hn2 e (k - (i + 1) % n - 1) (i + 1) _ (by omega) (by omega) (by omega) (by rw [List.length_append, List.length_singleton]; omega), range_drop hlt]
      simp [turnP]
    · rw [narcissusref08_Turned.l0, if_neg (by omega), List.drop_eq_nil_of_le (by simp; omega)]
      simp
  termination_by d => d
theorem refTurned_tells (n : Nat) (hn : 0 < n) (hn2 : n ≤ 40) (k : Nat) (hk : 2001 ≤ k) : narcissusref08_Turned.f k (n : Int) = some (turns n) := by
  unfold narcissusref08_Turned.f
  have := refTurn_l0 n hn hn2 n k 0 [] rfl (Nat.zero_le _) (by omega) rfl
  rw [show ((0 : Nat) : Int) = 0 from rfl] at this
  rw [this]
  simp [turns]
theorem ring_l1 (n i : Nat) (hn : 0 < n) (hn2 : n ≤ 40) (hi : i < n) (acc : List (List Ins)) (ha : acc.length = i) : ∀ (d k j : Nat) (p : List Ins), (i + 1) % n - j = d → j ≤ (i + 1) % n → d < k → p.length ≤ j + 1 →
    ring_Ring.l1 k n acc p n i (((i + 1) % n : Nat) : Int) (j : Int) = ring_Ring.l0 (k - d - 1) n (acc ++ [p ++ (List.replicate d iTail ++ [iHead])]) n (i + 1 : Nat)
  | d, k, j, p, hd, hj, hk, hp => by
    obtain ⟨k, rfl⟩ : ∃ m, k = m + 1 := ⟨k - 1, by omega⟩
    have hm : (i + 1) % n < n := Nat.mod_lt _ hn
    rw [ring_Ring.l1]
    by_cases hlt : j < (i + 1) % n
    · rw [if_pos (by omega), if_pos (by omega), wrap_small (by omega) (by omega), show (j : Int) + 1 = ((j + 1 : Nat) : Int) from rfl]
      rw [ring_l1 n i hn hn2 hi acc ha ((i + 1) % n - (j + 1)) k (j + 1) _ rfl (by omega) (by omega) (by rw [List.length_append, List.length_singleton]; omega)]
      obtain ⟨e, rfl⟩ : ∃ e, d = e + 1 := ⟨d - 1, by omega⟩
      rw [show (i + 1) % n - (j + 1) = e from by omega, show k + 1 - (e + 1) - 1 = k - e - 1 from by omega, List.append_assoc, List.replicate_succ]
      rfl
    · obtain rfl : d = 0 := by omega
      rw [if_neg (by omega), if_pos (by omega), if_pos (by omega), wrap_small (by omega) (by omega)]
      rfl
  termination_by d => d
theorem ring_l0 (n : Nat) (hn : 0 < n) (hn2 : n ≤ 40) : ∀ (d k i : Nat) (acc : List (List Ins)), n - i = d → i ≤ n → d * 50 + 12000 < k → acc.length = i →
    ∃ k', 12000 ≤ k' ∧ ring_Ring.l0 k n acc n (i : Int) = ring_Together.f k' (acc ++ ((List.range n).drop i).map (turnP n))
  | d, k, i, acc, hd, hi, hk, ha => by
    obtain ⟨k, rfl⟩ : ∃ m, k = m + 1 := ⟨k - 1, by omega⟩
    by_cases hlt : i < n
    · have hm : (i + 1) % n < n := Nat.mod_lt _ hn
      obtain ⟨e, rfl⟩ : ∃ e, d = e + 1 := ⟨d - 1, by omega⟩
      have hw : wrap64 ((i : Int) + 1) = ((i + 1 : Nat) : Int) := by rw [wrap_small (by omega) (by omega)]; rfl
      have h1 := ring_l1 n i hn hn2 hlt acc ha ((i + 1) % n) k 0 [iHead] rfl (Nat.zero_le _) (by omega) (by simp)
      rw [show ((0 : Nat) : Int) = 0 from rfl] at h1
      obtain ⟨k', hk', e2⟩ := ring_l0 n hn hn2 e (k - (i + 1) % n - 1) (i + 1) (acc ++ [[iHead] ++ (List.replicate ((i + 1) % n) iTail ++ [iHead])]) (by omega) (by omega) (by omega) (by rw [List.length_append, List.length_singleton]; omega)
      refine ⟨k', hk', ?_⟩
      rw [ring_Ring.l0, if_pos (by omega), if_neg (by omega), hw, tmod_nat, h1, e2, range_drop hlt]
      simp [turnP]
    · refine ⟨k, by omega, ?_⟩
      rw [ring_Ring.l0, if_neg (by omega), List.drop_eq_nil_of_le (by simp; omega), List.map_nil, List.append_nil]
      cases ring_Together.f k acc <;> rfl
  termination_by d => d
theorem ring_tells (n : Nat) (hn : 0 < n) (hn2 : n ≤ 40) (k : Nat) (hk : 16000 ≤ k) : ∃ k', 12000 ≤ k' ∧ ring_Ring.f k (n : Int) = ring_Together.f k' (turns n) := by
  obtain ⟨k, rfl⟩ : ∃ m, k = m + 1 := ⟨k - 1, by omega⟩
  obtain ⟨k', hk', e⟩ := ring_l0 n hn hn2 n k 0 [] rfl (Nat.zero_le _) (by omega) rfl
  rw [show ((0 : Nat) : Int) = 0 from rfl] at e
  refine ⟨k', hk', ?_⟩
  unfold ring_Ring.f
  rw [if_neg (by omega), ring_Ring.j0, if_neg (by simp; omega), e]
  simp [turns]
theorem ring_arg (n : Int) (hn : n < 1 ∨ 40 < n) (k : Nat) (hk : 1 ≤ k) : ring_Ring.f k n = some ([], 2) := by
  obtain ⟨k, rfl⟩ : ∃ m, k = m + 1 := ⟨k - 1, by omega⟩
  unfold ring_Ring.f
  by_cases h : n < 1
  · rw [if_pos h, ring_Ring.j0, if_pos rfl]
  · rw [if_neg h, ring_Ring.j0, if_pos (by simp; omega)]
theorem turn_ins (n j : Nat) : ∀ x ∈ turnP n j, (x.f0 = 3 ∨ x.f0 = 4) ∧ x.f1 = 0 ∧ x.f2 = 0 ∧ x.f3 = 0 ∧ x.f4 = ⟨#[]⟩ := by
  intro x hx
  unfold turnP at hx
  simp only [List.mem_cons, List.mem_append, List.mem_replicate, List.not_mem_nil, or_false] at hx
  rcases hx with rfl | ⟨_, rfl⟩ | rfl
  · exact ⟨.inl rfl, rfl, rfl, rfl, rfl⟩
  · exact ⟨.inr rfl, rfl, rfl, rfl, rfl⟩
  · exact ⟨.inl rfl, rfl, rfl, rfl, rfl⟩
theorem vi_turn (n j : Nat) : VI (turnP n j) := by
  intro i hi
  obtain ⟨h0, h1, h2, h3, h4⟩ := turn_ins n j _ (List.getElem_mem hi)
  refine .inr (.inl ⟨by omega, ?_, ?_, h3, by rw [h4]⟩)
  · rw [h1]; exact ⟨by decide, by decide⟩
  · rw [h2]; exact ⟨by decide, by decide⟩
theorem sizes_zero : ∀ p : List Ins, (∀ x ∈ p, x.f4 = ⟨#[]⟩) → sizes p = 0
  | [], _ => rfl
  | x :: p, h => by
    have ih := sizes_zero p fun y hy => h y (List.mem_cons_of_mem _ hy)
    unfold sizes at *
    rw [List.map_cons, List.sum_cons, ih, h x List.mem_cons_self]
    rfl
theorem turn_size (n j : Nat) : sizes (turnP n j) = 0 := sizes_zero _ fun x hx => (turn_ins n j x hx).2.2.2.2
theorem okp_turn (n j : Nat) (hn : 0 < n) (h : n ≤ 40) : OKP (turnP n j) := by
  have hm : (j + 1) % n < n := Nat.mod_lt _ hn
  exact okp_iff.2 ⟨by unfold turnP; simp; omega, by rw [turn_size]; omega, vi_turn n j⟩
theorem okp_turns (n : Nat) (hn : 0 < n) (h : n ≤ 40) : ∀ p ∈ turns n, OKP p := by
  intro p hp
  obtain ⟨j, _, rfl⟩ := List.mem_map.1 hp
  exact okp_turn n j hn h

/-! ### equal lists of programs -/
theorem sameL_l (a b : List (List Ins)) (hab : a.length = b.length) (hl : a.length ≤ 1000000) (hz : ∀ p ∈ a, p.length ≤ 1000000) : ∀ (d k i : Nat), a.length - i = d → i ≤ a.length → d + 1000001 < k →
    ∃ v, narcissusref08_Same.l0 k a b (i : Int) = some v ∧ (v = true ↔ a.drop i = b.drop i)
  | d, k, i, hd, hi, hk => by
    obtain ⟨k, rfl⟩ : ∃ m, k = m + 1 := ⟨k - 1, by omega⟩
    by_cases hlt : i < a.length
    · have hltb : i < b.length := by omega
      have hda : a.drop i = a[i] :: a.drop (i + 1) := List.drop_eq_getElem_cons hlt
      have hdb : b.drop i = b[i] :: b.drop (i + 1) := List.drop_eq_getElem_cons hltb
      have hzi := hz a[i] (List.getElem_mem hlt)
      obtain ⟨v, e, hv⟩ := same_tells a[i] b[i] (by omega) k (by omega)
      rw [narcissusref08_Same.l0, if_pos (by omega), if_pos (by omega), if_pos (by omega), rd_prg a i hlt, rd_prg b i hltb, e, Option.bind_some, hda, hdb]
      cases v with
      | true =>
        rw [if_pos rfl, wrap_small (by omega) (by omega), show (i : Int) + 1 = ((i + 1 : Nat) : Int) from rfl]
        obtain ⟨v, e, hv2⟩ := sameL_l a b hab hl hz (a.length - (i + 1)) k (i + 1) rfl (by omega) (by omega)
        refine ⟨v, e, hv2.trans ?_⟩
        rw [List.cons.injEq]
        exact ⟨fun h => ⟨hv.1 rfl, h⟩, fun h => h.2⟩
      | false =>
        rw [if_neg (by decide)]
        refine ⟨false, rfl, ?_⟩
        rw [List.cons.injEq]
        exact ⟨fun h => (by cases h), fun h => (hv.2 h.1)⟩
    · rw [narcissusref08_Same.l0, if_neg (by omega), List.drop_eq_nil_of_le (by omega), List.drop_eq_nil_of_le (by omega)]
      exact ⟨true, rfl, by simp⟩
  termination_by d => d
theorem sameL_tells (a b : List (List Ins)) (hl : a.length ≤ 1000000) (hz : ∀ p ∈ a, p.length ≤ 1000000) (k : Nat) (hk : 2000010 ≤ k) : ∃ v, narcissusref08_Same.f k a b = some v ∧ (v = true ↔ a = b) := by
  unfold narcissusref08_Same.f
  by_cases h : (a.length : Int) = (b.length : Int)
  · rw [if_pos h]
    have := sameL_l a b (by omega) hl hz a.length k 0 rfl (by omega) (by omega)
    simpa using this
  · rw [if_neg h]
    refine ⟨false, rfl, ?_⟩
    exact ⟨fun h => (by cases h), fun e => absurd (by rw [e]) h⟩
theorem sameL_yes (a : List (List Ins)) (hl : a.length ≤ 1000000) (hz : ∀ p ∈ a, p.length ≤ 1000000) (k : Nat) (hk : 2000010 ≤ k) : narcissusref08_Same.f k a a = some true := by
  obtain ⟨v, e, hv⟩ := sameL_tells a a hl hz k hk
  rw [e, hv.2 rfl]
end Go.Proofs.YtocoamgbpoommaaGreatDoor.Plain
end
