/- Texts of this claim, together: what the functions return, and what they say in plain words. -/
import Derived.Test.YtocoamgbpoommaaGreatDoorUK
import Derived.BigQuiet
import Derived.Deep.QuietTactic
import Derived.Deep.RegionHeld3
import Derived.Test.YtocoamgbpoommaaGreatDoorUB
import Derived.Outline
import Derived.Deep.RegionLawGrows
section
namespace Go.Proofs.YtocoamgbpoommaaGreatDoor.C
open Go.RowKit Go.Proofs.YtocoamgbpoommaaGreatDoorW.PrintWords Go.Proofs.YtocoamgbpoommaaGreatDoorW.PrintLast Go.Proofs.YtocoamgbpoommaaGreatDoorW.PrintMore
open Go.Proofs.YtocoamgbpoommaaGreatDoor.Plain (Tr dec Rg upd exec Right Reg bl IsT OKP after init runM ValidT)
set_option linter.unusedVariables false
set_option linter.unusedSimpArgs false
theorem StateAt.below {base : Nat} {w w' : World} {s : Value} {a : Int} {r : Rg} (h : StateAt base w s a r) (hb : Below w.heap.size w w') : StateAt base w' s a r := by
  obtain ⟨b, rb, ys, e, h1, h2, h3, h4, h5, h6⟩ := h
  refine ⟨b, rb, ys, e, h1, h2, (hb.block _ (blk_lt h3)).trans h3, (hb.block _ (blk_lt h4)).trans h4, h5, fun i hi => ?_⟩
  obtain ⟨v, hv, hn⟩ := h6 i hi
  exact ⟨v, hv, Nd.keep (NK.below hb) _ _ hn⟩
def Small (r : Rg) : Prop := ∀ i, (r i).size ≤ 2000000
theorem Small.upd {r : Rg} (h : Small r) (a : Nat) {t : Tr} (ht : t.size ≤ 2000000) : Small (upd r a t) := fun i => by
  unfold Plain.upd
  split
  · exact ht
  · exact h i
theorem dec_size {l : List UInt8} (h : IsT l) : (dec l).size = l.length := by rw [← Tr.enc_length, Plain.enc_dec h]
theorem exec_small {x : S72} {i n : Int} (hx : Right x i n) {r : Rg} (h : Small r) {q : Int × Rg} (e : exec x r = some q) : Small q.2 := by
  unfold exec at e
  split at e
  · rename_i h0
    cases e
    refine h.upd _ ?_
    rcases hx with hx | hx | hx | hx
    · rw [dec_size hx.2.2.2.2.2, Plain.bl_len]; exact hx.2.2.2.2.1
    all_goals omega
  split at e
  · cases e; exact h.upd _ (h _)
  split at e
  · split at e
    · cases e
    · cases e; exact h.upd _ (by simp only [Tr.size]; omega)
  split at e
  · cases e
    refine h.upd _ (Nat.le_trans ?_ (h x.f2.toNat))
    cases r x.f2.toNat with
    | nil => exact Nat.le_refl _
    | cons a b => simp only [Tr.hd, Tr.size]; omega
  split at e
  · cases e
    refine h.upd _ (Nat.le_trans ?_ (h x.f2.toNat))
    cases r x.f2.toNat with
    | nil => exact Nat.le_refl _
    | cons a b => simp only [Tr.tl, Tr.size]; omega
  · cases e; exact h
theorem exec_in {x : S72} {i n : Nat} (hx : Right x i n) {r : Rg} {q : Int × Rg} (e : exec x r = some q) (hi : i < n := by omega) : 0 ≤ (i : Int) + q.1 ∧ (i : Int) + q.1 ≤ n := by
  unfold exec at e
  unfold Right at hx
  split at e
  · cases e; constructor <;> dsimp only <;> omega
  split at e
  · cases e; constructor <;> dsimp only <;> omega
  split at e
  · split at e
    · cases e
    · cases e; constructor <;> dsimp only <;> omega
  split at e
  · cases e; constructor <;> dsimp only <;> omega
  split at e
  · cases e; constructor <;> dsimp only <;> omega
  · have : -(i : Int) ≤ x.f2 ∧ x.f2 ≤ (n : Int) - i := by omega
    cases e
    constructor <;> dsimp only <;> split <;> omega
def Stepped (w0 : World) (s : Value) (k : Nat) (r : Rg) (q : Option (Int × Rg)) (e : Ending) (w' : World) : Prop :=
  match q with
  | none => e = .returned (.bool false) ∧ StateAt w0.heap.size w' s k r ∧ Below w0.heap.size w0 w'
  | some q => e = .returned (.bool true) ∧ StateAt w0.heap.size w' s ((k : Int) + q.1) q.2 ∧ Below w0.heap.size w0 w'
theorem Step_calls (w0 w : World) (m s : Value) (p : List S72) (k : Nat) (hk : k < p.length) (r : Rg) (hm : MachAt w0 m p) (hb : Below w0.heap.size w0 w) (hs : StateAt w0.heap.size w s k r) (hp : OKP p) (hz : Small r) :
    Calls Tryz.prog 67 #[m, s] w (Stepped w0 s k r (exec p[k] r)) := by
  have hR := hp.2.2 k hk
  have hrd : rd_T72 p (k : Int) = p[k] := by unfold rd_T72; simp [hk]
  rw [hrd] at hR
  have h4 := hp.1
  rcases hR with ⟨h0, hA, _⟩ | ⟨h0, hA, hB, _⟩ | ⟨h0, hA, hB, hC, _⟩ | ⟨h0, hA, hJ1, hJ2, _⟩
  · have e : exec p[k] r = some (1, upd r p[k].f1.toNat (dec (bl p[k].f4))) := by unfold exec; rw [if_pos h0]
    rw [e]
    exact Step_set w0 w m s p k hk r hm hb hs h4 h0 hA
  · rcases h0 with h0 | h0 | h0
    · have e : exec p[k] r = some (1, upd r p[k].f1.toNat (r p[k].f2.toNat)) := by unfold exec; rw [if_neg (by omega), if_pos h0]
      rw [e]
      exact Step_move w0 w m s p k hk r hm hb hs h4 h0 hA hB
    · have e : exec p[k] r = some (1, upd r p[k].f1.toNat (r p[k].f2.toNat).hd) := by unfold exec; rw [if_neg (by omega), if_neg (by omega), if_neg (by omega), if_pos h0]
      rw [e]
      exact Step_head w0 w m s p k hk r hm hb hs h4 h0 hA hB
    · have e : exec p[k] r = some (1, upd r p[k].f1.toNat (r p[k].f2.toNat).tl) := by unfold exec; rw [if_neg (by omega), if_neg (by omega), if_neg (by omega), if_neg (by omega), if_pos h0]
      rw [e]
      exact Step_tail w0 w m s p k hk r hm hb hs h4 h0 hA hB
  · by_cases hl : 2000000 < 1 + (r p[k].f2.toNat).size + (r p[k].f3.toNat).size
    · have e : exec p[k] r = none := by unfold exec; rw [if_neg (by omega), if_neg (by omega), if_pos h0, if_pos hl]
      rw [e]
      exact Step_large w0 w m s p k hk r hm hb hs h4 h0 hA hB hC (fun i _ => hz i) hl
    · have e : exec p[k] r = some (1, upd r p[k].f1.toNat (.cons (r p[k].f2.toNat) (r p[k].f3.toNat))) := by unfold exec; rw [if_neg (by omega), if_neg (by omega), if_pos h0, if_neg hl]
      rw [e]
      exact Step_cons w0 w m s p k hk r hm hb hs h4 h0 hA hB hC (fun i _ => hz i) (by omega)
  · have e : exec p[k] r = some (if (r p[k].f1.toNat).isNil = true then 1 else p[k].f2, r) := by unfold exec; rw [if_neg (by omega), if_neg (by omega), if_neg (by omega), if_neg (by omega), if_neg (by omega)]
    rw [e]
    cases hn : (r p[k].f1.toNat).isNil with
    | true => exact Step_stay w0 w m s p k hk r hm hb hs h4 h0 hA hn
    | false => exact Step_go w0 w m s p k hk r hm hb hs h4 h0 hA hn ⟨by omega, by omega⟩
set_option maxHeartbeats 1000000 in
set_option maxRecDepth 100000 in
theorem Ended_calls (w : World) (base : Nat) (m s : Value) (p : List S72) (a : Int) (r : Rg) (v : Bool) (hm : MachAt w m p) (hs : StateAt base w s a r) (hv : (a == (p.length : Int)) = v) :
    Calls Tryz.prog 50 #[m, s] w fun e w' => e = .returned (.bool v) ∧ ∃ n, w' = w.drewN n := by
  obtain ⟨g, h, A, c, xs, rfl, hg, hC, hh, hl, hq, hx⟩ := hm
  obtain ⟨b, rb, ys, rfl, hb1, hb2, hsb, hrb, hyl, hr⟩ := hs
  have s0 : w.cell? ⟨b, 0, none⟩ = some (.int .i64 a) := (blk_cell hsb 0).trans rfl
  have m0 : w.cell? ⟨g, 0, none⟩ = some (.slice A p.length c) := (blk_cell hg 0).trans rfl
  have HV := Aside0.mk hv
  clear hsb hrb hyl hr hg hC hh hl hq hx hv
  go_enter Tryz.func50, Tryz.ntmps50
  go_wp2
  go_quiet (fail)
  go_wp2
  go_ret
  exact ⟨congrArg (fun b => Ending.returned (.bool b)) HV.out, _, rfl⟩
def nils (n : Nat) : List Value := List.replicate n (.pointer none)
theorem made_nils (n : Nat) : madeCells #[.pointer none] n = (nils n).toArray := by
  apply Array.ext'
  apply List.ext_getElem
  · simp [madeCells, nils]
  · intro i h1 h2
    simp [madeCells, nils, Nat.mod_one]
theorem nils_at {n i : Nat} (h : i < n) : (nils n)[i]? = some (.pointer none) := by simp [nils, h]
theorem make_nodes (w : World) (n : Nat) (hn : n ≤ 1000000) : ∃ w1, (Instr.makeSlice 75 (.int .i64 (n : Int)) (.int .i64 (n : Int))).run Tryz.prog w = .ok (.slice (some ⟨w.heap.size, 0, none⟩) n n) w1 ∧
    w1.heap[w.heap.size]? = some (.cells (nils n).toArray 38 (0, 0)) ∧ Below w.heap.size w w1 ∧ w1.heap.size = w.heap.size + 1 := by
  refine ⟨w.alloc (.cells (madeCells #[.pointer none] n) 38), run_make_row' (P := Tryz.prog) 75 38 (.pointer none) 8 Tryz.underlying75 infoNp rfl .i64 .i64 n (by omega) (by omega) w, ?_, below_alloc (Below.refl _ _) _, by simp⟩
  rw [blk_new, made_nils]
set_option maxHeartbeats 1000000 in
set_option maxRecDepth 100000 in
theorem First3_calls (w : World) (t : Tr) (x : Value) (hx : Nd w t x) :
    Calls Tryz.prog 66 #[x] w fun e w' => ∃ s, e = .returned s ∧ StateAt w.heap.size w' s 0 (init t) ∧ Below w.heap.size w w' := by
  obtain ⟨q, rfl⟩ := Nd.ptr hx
  obtain ⟨w1, hmk0, hb1, hbl, hsz⟩ := make_nodes w 32 (by omega)
  have hmk : (Instr.makeSlice 75 (.int .i64 32) (.int .i64 32)).run Tryz.prog w = .ok (.slice (some ⟨w.heap.size, 0, none⟩) 32 32) w1 := hmk0
  have HX := Aside0.mk hx
  have HB1 := Aside0.mk hb1
  have HBL := Aside0.mk hbl
  have hlt : w.heap.size < w1.heap.size := by omega
  have f1 : ∀ o : Obj, (w1.alloc o).cell? ⟨w.heap.size, 0, none⟩ = some (.pointer none) := fun o => reg_cell (blk_alloc hb1 o) (nils_at (by omega))
  have f2 : ∀ o : Obj, (w1.alloc o).frozen? ⟨w.heap.size, 0, none⟩ = false := fun o => blk_frozen (blk_alloc hb1 o) 0
  clear hx hmk0 hb1 hbl hsz
  go_enter Tryz.func66, Tryz.ntmps66
  go_wp2
  go_ret
  have hs2 : (w1.setCell ⟨w.heap.size, 0, none⟩ (.pointer q)).heap.size = w1.heap.size := by simp
  have hn := blk_new (w1.setCell ⟨w.heap.size, 0, none⟩ (.pointer q)) (.cells #[.int .i64 0, .slice (some ⟨w.heap.size, 0, none⟩) 32 32] 85)
  rw [hs2] at hn
  have k1 : NK w ((w1.setCell ⟨w.heap.size, 0, none⟩ (.pointer q)).alloc (.cells #[.int .i64 0, .slice (some ⟨w.heap.size, 0, none⟩) 32 32] 85)) := NK.trans (NK.below HBL.out) (NK.trans (NK.set HB1.out (by decide) 0 _) (NK.alloc _ _))
  refine ⟨_, rfl, ⟨w1.heap.size, w.heap.size, (nils 32).set 0 (.pointer q), rfl, by omega, Nat.le_refl _, hn, ?_, by simp [nils], fun i hi => ?_⟩, ?_⟩
  · refine (blk_alloc (blk_set HB1.out 0 (.pointer q)) _).trans ?_
    simp
  · by_cases h : i = 0
    · subst h
      exact ⟨.pointer q, by simp [nils], Nd.keep k1 _ _ HX.out⟩
    · refine ⟨.pointer none, by rw [List.getElem?_set_ne (by omega)]; exact nils_at hi, ?_⟩
      unfold init
      rw [if_neg h]
      rfl
  · exact (HBL.out.setCell (p := ⟨w.heap.size, 0, none⟩) (Nat.le_refl _) _).alloc (by rw [hs2]; omega) _
def Went (w : World) (q : Int × Rg × Nat × Bool) (e : Ending) (w' : World) : Prop :=
  ∃ s, e = .returned (.tuple #[s, .int .i64 q.2.2.1, .bool q.2.2.2]) ∧ StateAt w.heap.size w' s q.1 q.2.1 ∧ Below w.heap.size w w'
set_option maxHeartbeats 4000000 in
set_option maxRecDepth 100000 in
theorem After_calls (w : World) (m x : Value) (p : List S72) (t : Tr) (k : Nat) (hm : MachAt w m p) (hx : Nd w t x) (hz : t.size ≤ 2000000) (hp : OKP p) (hk : k ≤ 1000000000) :
    Calls Tryz.prog 49 #[m, x, .int .i64 k] w (Went w (after p k 0 (init t))) := by
  have HM := Aside0.mk hm
  have HX := Aside0.mk hx
  have HP := Aside0.mk hp
  have h4 : p.length ≤ 4000 := hp.1
  obtain ⟨Q, hQ⟩ : ∃ Q, Q = after p k 0 (init t) := ⟨_, rfl⟩
  rw [← hQ]
  have HQ := Aside0.mk hQ
  have hz0 : Small (init t) := fun i => by
    unfold init
    split
    · exact hz
    · decide
  have HZ0 := Aside0.mk hz0
  clear hm hx hp hQ hz0
  go_enter Tryz.func49, Tryz.ntmps49
  go_wp2_with (go_at_call 66; refine (First3_calls _ t x HX.out).mono ?_; rintro e w1 ⟨s, rfl, hs, hb⟩; have HS1 := Aside0.mk hs; have HB1 := Aside0.mk hb; clear hs hb)
  go_loopg [10] (k + 1) (fun kq v10 wr => ∃ (n a : Nat) (r : Rg), v10 = .int .i64 n ∧ n ≤ k ∧ Aside0 (kq = k - n + 1 ∧ a ≤ p.length) ∧ Aside0 (Q = ((after p (k - n) a r).1, (after p (k - n) a r).2.1, (after p (k - n) a r).2.2.1 + n, (after p (k - n) a r).2.2.2)) ∧ Aside0 (Small r) ∧ Aside0 (StateAt w.heap.size wr s a r) ∧ Aside0 (Below w.heap.size w wr))
  case atStart => exact ⟨0, 0, init t, rfl, Nat.zero_le _, ⟨by omega, Nat.zero_le _⟩, ⟨HQ.out⟩, HZ0, HS1, HB1⟩
  case round =>
    clear HS1 HB1 HQ HZ0
    obtain ⟨n, a, r, rfl, hn, HI, HQ, HZ, HS, HB⟩ := hrel
    obtain ⟨k2, rfl⟩ : ∃ k2, gk = k2 + 1 := ⟨gk - 1, by have := HI.out; omega⟩
    by_cases hlt : n < k
    · have hlt1 : (n : Int) < (k : Int) := by omega
      obtain ⟨j, hj⟩ : ∃ j, k - n = j + 1 := ⟨k - n - 1, by omega⟩
      by_cases he : a = p.length
      · have te : ((a : Int) == (p.length : Int)) = true := by rw [he]; simp
        have hq := HQ.out
        rw [hj, after, if_pos (by omega)] at hq
        have HQ2 := Aside0.mk hq
        clear hq
        go_wp2_with (go_at_call 50; refine (Ended_calls _ _ m s p a r true (HM.out.below HB.out) HS.out te).mono ?_; rintro e w2 ⟨rfl, nq, rfl⟩)
        go_ret3
        exact ⟨s, by rw [HQ2.out]; simp, by rw [HQ2.out]; exact HS.out.below (pw_below_drewN (Below.refl _ _) _), pw_below_drewN HB.out _⟩
      · have te : ((a : Int) == (p.length : Int)) = false := beq_eq_false_iff_ne.2 (by omega)
        have hap : a < p.length := by have := HI.out; omega
        have hq := HQ.out
        have hg : p.getD ((a : Int).toNat) ⟨0, 0, 0, 0, ⟨#[]⟩⟩ = p[a] := by simp [hap]
        rw [hj, after, if_neg (by omega), hg] at hq
        have hR := HP.out.2.2 a hap
        have hrd : rd_T72 p (a : Int) = p[a] := by unfold rd_T72; simp [hap]
        rw [hrd] at hR
        cases hx : exec p[a] r with
        | none =>
          rw [hx] at hq
          have HQ2 := Aside0.mk hq
          have HE := Aside0.mk hx
          clear hq hg hR hrd hx
          go_wp2_with (first
            | (go_at_call 50; refine (Ended_calls _ _ m s p a r false (HM.out.below HB.out) HS.out te).mono ?_; rintro e w2 ⟨rfl, nq, rfl⟩)
            | (go_at_call 67; refine (Step_calls w _ m s p a hap r HM.out (pw_below_drewN HB.out _) (HS.out.below (pw_below_drewN (Below.refl _ _) _)) HP.out HZ.out).mono ?_; rw [HE.out]; rintro e w3 ⟨rfl, hs3, hb3⟩; have HS3 := Aside0.mk hs3; have HB3 := Aside0.mk hb3; clear hs3 hb3))
          go_ret3
          exact ⟨s, by rw [HQ2.out]; simp, by rw [HQ2.out]; exact HS3.out, HB3.out⟩
        | some q =>
          rw [hx] at hq
          have hin := exec_in hR hx
          have HSM := Aside0.mk (exec_small hR HZ.out hx)
          have HQ2 := Aside0.mk hq
          have HE := Aside0.mk hx
          clear hq hg hR hrd hx
          go_wp2_with (first
            | (go_at_call 50; refine (Ended_calls _ _ m s p a r false (HM.out.below HB.out) HS.out te).mono ?_; rintro e w2 ⟨rfl, nq, rfl⟩)
            | (go_at_call 67; refine (Step_calls w _ m s p a hap r HM.out (pw_below_drewN HB.out _) (HS.out.below (pw_below_drewN (Below.refl _ _) _)) HP.out HZ.out).mono ?_; rw [HE.out]; rintro e w3 ⟨rfl, hs3, hb3⟩; have HS3 := Aside0.mk hs3; have HB3 := Aside0.mk hb3; clear hs3 hb3))
          go_roundg k2
          case measure => omega
          case rel =>
            obtain ⟨a2, ha2⟩ := Int.eq_ofNat_of_zero_le hin.1
            have h1 := HI.out
            refine ⟨n + 1, a2, q.2, by go_num, by omega, ⟨by omega, by omega⟩, ⟨?_⟩, HSM, ⟨by rw [← ha2]; exact HS3.out⟩, HB3⟩
            rw [HQ2.out, ha2, show k - (n + 1) = j from by omega]
            simp only [Nat.add_assoc, Nat.add_comm 1 n]
    · have hq := HQ.out
      rw [show k - n = 0 from by omega, after] at hq
      have HQ2 := Aside0.mk hq
      clear hq
      go_wp2
      go_ret3
      exact ⟨s, by rw [HQ2.out]; simp, by rw [HQ2.out]; exact HS.out, HB.out⟩
end Go.Proofs.YtocoamgbpoommaaGreatDoor.C
end
section
namespace Go.Proofs.YtocoamgbpoommaaGreatDoor.C
open Go.RowKit Go.Proofs.YtocoamgbpoommaaGreatDoorW.PrintWords Go.Proofs.YtocoamgbpoommaaGreatDoorW.PrintLast Go.Proofs.YtocoamgbpoommaaGreatDoorW.PrintMore
open Go.Proofs.YtocoamgbpoommaaGreatDoor.Plain (Tr dec Rg upd exec Right Reg bl IsT OKP after init runM ValidT)
set_option linter.unusedVariables false
set_option linter.unusedSimpArgs false
theorem after_small {p : List S72} (hp : OKP p) : ∀ (k : Nat) (a : Nat) (r : Rg), a ≤ p.length → Small r → Small (after p k a r).2.1
  | 0, a, r, _, h => h
  | k + 1, a, r, ha, h => by
    by_cases he : a = p.length
    · rw [after, if_pos (by omega)]; exact h
    · have hap : a < p.length := by omega
      have hg : p.getD ((a : Int).toNat) ⟨0, 0, 0, 0, ⟨#[]⟩⟩ = p[a] := by simp [hap]
      have hR := hp.2.2 a hap
      have hrd : rd_T72 p (a : Int) = p[a] := by unfold rd_T72; simp [hap]
      rw [hrd] at hR
      rw [after, if_neg (by omega), hg]
      cases hx : exec p[a] r with
      | none => exact h
      | some q =>
        have hin := exec_in hR hx
        obtain ⟨b, hb⟩ := Int.eq_ofNat_of_zero_le hin.1
        simp only [hb]
        exact after_small hp k b q.2 (by omega) (exec_small hR h hx)
theorem small_init {t : Tr} (h : t.size ≤ 2000000) : Small (init t) := fun i => by
  unfold init
  split
  · exact h
  · decide
theorem run_size {p : List S72} (hp : OKP p) {t : Tr} (h : t.size ≤ 2000000) (k : Nat) : (runM p t k).1.size ≤ 2000000 := by
  unfold runM
  dsimp only
  split
  · split
    · exact after_small hp k 0 _ (Nat.zero_le _) (small_init h) 0
    · exact (by decide)
  · exact (by decide)
def Ran (w : World) (q : Tr × Nat × Int) (e : Ending) (w' : World) : Prop :=
  ∃ v, e = .returned (.tuple #[v, .int .i64 q.2.1, .int .i64 q.2.2]) ∧ Nd w' q.1 v ∧ Below w.heap.size w w'
set_option maxHeartbeats 2000000 in
set_option maxRecDepth 100000 in
theorem Run_calls (w : World) (m x : Value) (p : List S72) (t : Tr) (k : Nat) (hm : MachAt w m p) (hx : Nd w t x) (hz : t.size ≤ 2000000) (hp : OKP p) (hk : k ≤ 1000000000) :
    Calls Tryz.prog 29 #[m, x, .int .i64 k] w (Ran w (runM p t k)) := by
  have HM := Aside0.mk hm
  have HX := Aside0.mk hx
  have HP := Aside0.mk hp
  have HZ := Aside0.mk hz
  have HK := Aside0.mk hk
  have hr : runM p t k = if (after p k 0 (init t)).2.2.2 = true then (if (after p k 0 (init t)).1 = (p.length : Int) then ((after p k 0 (init t)).2.1 0, (after p k 0 (init t)).2.2.1, 0) else (.nil, 0, 7)) else (.nil, 0, 3) := rfl
  have hW := After_calls w m x p t k hm hx hz hp hk
  generalize after p k 0 (init t) = q at *
  obtain ⟨a, r, n, ok⟩ := q
  dsimp only at hr
  have HR := Aside0.mk hr
  have HW := Aside0.mk hW
  clear hm hx hp hz hr hW hk
  cases ok with
  | false =>
    go_enter Tryz.func29, Tryz.ntmps29
    go_wp2_with (go_at_call 49; refine HW.out.mono ?_; rintro e w1 ⟨s, rfl, hs, hb⟩; have HS := Aside0.mk hs; have HB := Aside0.mk hb; clear hs hb)
    go_ret3
    exact ⟨_, by rw [HR.out]; rfl, by rw [HR.out]; rfl, HB.out⟩
  | true =>
    by_cases he : a = (p.length : Int)
    · have te : (a == (p.length : Int)) = true := beq_iff_eq.2 he
      have hr := HR.out
      rw [if_pos rfl, if_pos he] at hr
      have HR2 := Aside0.mk hr
      clear hr he HR
      go_enter Tryz.func29, Tryz.ntmps29
      go_wp2_with (first
        | (go_at_call 49; refine HW.out.mono ?_; rintro e w1 ⟨s, rfl, hs, hb⟩; have HS := Aside0.mk hs; have HB := Aside0.mk hb; clear hs hb)
        | (go_at_call 50; refine (Ended_calls _ _ m s p a r true (HM.out.below HB.out) HS.out te).mono ?_; rintro e w2 ⟨rfl, nq, rfl⟩; obtain ⟨b, rb, ys, rfl, hb1, hb2, hsb, hrb, hyl, hr0⟩ := HS.out; obtain ⟨v0, ev0, hv0⟩ := hr0 0 (by omega); have s1 : w1.cell? ⟨b, 1, none⟩ = some (.slice (some ⟨rb, 0, none⟩) 32 32) := (blk_cell hsb 1).trans rfl; have c0 : w1.cell? ⟨rb, 0, none⟩ = some v0 := reg_cell hrb ev0; have HV := Aside0.mk hv0; clear hsb hrb hyl hr0 ev0 hv0))
      go_ret3
      exact ⟨v0, by rw [HR2.out]; rfl, by rw [HR2.out]; exact Nd.keep (NK.below (pw_below_drewN (Below.refl _ _) _)) _ _ HV.out, pw_below_drewN HB.out _⟩
    · have te : (a == (p.length : Int)) = false := beq_eq_false_iff_ne.2 he
      have hr := HR.out
      rw [if_pos rfl, if_neg he] at hr
      have HR2 := Aside0.mk hr
      clear hr he HR
      go_enter Tryz.func29, Tryz.ntmps29
      go_wp2_with (first
        | (go_at_call 49; refine HW.out.mono ?_; rintro e w1 ⟨s, rfl, hs, hb⟩; have HS := Aside0.mk hs; have HB := Aside0.mk hb; clear hs hb)
        | (go_at_call 50; refine (Ended_calls _ _ m s p a r false (HM.out.below HB.out) HS.out te).mono ?_; rintro e w2 ⟨rfl, nq, rfl⟩))
      go_ret3
      exact ⟨_, by rw [HR2.out]; rfl, by rw [HR2.out]; rfl, pw_below_drewN HB.out _⟩
def Loads (base : Nat) (w : World) (g h : Nat) (A : Option Addr) (c : Nat) (p : List S72) (i : Nat) : Prop :=
  ∃ xs : List Value, base ≤ g ∧ base ≤ h ∧ w.heap[g]? = some (.cells #[.slice A p.length c, .slice (some ⟨h, 0, none⟩) p.length p.length] 79 (0, 0)) ∧
    w.heap[h]? = some (.cells xs.toArray 38 (0, 0)) ∧ xs.length = p.length ∧ (∀ j, j < p.length → ∃ q, xs[j]? = some (.pointer q)) ∧ ∀ j (h : j < p.length), j < i → p[j].f0 = 0 → ∃ v, xs[j]? = some v ∧ Nd w (dec (bl p[j].f4)) v
set_option maxHeartbeats 4000000 in
set_option maxRecDepth 100000 in
theorem Load_calls (w : World) (A : Option Addr) (c : Nat) (p : List S72) (hC : Kd.C k72 w A p.length p) (hp : OKP p) :
    Calls Tryz.prog 28 #[.slice A p.length c] w fun e w' => ∃ m, e = .returned m ∧ MachAt w' m p ∧ Below w.heap.size w w' := by
  have h4 : p.length ≤ 4000 := hp.1
  obtain ⟨w1, hmk, hb1, hbl, hsz⟩ := make_nodes w p.length (by omega)
  have HC := Aside0.mk hC
  have HP := Aside0.mk hp
  have HB1 := Aside0.mk hb1
  have HBL := Aside0.mk hbl
  have HSZ := Aside0.mk hsz
  clear hC hp hb1 hbl hsz
  go_enter Tryz.func28, Tryz.ntmps28
  go_wp2
  clear hmk
  go_loopg [4] (p.length + 1) (fun kq v4 wr => ∃ i : Nat, v4 = .int .i64 i ∧ i ≤ p.length ∧ Aside0 (kq = p.length - i + 1) ∧ Aside0 (Loads w.heap.size wr w1.heap.size w.heap.size A c p i) ∧ Aside0 (Below w.heap.size w wr))
  case atStart =>
    refine ⟨0, rfl, Nat.zero_le _, ⟨by omega⟩, ⟨nils p.length, by have := HSZ.out; omega, Nat.le_refl _, blk_new w1 _, blk_alloc HB1.out _, by simp [nils], fun j hj => ⟨none, nils_at hj⟩, fun j _ h => absurd h (by omega)⟩, ⟨HBL.out.alloc (by have := HSZ.out; omega) _⟩⟩
  case round =>
    obtain ⟨i, rfl, hi, HI, HL, HB⟩ := hrel
    obtain ⟨k2, rfl⟩ : ∃ k2, gk = k2 + 1 := ⟨gk - 1, by have := HI.out; omega⟩
    by_cases hlt : i < p.length
    · have hlt1 : (i : Int) < (p.length : Int) := by omega
      have hlt0 : (0 : Int) ≤ (i : Int) := by omega
      obtain ⟨ad, rfl, i0, i1, i2, i3, i4⟩ := at_T72 HC.out (i : Int) hlt0 hlt1
      have hblk := World.block_lt_of_cell? w _ i0
      replace i0 := pw_cell_below HB.out i0
      replace i4 := pw_cell_below HB.out i4
      have hR := HP.out.2.2 i hlt
      have hrd : rd_T72 p (i : Int) = p[i] := by unfold rd_T72; simp [hlt]
      rw [hrd] at i0 i4 hR
      rw [Int.toNat_natCast] at i0 i4 hblk
      clear i1 i2 i3 hrd
      by_cases h0 : p[i].f0 = 0
      · have t0 : (p[i].f0 == 0) = true := beq_iff_eq.2 h0
        obtain ⟨xs, g1, g2, g3, g4, g5, g6, g7⟩ := HL.out
        obtain ⟨q, hq⟩ := g6 i hlt
        have hT : IsT (bl p[i].f4) ∧ p[i].f4.size ≤ 100000000 := by
          rcases hR with hx | hx | hx | hx
          · exact ⟨hx.2.2.2.2.2, by have := hx.2.2.2.2.1; omega⟩
          all_goals omega
        have c1 : wr.cell? ⟨w1.heap.size, 1, none⟩ = some (.slice (some ⟨w.heap.size, 0, none⟩) p.length p.length) := (blk_cell g3 1).trans rfl
        have ct : wr.cell? ⟨w.heap.size, i, none⟩ = some (.pointer q) := reg_cell g4 hq
        have ft : wr.frozen? ⟨w.heap.size, i, none⟩ = false := blk_frozen g4 i
        have NE1 : Aside0 (w1.heap.size ≠ w.heap.size) := ⟨by have := HSZ.out; omega⟩
        have NE2 : Aside0 ((ad.add (i * 5)).block ≠ w.heap.size) := ⟨Nat.ne_of_lt hblk⟩
        have HT := Aside0.mk hT
        have HG := Aside0.mk g3
        have HH := Aside0.mk g4
        have HQ := Aside0.mk hq
        have H5 := Aside0.mk g5
        have H6 := Aside0.mk g6
        have H7 := Aside0.mk g7
        have H12 := Aside0.mk (And.intro g1 g2)
        have H0 := Aside0.mk h0
        clear h0 hR hT g1 g2 g3 g4 g5 g6 g7 hq HL
        go_wp2
        go_region_held3 (fun w' => w'.cell? ⟨w1.heap.size, 1, none⟩ = some (.slice (some ⟨w.heap.size, 0, none⟩) p.length p.length) ∧ w'.cell? ⟨(ad.add (i * 5)).block, (ad.add (i * 5)).off + 4, none⟩ = some (.string p[i].f4))
          (first
            | go_keep
            | exact ⟨(blk_cell ((hb2.block _ (blk_lt HG.out)).trans HG.out) 1).trans rfl, pw_cell_below hb2 i4⟩
            | exact ⟨(World.cell?_of_block (Below.heap_setCell w2 ⟨w.heap.size, i, none⟩ (.pointer pu) _ NE1.out)).trans ((blk_cell ((hb2.block _ (blk_lt HG.out)).trans HG.out) 1).trans rfl), (World.cell?_of_block (a := ⟨(ad.add (i * 5)).block, (ad.add (i * 5)).off + 4, none⟩) (Below.heap_setCell w2 ⟨w.heap.size, i, none⟩ (.pointer pu) _ NE2.out)).trans (pw_cell_below hb2 i4)⟩)
          (first
            | (go_at_call 22; refine (Read_calls p[i].f4 _ HT.out.1 HT.out.2).mono ?_; rintro e w2 ⟨u, rfl, hu, hb2⟩; obtain ⟨pu, rfl⟩ := Nd.ptr hu; have ct2 : w2.cell? ⟨w.heap.size, i, none⟩ = some (.pointer q) := reg_cell ((hb2.block _ (blk_lt HH.out)).trans HH.out) HQ.out; have ft2 : w2.frozen? ⟨w.heap.size, i, none⟩ = false := blk_frozen ((hb2.block _ (blk_lt HH.out)).trans HH.out) i))
        have HU := Aside0.mk hu
        have HB2 : Aside0 (Below wr.heap.size wr w2) := ⟨Below.trans (below_drew (Below.refl wr.heap.size wr)) hb2⟩
        clear hu hb2 ct2 ft2 c1 ct ft i0 i4
        go_wp2
        go_roundg k2
        case measure => omega
        case rel =>
          have hh2 := (HB2.out.block _ (blk_lt HH.out)).trans HH.out
          have hg2 := (HB2.out.block _ (blk_lt HG.out)).trans HG.out
          have k1 : NK w2 (w2.setCell ⟨w.heap.size, i, none⟩ (.pointer pu)) := NK.set hh2 (by decide) i _
          refine ⟨i + 1, by go_num, by omega, ⟨by have := HI.out; omega⟩, ⟨xs.set i (.pointer pu), H12.out.1, H12.out.2, blk_far hg2 (p := ⟨w.heap.size, i, none⟩) NE1.out _, (blk_set hh2 i _).trans (by simp), by rw [List.length_set]; exact H5.out, fun j hj => ?_, fun j hj hji hj0 => ?_⟩, ⟨((below_then HB.out HB.out.size HB2.out)).setCell (p := ⟨w.heap.size, i, none⟩) (Nat.le_refl _) _⟩⟩
          · by_cases h : j = i
            · subst h
              exact ⟨pu, by rw [List.getElem?_set_self (by rw [H5.out]; exact hj)]⟩
            · rw [List.getElem?_set_ne (by omega)]
              exact H6.out j hj
          · by_cases h : j = i
            · subst h
              exact ⟨.pointer pu, by rw [List.getElem?_set_self (by rw [H5.out]; exact hj)], Nd.keep k1 _ _ HU.out⟩
            · rw [List.getElem?_set_ne (by omega)]
              obtain ⟨v, hv, hn⟩ := H7.out j hj (by omega) hj0
              exact ⟨v, hv, Nd.keep (NK.trans (NK.below HB2.out) k1) _ _ hn⟩
      · have t0 : (p[i].f0 == 0) = false := beq_eq_false_iff_ne.2 h0
        have H0 := Aside0.mk h0
        clear h0 hR i4
        go_wp2
        go_roundg k2
        case measure => omega
        case rel =>
          obtain ⟨xs, g1, g2, g3, g4, g5, g6, g7⟩ := HL.out
          refine ⟨i + 1, by go_num, by omega, ⟨by have := HI.out; omega⟩, ⟨xs, g1, g2, g3, g4, g5, g6, fun j hj hji hj0 => ?_⟩, HB⟩
          rcases Nat.lt_or_ge j i with h | h
          · exact g7 j hj h hj0
          · obtain rfl : j = i := by omega
            exact absurd hj0 H0.out
    · obtain rfl : i = p.length := by omega
      go_wp2
      go_ret
      obtain ⟨xs, g1, g2, g3, g4, g5, g6, g7⟩ := HL.out
      exact ⟨_, rfl, ⟨_, _, A, c, xs, rfl, g3, Kd.C_below HC.out HB.out, g4, g5, g6, fun j hj hj0 => g7 j hj hj hj0⟩, HB.out⟩
end Go.Proofs.YtocoamgbpoommaaGreatDoor.C
end
section
namespace Go.Proofs.YtocoamgbpoommaaGreatDoor.C
open Go.RowKit Go.Proofs.YtocoamgbpoommaaGreatDoorW.PrintWords Go.Proofs.YtocoamgbpoommaaGreatDoorW.PrintLast Go.Proofs.YtocoamgbpoommaaGreatDoorW.PrintMore
set_option linter.unusedVariables false
set_option linter.unusedSimpArgs false
def ringHead : List S72 := [⟨3, 2, 0, 0, ⟨#[]⟩⟩, ⟨4, 3, 0, 0, ⟨#[]⟩⟩, ⟨0, 0, 0, 0, ⟨#[48]⟩⟩, ⟨1, 4, 2, 0, ⟨#[]⟩⟩, ⟨0, 7, 0, 0, ⟨#[49, 48, 48]⟩⟩,
  ⟨5, 7, 4, 0, ⟨#[]⟩⟩, ⟨3, 6, 4, 0, ⟨#[]⟩⟩, ⟨2, 5, 6, 5, ⟨#[]⟩⟩, ⟨4, 4, 4, 0, ⟨#[]⟩⟩, ⟨5, 4, -3, 0, ⟨#[]⟩⟩,
  ⟨2, 8, 7, 2, ⟨#[]⟩⟩, ⟨2, 8, 1, 8, ⟨#[]⟩⟩, ⟨0, 9, 0, 0, ⟨#[49, 48, 49, 49, 48, 48, 48]⟩⟩, ⟨0, 10, 0, 0, ⟨#[49, 49, 48, 49, 48, 48, 49, 48, 49, 49, 48, 48, 48]⟩⟩,
  ⟨5, 7, 7, 0, ⟨#[]⟩⟩, ⟨3, 6, 5, 0, ⟨#[]⟩⟩, ⟨2, 6, 9, 6, ⟨#[]⟩⟩, ⟨2, 6, 10, 6, ⟨#[]⟩⟩, ⟨2, 6, 8, 6, ⟨#[]⟩⟩, ⟨2, 0, 6, 0, ⟨#[]⟩⟩, ⟨4, 5, 5, 0, ⟨#[]⟩⟩, ⟨5, 5, -6, 0, ⟨#[]⟩⟩,
  ⟨2, 0, 0, 3, ⟨#[]⟩⟩, ⟨0, 2, 0, 0, ⟨#[48]⟩⟩, ⟨0, 3, 0, 0, ⟨#[48]⟩⟩, ⟨0, 6, 0, 0, ⟨#[48]⟩⟩, ⟨0, 7, 0, 0, ⟨#[48]⟩⟩, ⟨0, 8, 0, 0, ⟨#[48]⟩⟩, ⟨0, 9, 0, 0, ⟨#[48]⟩⟩, ⟨0, 10, 0, 0, ⟨#[48]⟩⟩]
end Go.Proofs.YtocoamgbpoommaaGreatDoor.C
end
section
namespace Go.Proofs.YtocoamgbpoommaaGreatDoor.C
open Go.RowKit Go.Proofs.YtocoamgbpoommaaGreatDoorW.PrintWords Go.Proofs.YtocoamgbpoommaaGreatDoorW.PrintLast Go.Proofs.YtocoamgbpoommaaGreatDoorW.PrintMore
set_option linter.unusedVariables false
set_option linter.unusedSimpArgs false
def ReadsP (w : World) (v : Value) (p : List S72) : Prop := ∃ A c, v = .slice A p.length c ∧ p.length ≤ c ∧ Kd.C k72 w A p.length p ∧ ∀ ad, A = some ad → ∃ cells, w.heap[ad.block]? = some (.cells cells 72 (0, 0))
theorem ReadsP.below {w w' : World} {v : Value} {p : List S72} (h : ReadsP w v p) (hb : Below w.heap.size w w') : ReadsP w' v p := by
  obtain ⟨A, c, e, hc, hC, hT⟩ := h
  refine ⟨A, c, e, hc, Kd.C_below hC hb, fun ad ha => ?_⟩
  obtain ⟨cells, ht⟩ := hT ad ha
  exact ⟨cells, (hb.block _ (blk_lt ht)).trans ht⟩
theorem add_block (ad : Addr) (n : Nat) : (ad.add n).block = ad.block := by unfold Addr.add; split <;> rfl
theorem ReadsP.set {w : World} {v : Value} {p : List S72} (h : ReadsP w v p) {g : Nat} {cs : Array Value} (hg : w.heap[g]? = some (.cells cs 47 (0, 0))) (j : Nat) (u : Value) : ReadsP (w.setCell ⟨g, j, none⟩ u) v p := by
  obtain ⟨A, c, e, hc, hC, hT⟩ := h
  have hne : ∀ ad, A = some ad → ad.block ≠ g := fun ad ha e => by
    obtain ⟨cells, ht⟩ := hT ad ha
    rw [e, hg] at ht
    injection ht with ht
    injection ht with _ ht
    exact absurd ht (by decide)
  refine ⟨A, c, e, hc, ⟨hC.1, hC.2.1, fun hn => ?_⟩, fun ad ha => ?_⟩
  · obtain ⟨ad, ha, hr⟩ := hC.2.2 hn
    refine ⟨ad, ha, fun j' q hq => ?_⟩
    obtain ⟨c', h1, h2, h3⟩ := hr j' q hq
    refine ⟨c', h1, ?_, fun i u' hu => ?_⟩
    · obtain rfl := k72_open h2
      exact k72_mk _ q
    · rw [World.cell?_of_block (Below.heap_setCell w ⟨g, j, none⟩ u _ (by rw [add_block]; exact hne ad ha))]
      exact h3 i u' hu
  · obtain ⟨cells, ht⟩ := hT ad ha
    exact ⟨cells, blk_far ht (p := ⟨g, j, none⟩) (hne ad ha) u⟩
theorem ReadsP.of_R {w : World} {base : Nat} {v : Value} {p : List S72} (h : Kd.R k72 72 w base (fun _ => True) v p) : ReadsP w v p := by
  obtain ⟨A, c, rfl, hc, hC⟩ := Kd.R_reads h
  obtain ⟨inner, ho⟩ := Kd.R_own h
  refine ⟨A, c, rfl, hc, hC, fun ad ha => ?_⟩
  subst ha
  rcases ho.2 with ⟨e, _⟩ | ⟨g, cap, cur, e, _, hh, _⟩
  · cases e
  · injection e with e
    injection e with e
    subst e
    exact ⟨cur, hh⟩
theorem infoI : (Tryz.prog.info? 72).map (fun i => (i.zero, i.size, i.bytes)) = some (some (.agg #[.int .i64 0, .int .i64 0, .int .i64 0, .int .i64 0, .string ⟨#[]⟩]), 5, 48) := info72
theorem reps_app {α : Type} {R : α → List Value → Prop} {n : Nat} {ps qs : List α} {cs ds : List Value} (h : Reps R n ps cs) (k : Reps R n qs ds) : Reps R n (ps ++ qs) (cs ++ ds) := by
  refine ⟨by rw [List.length_append, List.length_append, h.1, k.1, Nat.add_mul], fun j p hj => ?_⟩
  rcases Nat.lt_or_ge j ps.length with hl | hl
  · rw [List.getElem?_append_left hl] at hj
    have h1 : j * n + n ≤ cs.length := by
      rw [h.1]
      have := Nat.mul_le_mul_right n (Nat.succ_le_of_lt hl)
      rwa [Nat.succ_mul] at this
    rw [List.drop_append_of_le_length (by omega), List.take_append_of_le_length (by rw [List.length_drop]; omega)]
    exact h.2 j p hj
  · obtain ⟨i, rfl⟩ : ∃ i, j = ps.length + i := ⟨j - ps.length, by omega⟩
    rw [List.getElem?_append_right (by omega), Nat.add_sub_cancel_left] at hj
    rw [Nat.add_mul, ← h.1, List.drop_length_add_append]
    exact k.2 i p hj
theorem reps_cells {w : World} {xs : List S72} {cs : List Value} (h : Reps (Kd.K k72 w) 5 xs cs) : ∀ u ∈ cs, u.oneCell' = true := by
  intro u hu
  obtain ⟨q, hq, rfl⟩ := List.mem_iff_getElem.1 hu
  have hql : q / 5 < xs.length := by
    rw [Nat.div_lt_iff_lt_mul (by omega), ← h.1]
    exact hq
  have hc := h.2 (q / 5) _ (List.getElem?_eq_getElem hql)
  refine Kd.K_one k72 hc _ ?_
  rw [List.mem_iff_getElem?]
  refine ⟨q % 5, ?_⟩
  rw [List.getElem?_take, if_pos (Nat.mod_lt _ (by omega)), List.getElem?_drop, Nat.mul_comm, Nat.div_add_mod, List.getElem?_eq_getElem hq]
theorem step_append_clip {ops : Array Oper} {o : Oper} {a : Act} {w : World} {K : Act → World → Prop} {Q : Exit → Act → World → Prop} {E : Prop} (hgd : o.guard = none) (s x : Operand)
    (hop : o.op = Op.call { callee := Callee.builtin Builtin.append, args := #[s, x], argTypes := #[47, 47] })
    (g : Nat) (xs ys : List S72) (A : Option Addr) (c : Nat) (hs : a.eval s = .slice (some ⟨g, 0, none⟩) xs.length xs.length) (hx : a.eval x = .slice A ys.length c)
    (hX : Kd.C k72 w (some ⟨g, 0, none⟩) xs.length xs) (hT : ∃ cells, w.heap[g]? = some (.cells cells 72 (0, 0))) (hY : Kd.C k72 w A ys.length ys) (hl : xs.length + ys.length ≤ 1000000)
    (h : ∀ A' c' w', ReadsP w' (.slice A' (xs.length + ys.length) c') (xs ++ ys) → Below w.heap.size w w' → K (a.put o.dst (.slice A' (xs.length + ys.length) c')) w') :
    if Region.wanted o (yielded ops a.tmps) = true then Oper.wp Tryz.prog o a w K Q else E := by
  have hw : Region.wanted o (yielded ops a.tmps) = true := by simp [Region.wanted, hgd]
  obtain ⟨i0, hi, hz0, hz1, hz2⟩ := info_parts infoI
  obtain ⟨olds, hor, hoc⟩ := ReadsRow.inner_ hX
  cases hys : ys with
  | nil =>
    subst hys
    rw [if_pos hw]
    have hrun : (Builtin.append_ #[47, 47] o.type #[.slice (some ⟨g, 0, none⟩) xs.length xs.length, .slice A 0 c]).run Tryz.prog w = .ok (.slice (some ⟨g, 0, none⟩) xs.length xs.length) w := by
      have hl0 : ∀ ad : Addr, (loadCells ad 0).run Tryz.prog w = .ok #[] w := fun ad => by simp [loadCells, loadCellsFrom]
      cases A <;> simp [Builtin.append_, run_underlying Tryz.underlying47, sizeOf, typeInfo, hi, Builtin.lenOf, Builtin.firstCells, storeCells, hl0]
    have hk := h (some ⟨g, 0, none⟩) xs.length w ⟨some ⟨g, 0, none⟩, xs.length, by simp, by simp, by simpa using hX, fun ad ha => by cases ha; exact hT⟩ (Below.refl _ _)
    unfold Oper.wp
    simp [execOp, hop, resolve, invoke, builtin, hs, hx, hrun, Result.andThen]
    have hk2 : K (a.put o.dst (.slice (some ⟨g, 0, none⟩) xs.length xs.length)) w := by simpa using hk
    exact hk2
  | cons y ys' =>
    have hm : 0 < ys.length := by rw [hys]; simp
    obtain ⟨ad, rfl, _⟩ := hY.2.2 hm
    obtain ⟨news, hnr, hnc⟩ := ReadsRow.inner_ hY
    refine step_append_grows hgd s x _ hop 72 i0 _ 5 48 Tryz.underlying47 hi hz0 hz1 hz2 rfl (by omega) (some ⟨g, 0, none⟩) xs.length xs.length olds hs (fun e => by cases e) hor.1 (fun b e => by cases e; exact hoc) ad ys.length c news hx hnr.1 hnc (reps_cells hnr) (by omega) (by unfold maxLen; omega) (by omega) ?_
    intro v' w' hown hgr
    obtain ⟨A', c', rfl⟩ := own_slice hown
    have hb : Below w.heap.size w w' := (Below.refl _ _).grown hgr (Nat.le_refl _) (by intro k hk; cases hk)
    refine h A' c' w' ⟨A', c', by simp, by rw [List.length_append]; exact own_le hown, ?_, fun ad ha => ?_⟩ hb
    rotate_left
    · subst ha
      rcases hown.2 with ⟨e, _⟩ | ⟨g', cap, cur, e, _, hh, _⟩
      · cases e
      · injection e with e
        injection e with e
        subst e
        exact ⟨cur, hh⟩
    have hr : Reps (Kd.K k72 w') 5 (xs ++ ys) (olds ++ news) := (reps_app hor hnr).imp_ fun p c hp => Kd.K_below _ hb hp
    obtain ⟨A2, c2, e, hrow⟩ := own_reads_row hown hr (by simp)
    injection e with e1 _ e2
    subst e1
    rw [List.length_append]
    exact hrow
theorem types_ne : ∀ q, q ∈ 72 :: (k72).E → q ≠ 47 := by
  intro q hq
  simp [k72, Kd.iso, Kd.pair, Kd.int, Kd.string, Kd.scalar] at hq
  subst hq
  decide
theorem R_put {w : World} {base : Nat} {ok : Nat → Prop} {v : Value} {p : List S72} (h : Kd.R k72 72 w base ok v p) {g : Nat} {cs : Array Value} (hg : w.heap[g]? = some (.cells cs 47 (0, 0))) (j : Nat) (u : Value) : Kd.R k72 72 (w.setCell ⟨g, j, none⟩ u) base ok v p :=
  Kd.R_mono (Kd.R_step (Kd.R_types h hg types_ne) (fun k hk _ => Below.heap_setCell w ⟨g, j, none⟩ u k hk.2)) (fun _ hk => hk.1)
def PRow (w : World) (base h : Nat) (ps : List (List S72)) (i : Nat) : Prop :=
  ∃ (xs : List Value) (f : Nat → Nat), base ≤ h ∧ w.heap[h]? = some (.cells xs.toArray 47 (0, 0)) ∧ xs.length = ps.length ∧ (∀ j (hj : j < ps.length), ∃ u, xs[j]? = some u ∧ ReadsP w u ps[j]) ∧ ∀ j (hj : j < ps.length), j < i → ∃ u, xs[j]? = some u ∧ Kd.R k72 72 w base (fun k => f k = j) u ps[j]
theorem PRow.below {w w' : World} {base h i : Nat} {ps : List (List S72)} (k : PRow w base h ps i) (hb : Below w.heap.size w w') : PRow w' base h ps i := by
  obtain ⟨xs, f, h1, h2, h3, h4, h5⟩ := k
  exact ⟨xs, f, h1, (hb.block _ (blk_lt h2)).trans h2, h3, fun j hj => (h4 j hj).imp fun u hu => ⟨hu.1, hu.2.below hb⟩, fun j hj hi => (h5 j hj hi).imp fun u hu => ⟨hu.1, Kd.R_below hu.2 hb⟩⟩
theorem PRow.put {w : World} {base h i : Nat} {ps : List (List S72)} (k : PRow w base h ps i) (j : Nat) (hj : j < ps.length) {u : Value} {p : List S72} (hu : ReadsP w u p) : PRow (w.setCell ⟨h, j, none⟩ u) base h (ps.set j p) (min i j) := by
  obtain ⟨xs, f, h1, h2, h3, h4, h5⟩ := k
  refine ⟨xs.set j u, f, h1, (blk_set h2 j u).trans (by simp), by simp [h3], fun a ha => ?_, fun a ha hi => ?_⟩
  · rw [List.length_set] at ha
    by_cases e : a = j
    · subst e
      exact ⟨u, by rw [List.getElem?_set_self (by omega)], by rw [List.getElem_set_self]; exact hu.set h2 _ _⟩
    · obtain ⟨v, hv, hr⟩ := h4 a ha
      exact ⟨v, by rw [List.getElem?_set_ne (by omega)]; exact hv, by rw [List.getElem_set_ne (by omega)]; exact hr.set h2 _ _⟩
  · rw [List.length_set] at ha
    obtain ⟨v, hv, hr⟩ := h5 a ha (by omega)
    exact ⟨v, by rw [List.getElem?_set_ne (by omega)]; exact hv, by rw [List.getElem_set_ne (by omega)]; exact R_put hr h2 _ _⟩
theorem PRow.own {w0 w : World} {base h i : Nat} {ps : List (List S72)} (k0 : PRow w0 base h ps i) (hb : Below w0.heap.size w0 w) (hbase : base ≤ w0.heap.size) (hi : i < ps.length) {u : Value} {p : List S72} (hu : Kd.R k72 72 w w0.heap.size (fun _ => True) u p) : PRow (w.setCell ⟨h, i, none⟩ u) base h (ps.set i p) (i + 1) := by
  obtain ⟨xs, f, h1, h2, h3, h4, h5⟩ := k0
  have g2 := (hb.block _ (blk_lt h2)).trans h2
  refine ⟨xs.set i u, fun k => if k < w0.heap.size then f k else i, h1, (blk_set g2 i u).trans (by simp), by simp [h3], fun a ha => ?_, fun a ha hi2 => ?_⟩
  · rw [List.length_set] at ha
    by_cases e : a = i
    · subst e
      exact ⟨u, by rw [List.getElem?_set_self (by omega)], by rw [List.getElem_set_self]; exact (ReadsP.of_R hu).set g2 _ _⟩
    · obtain ⟨v, hv, hr⟩ := h4 a ha
      exact ⟨v, by rw [List.getElem?_set_ne (by omega)]; exact hv, by rw [List.getElem_set_ne (by omega)]; exact (hr.below hb).set g2 _ _⟩
  · rw [List.length_set] at ha
    by_cases e : a = i
    · subst e
      refine ⟨u, by rw [List.getElem?_set_self (by omega)], ?_⟩
      rw [List.getElem_set_self]
      exact R_put (Kd.R_mono (Kd.R_lower (Kd.R_bound hu) hbase) (fun k hk => if_neg (by have := hk.2.1; omega))) g2 _ _
    · obtain ⟨v, hv, hr⟩ := h5 a ha (by omega)
      refine ⟨v, by rw [List.getElem?_set_ne (by omega)]; exact hv, ?_⟩
      rw [List.getElem_set_ne (by omega)]
      exact R_put (Kd.R_below (Kd.R_mono (Kd.R_bound hr) (fun k hk => (if_pos hk.2.2.1).trans hk.1)) hb) g2 _ _
theorem PRow.reads {w : World} {base h i : Nat} {ps : List (List S72)} (k : PRow w base h ps i) (hl : ps.length ≤ 1000000) : Kd.C (Kd.slice 72 k72) w (some ⟨h, 0, none⟩) ps.length ps := by
  obtain ⟨xs, f, h1, h2, h3, h4, h5⟩ := k
  refine ⟨rfl, by omega, fun _ => ⟨_, rfl, fun j p hp => ?_⟩⟩
  have hj := (List.getElem?_eq_some_iff.1 hp).1
  obtain ⟨u, hu, A, c, rfl, hc, hC, _⟩ := h4 j hj
  have ep := (List.getElem?_eq_some_iff.1 hp).2
  rw [ep] at hc hC hu
  refine ⟨[.slice A p.length c], rfl, ⟨A, c, rfl, hc, hC⟩, fun i u hu2 => ?_⟩
  match i, hu2 with
  | 0, hu2 =>
    simp at hu2
    subst hu2
    rw [add_plain, blk_cell h2]
    simpa [Kd.slice] using hu
theorem PRow.owned {w : World} {base h : Nat} {ps : List (List S72)} (k : PRow w base h ps ps.length) (hl : ps.length ≤ 1000000) : Kd.S (Kd.slice 72 k72) 47 w base (fun _ => True) (.slice (some ⟨h, 0, none⟩) ps.length ps.length) ps := by
  obtain ⟨xs, f, h1, h2, h3, h4, h5⟩ := k
  refine ⟨f, fun _ _ => trivial, xs, ⟨by simp [Kd.tag, Kd.slice, h3], .inr ⟨h, ps.length, xs.toArray, by simp, h1, h2, by simp, by unfold maxLen; omega, by simp [Kd.tag, Kd.slice, h3], by simp [Kd.tag, Kd.slice, ← h3]⟩⟩, by simp [Kd.tag, Kd.slice, h3], fun j p hp => ?_⟩
  obtain ⟨hp1, hp2⟩ : ps[j]? = some p.1 ∧ j = p.2 := by
    rw [List.getElem?_zipIdx] at hp
    obtain ⟨q, hq, e⟩ := Option.map_eq_some_iff.1 hp
    subst e
    exact ⟨hq, by simp⟩
  have hj := (List.getElem?_eq_some_iff.1 hp1).1
  have ep := (List.getElem?_eq_some_iff.1 hp1).2
  obtain ⟨u, hu, hr⟩ := h5 j hj hj
  rw [ep] at hr
  have hx := (List.getElem?_eq_some_iff.1 hu)
  have hcs : (xs.drop (j * 1)).take 1 = [u] := by
    rw [Nat.mul_one, List.drop_eq_getElem_cons hx.1, hx.2]; rfl
  show Kd.M (Kd.slice 72 k72) w base _ p.1 ((xs.drop (j * 1)).take 1)
  rw [hcs]
  refine ⟨u, rfl, Kd.R_mono (Kd.R_types hr h2 types_ne) fun b hb => ⟨⟨trivial, fun e => ?_⟩, hp2 ▸ hb.1⟩⟩
  simp [Value.ownBlock] at e
  exact hb.2 e
end Go.Proofs.YtocoamgbpoommaaGreatDoor.C
end
