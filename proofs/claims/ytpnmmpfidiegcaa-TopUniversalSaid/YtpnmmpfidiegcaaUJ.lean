/- Texts of this claim, together: what the functions return, and what they say in plain words. -/
import Derived.Test.YtpnmmpfidiegcaaUI
import Derived.Deep.RegionLaw
section
namespace Go.Proofs.Ytpnmmpfidiegcaa.C
open Go.RowKit Go.Proofs.YtpnmmpfidiegcaaW.PrintWords Go.Proofs.YtpnmmpfidiegcaaW.PrintLast Go.Proofs.YtpnmmpfidiegcaaW.PrintMore
open Go.Proofs.Ytpnmmpfidiegcaa.Plain (Tr Rg upd exec after init OKP okp_iff Right Reg dec bl)
set_option linter.unusedVariables false
set_option linter.unusedSimpArgs false
theorem exec_high {x : S52} {i n : Int} (h : Right x i n) {r : Rg} (hr : ∀ j, 32 ≤ j → r j = .nil) {q : Int × Rg} (e : exec x r = some q) : ∀ j, 32 ≤ j → q.2 j = .nil := by
  have hA : x.f1.toNat < 32 := by
    have h1 : Reg x.f1 := by
      unfold Right at h
      rcases h with h | h | h | h <;> exact h.2.1
    have := h1.1
    have := h1.2
    omega
  have hu : ∀ v j, 32 ≤ j → upd r x.f1.toNat v j = .nil := fun v j hj => by
    unfold Plain.upd
    rw [if_neg (by omega)]
    exact hr j hj
  unfold exec at e
  split at e
  · cases e; exact hu _
  split at e
  · cases e; exact hu _
  split at e
  · split at e
    · cases e
    · cases e; exact hu _
  split at e
  · cases e; exact hu _
  split at e
  · cases e; exact hu _
  · cases e; exact hr
theorem after_high {p : Prg} (hp : OKP p) : ∀ (k : Nat) (a : Nat) (r : Rg), a ≤ p.length → (∀ j, 32 ≤ j → r j = .nil) → ∀ j, 32 ≤ j → (after p k (a : Int) r).2.1 j = .nil
  | 0, _, _, _, h => h
  | k + 1, a, r, ha, h => by
    rw [after]
    by_cases he : (a : Int) = (p.length : Int)
    · rw [if_pos he]; exact h
    · rw [if_neg he]
      have hap : a < p.length := by omega
      have hg : p.getD ((a : Int).toNat) ⟨0, 0, 0, 0, ⟨#[]⟩⟩ = p[a] := by simp [hap]
      have hR := (okp_iff.1 hp).2.2 a hap
      cases hx : exec (p.getD ((a : Int).toNat) ⟨0, 0, 0, 0, ⟨#[]⟩⟩) r with
      | none => exact h
      | some q =>
        rw [hg] at hx
        have hs := exec_high hR h hx
        have hi := exec_in hR hx hap
        obtain ⟨b, hb⟩ := Int.eq_ofNat_of_zero_le hi.1
        have := after_high hp k b q.2 (by omega) hs
        rw [← hb] at this
        exact this
def kSt : Kd (Int × List Value) where
  sz := 33
  E := []
  K := fun _ x cs => cs = .int .i64 x.1 :: x.2 ∧ x.2.length = 32 ∧ ∀ u ∈ x.2, u.oneCell' = true
  M := fun _ _ _ x cs => cs = .int .i64 x.1 :: x.2 ∧ x.2.length = 32 ∧ ∀ u ∈ x.2, u.oneCell' = true
  K_len := fun h => by rw [h.1, List.length_cons, h.2.1]
  K_one := fun h u hu => by
    rw [h.1] at hu
    rcases List.mem_cons.1 hu with rfl | hu
    · rfl
    · exact h.2.2 u hu
  K_below := fun _ h => h
  K_of_M := fun h => h
  M_mono := fun _ h => h
  M_bound := fun h => h
  M_move := fun _ h => h
  M_lower := fun _ h => h
def Repeats (p : Prg) (t : Tr) : Prop := ∃ i k, i < k ∧ k ≤ 60 ∧ (after p k 0 (init t)).2.2.1 = k ∧ (after p k 0 (init t)).2.2.2 = true ∧ (after p i 0 (init t)).1 = (after p k 0 (init t)).1 ∧ (after p i 0 (init t)).2.1 = (after p k 0 (init t)).2.1
def Met (p : Prg) (t : Tr) (n : Nat) (w : World) (ms : List (Int × List Value)) : Prop := ms.length = n ∧ ∀ i (h : i < ms.length), ms[i].1 = (after p i 0 (init t)).1 ∧ ∀ j, j < 32 → ∃ q, ms[i].2[j]? = some (.pointer q) ∧ Nd w ((after p i 0 (init t)).2.1 j) (.pointer q)
theorem Met.keep {p : Prg} {t : Tr} {n : Nat} {w w' : World} {ms : List (Int × List Value)} (h : Met p t n w ms) (hk : NK w w') : Met p t n w' ms := ⟨h.1, fun i hi => ⟨(h.2 i hi).1, fun j hj => by
  obtain ⟨q, e, hn⟩ := (h.2 i hi).2 j hj
  exact ⟨q, e, Nd.keep hk _ _ hn⟩⟩⟩
theorem st_cells {w : World} {A : Option Addr} {n : Nat} {ms : List (Int × List Value)} (h : Kd.C kSt w A n ms) (hn : ms.length = n) (i : Nat) (hi : i < n) :
    ∃ ad, A = some ad ∧ w.cell? (ad.add (i * 33)) = some (.int .i64 (ms[i]'(by omega)).1) ∧ (ms[i]'(by omega)).2.length = 32 ∧ ∀ j v, (ms[i]'(by omega)).2[j]? = some v → w.cell? (ad.add (i * 33 + 1 + j)) = some v := by
  obtain ⟨ad, c, e, _, hK, hc⟩ := Kd.C_get h (0, []) (i : Int) (by omega) (by omega)
  have hg : ms.getD (i : Int).toNat (0, []) = ms[i]'(by omega) := by simp [show i < ms.length by omega]
  rw [hg] at hK
  rw [Int.toNat_natCast] at hc
  obtain ⟨ec, hl, _⟩ := hK
  have h0 : c[0]? = some (.int .i64 (ms[i]'(by omega)).1) := by rw [ec]; rfl
  refine ⟨ad, e, hc 0 _ h0, hl, fun j v hv => ?_⟩
  have := hc (j + 1) v (by rw [ec, List.getElem?_cons_succ]; exact hv)
  rwa [show i * kSt.sz + (j + 1) = i * 33 + 1 + j from by show i * 33 + (j + 1) = _; omega] at this
theorem fold_get (o : Nat) : ∀ (l : List Value) (k : Nat) (cs : Array Value), o + k + l.length ≤ cs.size → ∀ j, (List.foldl (fun (cs : Array Value) (x : Value × Nat) => cs.setIfInBounds (o + x.2) x.1) cs (l.zipIdx k))[j]? = if o + k ≤ j ∧ j < o + k + l.length then l[j - (o + k)]? else cs[j]?
  | [], k, cs, _, j => by
    rw [if_neg (by simp only [List.length_nil]; omega)]
    rfl
  | x :: l, k, cs, h, j => by
    rw [List.length_cons] at h ⊢
    rw [List.zipIdx_cons, List.foldl_cons, fold_get o l (k + 1) _ (by simp only [Array.size_setIfInBounds]; omega) j]
    dsimp only
    by_cases h1 : o + (k + 1) ≤ j ∧ j < o + (k + 1) + l.length
    · rw [if_pos h1, if_pos (by omega), show j - (o + k) = j - (o + (k + 1)) + 1 by omega, List.getElem?_cons_succ]
    · rw [if_neg h1]
      by_cases h2 : j = o + k
      · subst h2
        rw [if_pos (by omega), Nat.sub_self]
        simp only [Array.getElem?_setIfInBounds, if_true]
        rw [if_pos (by omega)]
        rfl
      · rw [if_neg (by omega), Array.getElem?_setIfInBounds_ne (by omega)]
theorem st_inner (ys : List Value) (h : ys.length = 32) (v : Value) : List.foldl (fun (cs : Array Value) (x : Value × Nat) => cs.setIfInBounds (1 + x.2) x.1) #[v, .pointer none, .pointer none, .pointer none, .pointer none, .pointer none, .pointer none, .pointer none, .pointer none, .pointer none, .pointer none, .pointer none, .pointer none, .pointer none, .pointer none, .pointer none, .pointer none, .pointer none, .pointer none, .pointer none, .pointer none, .pointer none, .pointer none, .pointer none, .pointer none, .pointer none, .pointer none, .pointer none, .pointer none, .pointer none, .pointer none, .pointer none, .pointer none] ys.zipIdx = (v :: ys).toArray := by
  apply Array.ext_getElem?
  intro j
  rw [fold_get 1 ys 0 _ (by simp [h]) j]
  by_cases h1 : 1 + 0 ≤ j ∧ j < 1 + 0 + ys.length
  · obtain ⟨i, rfl⟩ : ∃ i, j = i + 1 := ⟨j - 1, by omega⟩
    rw [if_pos h1]
    simp
  · rw [if_neg h1]
    by_cases h2 : j = 0
    · subst h2; simp
    · rw [Array.getElem?_eq_none (by show 33 ≤ j; omega), Array.getElem?_eq_none (by simp; omega)]
theorem st_outer (l : List Value) (h : l.length = 33) (v : Value) (m : Nat) (hm : m = 33) : Array.foldl (fun (cs : Array Value) (x : Value × Nat) => cs.setIfInBounds x.2 x.1) #[v, .pointer none, .pointer none, .pointer none, .pointer none, .pointer none, .pointer none, .pointer none, .pointer none, .pointer none, .pointer none, .pointer none, .pointer none, .pointer none, .pointer none, .pointer none, .pointer none, .pointer none, .pointer none, .pointer none, .pointer none, .pointer none, .pointer none, .pointer none, .pointer none, .pointer none, .pointer none, .pointer none, .pointer none, .pointer none, .pointer none, .pointer none, .pointer none] l.toArray.zipIdx 0 m = l.toArray := by
  subst hm
  have e : (l.toArray.zipIdx).size = 33 := by simp [h]
  have e1 := Array.foldl_toList (f := fun (cs : Array Value) (x : Value × Nat) => cs.setIfInBounds x.2 x.1) (init := #[v, .pointer none, .pointer none, .pointer none, .pointer none, .pointer none, .pointer none, .pointer none, .pointer none, .pointer none, .pointer none, .pointer none, .pointer none, .pointer none, .pointer none, .pointer none, .pointer none, .pointer none, .pointer none, .pointer none, .pointer none, .pointer none, .pointer none, .pointer none, .pointer none, .pointer none, .pointer none, .pointer none, .pointer none, .pointer none, .pointer none, .pointer none, .pointer none]) (xs := l.toArray.zipIdx)
  rw [e] at e1
  rw [← e1, Array.toList_zipIdx]
  apply Array.ext_getElem?
  intro j
  have e2 := fold_get 0 l 0 #[v, .pointer none, .pointer none, .pointer none, .pointer none, .pointer none, .pointer none, .pointer none, .pointer none, .pointer none, .pointer none, .pointer none, .pointer none, .pointer none, .pointer none, .pointer none, .pointer none, .pointer none, .pointer none, .pointer none, .pointer none, .pointer none, .pointer none, .pointer none, .pointer none, .pointer none, .pointer none, .pointer none, .pointer none, .pointer none, .pointer none, .pointer none, .pointer none] (by simp [h]) j
  simp only [Nat.zero_add] at e2
  refine e2.trans ?_
  by_cases h1 : 0 ≤ j ∧ j < l.length
  · rw [if_pos h1]; simp
  · rw [if_neg h1, Array.getElem?_eq_none (by show 33 ≤ j; omega), Array.getElem?_eq_none (by simp; omega)]
theorem infoSt : (Try.prog.info? 65).map (fun i => (i.zero, i.size, i.bytes)) = some (some (.agg #[.int .i64 0, .pointer none, .pointer none, .pointer none, .pointer none, .pointer none, .pointer none, .pointer none, .pointer none, .pointer none, .pointer none, .pointer none, .pointer none, .pointer none, .pointer none, .pointer none, .pointer none, .pointer none, .pointer none, .pointer none, .pointer none, .pointer none, .pointer none, .pointer none, .pointer none, .pointer none, .pointer none, .pointer none, .pointer none, .pointer none, .pointer none, .pointer none, .pointer none]), 33, 264) := by kernel_rfl
theorem RegsAt.grown {w w' : World} {rb : Nat} {r : Rg} {o : Option Nat} (h : RegsAt w rb r) (hg : w.grownBy w' o) (hne : some rb ≠ o) (k : NK w w') : RegsAt w' rb r := by
  obtain ⟨ys, h1, h2, h3⟩ := h
  refine ⟨ys, (hg.block rb (blk_lt h1) hne).trans h1, h2, fun i hi => ?_⟩
  obtain ⟨q, e, hn⟩ := h3 i hi
  exact ⟨q, e, Nd.keep k _ _ hn⟩
theorem Met.more {p : Prg} {t : Tr} {n : Nat} {w : World} {ms : List (Int × List Value)} {a : Nat} {ys : List Value} {r : Rg} (h : Met p t n w ms) (ha : after p n 0 (init t) = ((a : Int), r, n, true)) (hy : ∀ j, j < 32 → ∃ q, ys[j]? = some (.pointer q) ∧ Nd w (r j) (.pointer q)) : Met p t (n + 1) w (ms ++ [((a : Int), ys)]) := by
  refine ⟨by rw [List.length_append, h.1]; rfl, fun i hi => ?_⟩
  rw [List.length_append, List.length_singleton] at hi
  by_cases e : i < ms.length
  · rw [List.getElem_append_left e]
    exact h.2 i e
  · obtain rfl : i = n := by have := h.1; omega
    rw [List.getElem_append_right (by omega)]
    simp only [List.getElem_singleton]
    rw [ha]
    exact ⟨rfl, hy⟩
theorem add_pos (x : Addr) (j : Nat) (h : 0 < j) : x.add j = ⟨x.block, x.off + j, none⟩ := by unfold Addr.add; rw [if_neg (by omega)]
theorem add_zero' (x : Addr) : x.add 0 = x := rfl
theorem again_next {w0 w6 V : World} {p : Prg} {t : Tr} {n : Nat} {r : Rg} {ia : Nat} {u : Tr} {q : Option Addr} {v : Value} {ms : List (Int × List Value)} (hr : RegsAt w6 w0.heap.size r) (hm : Kd.R kSt 65 w6 w0.heap.size (fun k => k ≠ w0.heap.size) v ms) (ht : Met p t n w6 ms) (hb : Below w0.heap.size w0 w6) (hv : Below w6.heap.size w6 V) (hia : ia < 32) (hn : Nd V u (.pointer q)) :
    RegsAt (V.setCell ⟨w0.heap.size, ia, none⟩ (.pointer q)) w0.heap.size (upd r ia u) ∧ Kd.R kSt 65 (V.setCell ⟨w0.heap.size, ia, none⟩ (.pointer q)) w0.heap.size (fun k => k ≠ w0.heap.size) v ms ∧ Met p t n (V.setCell ⟨w0.heap.size, ia, none⟩ (.pointer q)) ms ∧ Below w0.heap.size w0 (V.setCell ⟨w0.heap.size, ia, none⟩ (.pointer q)) :=
  ⟨(hr.below hv).put ia hia hn, Kd.R_far (p := ⟨w0.heap.size, ia, none⟩) (Kd.R_below hm hv) (fun _ hk => hk) _, (ht.keep (NK.below hv)).keep ((hr.below hv).nk ia _), (below_then hb hb.size hv).setCell (p := ⟨w0.heap.size, ia, none⟩) (Nat.le_refl _) _⟩
theorem again_keep {w0 w6 V : World} {p : Prg} {t : Tr} {n : Nat} {r : Rg} {v : Value} {ms : List (Int × List Value)} (hr : RegsAt w6 w0.heap.size r) (hm : Kd.R kSt 65 w6 w0.heap.size (fun k => k ≠ w0.heap.size) v ms) (ht : Met p t n w6 ms) (hb : Below w0.heap.size w0 w6) (hv : Below w6.heap.size w6 V) :
    RegsAt V w0.heap.size r ∧ Kd.R kSt 65 V w0.heap.size (fun k => k ≠ w0.heap.size) v ms ∧ Met p t n V ms ∧ Below w0.heap.size w0 V :=
  ⟨hr.below hv, Kd.R_below hm hv, ht.keep (NK.below hv), below_then hb hb.size hv⟩
theorem equal_any (x y : Tr) (va vb : Value) (w : World) (ha : Nd w x va) (hb : Nd w y vb) (hz : x.size ≤ 2000000) (hz2 : y.size ≤ 2000000) :
    Calls Try.prog 12 #[va, vb] w fun e w' => ∃ b, e = .returned (.bool b) ∧ (b = true → y = x) ∧ Below w.heap.size w w' := by
  by_cases h : x = y
  · subst h
    exact (equal_yes x va vb w ha hb (by omega)).mono fun e w' h => ⟨true, h.1, fun _ => rfl, h.2⟩
  · exact (equal_no x y va vb w ha hb h (by omega) (by omega)).mono fun e w' h => ⟨false, h.1, (fun h => by cases h), h.2⟩
theorem add_plain2 (g o j : Nat) : (⟨g, o, none⟩ : Addr).add j = ⟨g, o + j, none⟩ := by unfold Addr.add; split <;> simp_all
theorem add_field2 (ad : Addr) (a b : Nat) : ad.add (a + (1 + b)) = ⟨(ad.add a).block, (ad.add a).off + 1 + b, none⟩ := by
  rw [add_field ad a (1 + b) (by omega), Nat.add_assoc]
theorem reg_cell2 {w : World} {rb : Nat} {xs : List Value} {i : Nat} {v : Value} (h : w.heap[rb]? = some (.cells xs.toArray 62 (0, 0))) (hv : xs[i]? = some v) : w.cell? ⟨rb, i, none⟩ = some v := by
  rw [blk_cell h i]; simpa using hv
attribute [-go_sem] loadCells loadCellsFrom
set_option maxHeartbeats 8000000 in
set_option maxRecDepth 100000 in
theorem again_go (A : Option Addr) (c m : Nat) (p : Prg) (t : Tr) (x : Value) (w : World) (hm : p.length = m) (hC : Kd.C k52 w A m p) (hp : OKP p) (hx : Nd w t x) (hz : t.size ≤ 2000000) :
    Calls Try.prog 13 #[.slice A m c, x] w fun e w' => ∃ b, e = .returned (.bool b) ∧ (b = true → Repeats p t) ∧ Below w.heap.size w w' := by
  subst hm
  have h4 : p.length ≤ 4000 := hp.1
  obtain ⟨px, rfl⟩ := Nd.ptr hx
  have HC := Aside0.mk hC
  have HP := Aside0.mk hp
  have HX := Aside0.mk hx
  have HZ := Aside0.mk hz
  clear hC hp hx hz
  go_enter Try.func13, Try.ntmps13
  go_wp2
  have hrb : RegsAt (w.alloc (.cells (Value.pointer px :: nils 31).toArray 62)) w.heap.size (init t) := by
    refine ⟨Value.pointer px :: nils 31, blk_new w _, by simp [nils], fun i hi => ?_⟩
    cases i with
    | zero => exact ⟨px, rfl, Nd.keep (NK.alloc _ _) _ _ HX.out⟩
    | succ i => exact ⟨none, by rw [List.getElem?_cons_succ]; exact nils_at (by omega), by unfold Plain.init; rw [if_neg (by omega)]; rfl⟩
  have HRB := Aside0.mk hrb
  clear hrb
  go_loopg [6, 7, 8] (60 + 1) (fun kq v6 v7 v8 wq => ∃ (n a : Nat) (r : Rg) (ms : List (Int × List Value)), v6 = .int .i64 a ∧ v8 = .int .i64 n ∧ n ≤ 60 ∧ Aside0 (kq = 60 - n + 1 ∧ a ≤ p.length) ∧ Aside0 (after p n 0 (init t) = ((a : Int), r, n, true)) ∧ Aside0 (SmallR r) ∧ Aside0 (RegsAt wq w.heap.size r) ∧ Aside0 (Kd.R kSt 65 wq w.heap.size (fun k => k ≠ w.heap.size) v7 ms) ∧ Aside0 (Met p t n wq ms) ∧ Aside0 (Below w.heap.size w wq))
  case atStart =>
    refine ⟨0, 0, init t, [], rfl, rfl, Nat.zero_le _, ⟨by omega, Nat.zero_le _⟩, ⟨rfl⟩, ⟨fun i => ?_⟩, HRB, ⟨Kd.R_nil _ _ _ _ _⟩, ⟨⟨rfl, fun i h => absurd h (Nat.not_lt_zero i)⟩⟩, ⟨below_alloc (Below.refl _ _) _⟩⟩
    unfold Plain.init
    split
    · exact HZ.out
    · decide
  case round =>
    clear HRB HX
    obtain ⟨n, a, r, ms, rfl, rfl, hn, HI, HA, HS, HR, HM, HMT, HB⟩ := hrel
    obtain ⟨k2, rfl⟩ : ∃ k2, gk = k2 + 1 := ⟨gk - 1, by have := HI.out; omega⟩
    by_cases h60 : n < 60
    case neg =>
      have t1 : decide ((n : Int) < 60) = false := decide_eq_false (by omega)
      clear h60
      go_wp2
      go_ret
      exact ⟨false, rfl, (fun h => by cases h), HB.out⟩
    have t1 : decide ((n : Int) < 60) = true := decide_eq_true (by omega)
    by_cases hal : a < p.length
    case neg =>
      have t2 : decide ((a : Int) < (p.length : Int)) = false := decide_eq_false (by omega)
      clear h60
      go_wp2
      go_ret
      exact ⟨false, rfl, (fun h => by cases h), HB.out⟩
    have t2 : decide ((a : Int) < (p.length : Int)) = true := decide_eq_true (by omega)
    obtain ⟨Am, cm, em, hcm, hCm⟩ := Kd.R_reads HM.out
    subst em
    have hml := HMT.out.1
    rw [hml] at hcm hCm
    have HCM := Aside0.mk hCm
    clear hCm
    go_wp2
    rw [hml]
    go_loopg [9] (n + 1) (fun kq v9 wq => ∃ i : Nat, v9 = .int .i64 i ∧ i ≤ n ∧ Aside0 (kq = n - i + 1) ∧ Aside0 (Below wr.heap.size wr wq))
    case atStart => exact ⟨0, rfl, Nat.zero_le _, ⟨by omega⟩, ⟨Below.refl _ _⟩⟩
    case round =>
      obtain ⟨i, rfl, hi, HI2, HBI⟩ := hrel
      by_cases hlt : i < n
      · obtain ⟨ad, rfl, d0, hl2, hcs⟩ := st_cells HCM.out hml i hlt
        have b1 : (i : Int) < (n : Int) := by omega
        have b0 : (0 : Int) ≤ (i : Int) := by omega
        obtain ⟨k3, rfl⟩ : ∃ k3, gk = k3 + 1 := ⟨gk - 1, by have := HI2.out; omega⟩
        replace d0 := pw_cell_below HBI.out d0
        obtain ⟨hm1, hm2⟩ := HMT.out.2 i (by omega)
        generalize ms[i]'(by omega) = me at *
        obtain ⟨mi, zs⟩ := me
        dsimp only at d0 hl2 hcs hm1 hm2
        have HM1 := Aside0.mk hm1
        have HM2 := Aside0.mk (fun j (hj : j < 32) => by
          obtain ⟨q, e, hn⟩ := hm2 j hj
          exact (⟨q, e, Nd.keep (NK.below HBI.out) _ _ hn⟩ : ∃ q, zs[j]? = some (.pointer q) ∧ Nd wr ((after p i 0 (init t)).2.1 j) (.pointer q)))
        clear hm1 hm2
        by_cases hat : mi = (a : Int)
        · subst hat
          have t3 : ((a : Int) == (a : Int)) = true := by simp
          obtain ⟨ys, y1, y2, y3⟩ := HR.out.below HBI.out
          have L1 : ∀ m, (loadCells ⟨(ad.add (i * 33)).block, (ad.add (i * 33)).off + 1, none⟩ 32).run Try.prog (wr.drewN m) = .ok zs.toArray (wr.drewN m) := fun m => by
            have := run_loadCells_list (P := Try.prog) (wr.drewN m) ⟨(ad.add (i * 33)).block, (ad.add (i * 33)).off + 1, none⟩ zs (fun j v hv => by
              have h1 := pw_cell_below HBI.out (hcs j v hv)
              rw [add_plain2]
              rw [show i * 33 + 1 + j = i * 33 + (1 + j) by omega, add_field2] at h1
              exact h1)
            rwa [hl2] at this
          have L2 : ∀ m, (loadCells ⟨w.heap.size, 0, none⟩ 32).run Try.prog (wr.drewN m) = .ok ys.toArray (wr.drewN m) := fun m => by
            have := run_loadCells_list (P := Try.prog) (wr.drewN m) ⟨w.heap.size, 0, none⟩ ys (fun j v hv => by
              rw [add_plain]
              exact reg_cell2 y1 hv)
            rwa [y2] at this
          obtain ⟨b, L3, hbe⟩ := regs_eq 9998 (w := wr) (xs := zs) (ys := ys) (fun j hj => by
            obtain ⟨q, e, hn⟩ := HM2.out j hj
            obtain ⟨q', e', hn'⟩ := y3 j hj
            exact ⟨_, _, q, q', e, e', hn, hn'⟩)
          have HBE : Aside0 (b = true → Repeats p t) := ⟨fun hb => by
            have hh := hbe hb
            refine ⟨i, n, hlt, by omega, by rw [HA.out], by rw [HA.out], by rw [HA.out, ← HM1.out], ?_⟩
            funext j
            rcases Nat.lt_or_ge j 32 with hj | hj
            · obtain ⟨q, e, hn⟩ := HM2.out j hj
              obtain ⟨q', e', hn'⟩ := y3 j hj
              have := hh j hj
              rw [e, e'] at this
              injection this with this
              rw [this] at hn
              rw [HA.out]
              exact Nd.same hn hn'
            · have hi0 : ∀ j, 32 ≤ j → init t j = .nil := fun j hj => by
                unfold Plain.init
                rw [if_neg (by omega)]
              have a1 := after_high HP.out i 0 (init t) (Nat.zero_le _) hi0 j hj
              have a2 := after_high HP.out n 0 (init t) (Nat.zero_le _) hi0 j hj
              exact a1.trans a2.symm⟩
          clear y1 y2 y3 hl2 hcs hbe
          cases b with
          | true =>
            go_wp2
            go_quiet (fail)
            go_wp2
            go_ret
            exact ⟨true, rfl, fun _ => HBE.out (by trivial), pw_below_drewN (below_then HB.out HB.out.size HBI.out) nq⟩
          | false =>
            clear HBE
            go_wp2
            go_quiet (fail)
            go_wp2
            go_roundg k3
            case measure => omega
            case rel => exact ⟨i + 1, by go_num, by omega, ⟨by have := HI2.out; omega⟩, ⟨pw_below_drewN HBI.out nq⟩⟩
        · have t3 : (mi == (a : Int)) = false := beq_eq_false_iff_ne.2 hat
          clear hl2 hcs
          go_wp2
          go_quiet (fail)
          go_wp2
          go_roundg k3
          case measure => omega
          case rel => exact ⟨i + 1, by go_num, by omega, ⟨by have := HI2.out; omega⟩, ⟨pw_below_drewN HBI.out nq⟩⟩
      · obtain rfl : n = i := by omega
        have HR' := Aside0.mk (HR.out.below HBI.out)
        have hm' := Kd.R_below HM.out HBI.out
        rw [hml] at hm'
        have HM' := Aside0.mk hm'
        clear hm'
        have HMT' := Aside0.mk (HMT.out.keep (NK.below HBI.out))
        have HB' := Aside0.mk (below_then HB.out HB.out.size HBI.out)
        clear HR HM HMT HB HBI HI2 HCM hcm hlt hi
        obtain ⟨ys, y1, y2, y3⟩ := HR'.out
        have L1 : ∀ m, (loadCells ⟨w.heap.size, 0, none⟩ 32).run Try.prog (wr.drewN m) = .ok ys.toArray (wr.drewN m) := fun m => by
          have := run_loadCells_list (P := Try.prog) (wr.drewN m) ⟨w.heap.size, 0, none⟩ ys (fun j v hv => by
            rw [add_plain]
            exact reg_cell2 y1 hv)
          rwa [y2] at this
        have L2 : (loadCells ⟨w.heap.size, 0, none⟩ 32).run Try.prog wr = .ok ys.toArray wr := L1 0
        have HYS := Aside0.mk (show ys.length = 32 ∧ ∀ u ∈ ys, u.oneCell' = true from ⟨y2, fun u hu => by
          obtain ⟨j, hj, rfl⟩ := List.mem_iff_getElem.1 hu
          obtain ⟨q, e, _⟩ := y3 j (by omega)
          rw [List.getElem?_eq_getElem hj] at e
          rw [Option.some.inj e]
          rfl⟩)
        have HY3 := Aside0.mk y3
        have HML := Aside0.mk hml
        have HRB := Aside0.mk (blk_lt y1)
        have HN := Aside0.mk hn
        have SI : (List.foldl (fun (cs : Array Value) (x : Value × Nat) => cs.setIfInBounds (1 + x.2) x.1) #[.int .i64 (a : Int), .pointer none, .pointer none, .pointer none, .pointer none, .pointer none, .pointer none, .pointer none, .pointer none, .pointer none, .pointer none, .pointer none, .pointer none, .pointer none, .pointer none, .pointer none, .pointer none, .pointer none, .pointer none, .pointer none, .pointer none, .pointer none, .pointer none, .pointer none, .pointer none, .pointer none, .pointer none, .pointer none, .pointer none, .pointer none, .pointer none, .pointer none, .pointer none] ys.zipIdx).size = 33 := by rw [st_inner ys y2 (.int .i64 (a : Int))]; simp [y2]
        have SO := fun m hm => st_outer (.int .i64 (a : Int) :: ys) (by rw [List.length_cons, y2]) (.int .i64 0) m hm
        have HSO := Aside0.mk SO
        clear y1 y3 hml SO
        go_wp2_with (at_builtin; rw [st_inner _ HYS.out.1, HSO.out _ (by first | rfl | simp [HYS.out.1])]; refine Kd.R_append kSt (w0 := w) w.heap.size rfl (.tmp 48) (.tmp 52) 63 65 _ 264 rfl Try.underlying63 infoSt rfl (by decide) (by omega) _ ms ((a : Int), ys) (.int .i64 (a : Int) :: ys) (fun k => k ≠ w.heap.size) (fun _ => False) rfl rfl ⟨rfl, HYS.out.1, HYS.out.2⟩ (fun _ hk => hk.elim) ?aF ?aO ?aB ?aS ?aL ?_)
        case aF => exact fun k hk => by have := HRB.out; omega
        case aO => exact HM'.out
        case aB => exact HB'.out
        case aS => exact HB'.out.size
        case aL => have := HN.out; have := HML.out; omega
        intro v6 w6 ho6 hb6 hg6 hat6
        obtain ⟨h0, inner, hown, hr⟩ := HM'.out
        have k6 : NK wr w6 := NK.grown hg6 hown (by decide)
        have HR6 := Aside0.mk (HR'.out.grown hg6 (fun e => h0 _ e.symm rfl) k6)
        have HM6 := Aside0.mk ho6
        have HB6 := Aside0.mk hb6
        have HT6 := Aside0.mk (HMT'.out.keep k6 |>.more HA.out (fun j hj => by
          obtain ⟨q, e, hn⟩ := HY3.out j hj
          exact ⟨q, e, Nd.keep k6 _ _ hn⟩))
        clear ho6 hb6 hg6 hat6 h0 inner hown hr k6 HR' HM' HB' HMT' SI HSO y2 HYS HY3 L1 L2 HRB
        have hg : p.getD ((a : Int).toNat) ⟨0, 0, 0, 0, ⟨#[]⟩⟩ = p[a] := by simp [hal]
        have hR := HP.out.2.2 a hal
        have hrd : rd_T52 p (a : Int) = p[a] := by unfold rd_T52; simp [hal]
        have a1 : (a : Int) < (p.length : Int) := by omega
        have a0 : (0 : Int) ≤ (a : Int) := by omega
        obtain ⟨ad, rfl, i0, i1, i2, i3, i4⟩ := at_T52 HC.out (a : Int) a0 a1
        rw [hrd] at hR
        rw [hrd, Int.toNat_natCast] at i0 i1 i2 i3 i4
        replace i0 := pw_cell_below HB6.out i0
        replace i1 := pw_cell_below HB6.out i1
        replace i2 := pw_cell_below HB6.out i2
        replace i3 := pw_cell_below HB6.out i3
        replace i4 := pw_cell_below HB6.out i4
        have hsmall := fun q (e : exec p[a] r = some q) => exec_small hR HS.out e
        clear hrd
        generalize p[a] = xi at *
        obtain ⟨f0, f1, f2, f3, f4⟩ := xi
        dsimp only at i0 i1 i2 i3 i4
        have L5 : (loadCells (ad.add (a * 5)) 5).run Try.prog w6 = .ok #[.int .i64 f0, .int .i64 f1, .int .i64 f2, .int .i64 f3, .string f4] w6 := by
          have := run_loadCells_list (P := Try.prog) w6 (ad.add (a * 5)) [.int .i64 f0, .int .i64 f1, .int .i64 f2, .int .i64 f3, .string f4] (fun j v hv => by
            match j, hv with
            | 0, hv => cases hv; rw [add_zero']; exact i0
            | 1, hv => cases hv; rw [add_pos _ _ (by omega)]; exact i1
            | 2, hv => cases hv; rw [add_pos _ _ (by omega)]; exact i2
            | 3, hv => cases hv; rw [add_pos _ _ (by omega)]; exact i3
            | 4, hv => cases hv; rw [add_pos _ _ (by omega)]; exact i4)
          exact this
        have HXB := Aside0.mk (below_alloc (Below.refl w6.heap.size w6) (.cells #[.int .i64 f0, .int .i64 f1, .int .i64 f2, .int .i64 f3, .string f4] 52 (0, 0)))
        have HXX := Aside0.mk (blk_new w6 (.cells #[.int .i64 f0, .int .i64 f1, .int .i64 f2, .int .i64 f3, .string f4] 52 (0, 0)))
        clear i0 i1 i2 i3 i4
        rcases hR with ⟨h0, hA, h2, h3, hT⟩ | ⟨h0, hA, h2, h3, hT⟩ | ⟨h0, hA, h2, h3, hT⟩ | ⟨h0, hA, h2a, h2b, h3, hT⟩
        case inl =>
          dsimp only at h0 hA h2 h3 hT
          obtain ⟨ia, ha, ha2⟩ := reg_int hA
          subst h0 ha
          have ia1 : (ia : Int) < 32 := by omega
          have hx : exec ⟨0, (ia : Int), f2, f3, f4⟩ r = some (1, upd r ia (dec (bl f4))) := by unfold exec; rw [if_pos rfl]; rfl
          have HSM := Aside0.mk (hsmall _ hx)
          have HSZ : Aside0 ((r ia).size ≤ 2000000) := ⟨HS.out ia⟩
          have HDZ : Aside0 ((dec (bl f4)).size ≤ 2000000) := ⟨by rw [dec_size hT.2, Plain.bl_len]; exact hT.1⟩
          obtain ⟨a', ha'⟩ : ∃ a' : Nat, (a' : Int) = (a : Int) + 1 := ⟨a + 1, by omega⟩
          have HT2 := Aside0.mk (trk_step hal hg hx HA.out ha')
          have HA' : Aside0 ((a' : Int) = (a : Int) + 1 ∧ a' ≤ p.length) := ⟨ha', by omega⟩
          have HT : Aside0 (GrowOk f4 2000000 ∧ f4.size ≤ 100000000) := ⟨⟨⟨by have := hT.1; omega, hT.2⟩, by have := hT.1; omega⟩⟩
          clear h2 h3 hT hsmall hx ha' hA hg
          go_wp2_with (first
            | (go_at_call 5; (with_reducible refine (grow_yes f4 2000000 _ HT.out.1 HT.out.2).mono ?_); rintro e w7 ⟨u, rfl, hu, hb2⟩; obtain ⟨pu, rfl⟩ := Nd.ptr hu; have HU : Aside0 (Nd w7 (dec (bl f4)) (.pointer pu)) := ⟨hu⟩; have HB7 := Aside0.mk (below_then HXB.out HXB.out.size hb2); obtain ⟨qa, ca, hna, fa⟩ := (HR6.out.below HB7.out).cell ia (by omega); have HNA := Aside0.mk hna; have x1 := pw_cell_below hb2 ((blk_cell HXX.out 1).trans rfl); clear hu hb2 hna)
            | (go_at_call 12; (with_reducible refine (equal_any _ _ _ _ _ HU.out HNA.out HDZ.out HSZ.out).mono ?_); rintro e w8 ⟨b, rfl, hbe, hb3⟩; have HBE := Aside0.mk hbe; replace x1 := pw_cell_below hb3 x1; obtain ⟨qa2, ca2, hna2, fa2⟩ := (HR6.out.below (below_then HB7.out HB7.out.size hb3)).cell ia (by omega); have HNA2 := Aside0.mk hna2; have HU2 := Aside0.mk (Nd.keep (NK.below hb3) _ _ HU.out); have HB8 := Aside0.mk (below_then HB7.out HB7.out.size hb3); clear hbe hb3 hna2))
          all_goals (
            go_roundg k2
            case measure => omega
            case rel =>
              first
                | (obtain ⟨d1, d2, d3, d4⟩ := again_next HR6.out HM6.out HT6.out HB6.out HB7.out ha2 HU.out
                   exact ⟨n + 1, a', _, _, by rw [HA'.out.1], by go_num, by omega, ⟨by have := HI.out; omega, HA'.out.2⟩, HT2, HSM, ⟨d1⟩, ⟨d2⟩, ⟨d3⟩, ⟨d4⟩⟩)
                | (obtain ⟨d1, d2, d3, d4⟩ := again_next HR6.out HM6.out HT6.out HB6.out HB8.out ha2 HU2.out
                   exact ⟨n + 1, a', _, _, by rw [HA'.out.1], by go_num, by omega, ⟨by have := HI.out; omega, HA'.out.2⟩, HT2, HSM, ⟨d1⟩, ⟨d2⟩, ⟨d3⟩, ⟨d4⟩⟩)
                | (have e := HBE.out (by trivial)
                   obtain ⟨d1, d2, d3, d4⟩ := again_next HR6.out HM6.out HT6.out HB6.out HB8.out ha2 (show Nd _ (dec (bl f4)) _ by rw [← e]; exact HNA2.out)
                   exact ⟨n + 1, a', _, _, by rw [HA'.out.1], by go_num, by omega, ⟨by have := HI.out; omega, HA'.out.2⟩, HT2, HSM, ⟨d1⟩, ⟨d2⟩, ⟨d3⟩, ⟨d4⟩⟩))
        case inr.inl =>
          dsimp only at h0 hA h2 h3 hT
          obtain ⟨ia, ha, ha2⟩ := reg_int hA
          obtain ⟨ib, hb, hb2⟩ := reg_int h2
          subst ha hb
          clear h2
          have ia1 : (ia : Int) < 32 := by omega
          have ib1 : (ib : Int) < 32 := by omega
          rcases h0 with h0 | h0 | h0
          · subst h0
            have hx : exec ⟨1, (ia : Int), (ib : Int), f3, f4⟩ r = some (1, upd r ia (r ib)) := by simp [exec]
            have HSM := Aside0.mk (hsmall _ hx)
            obtain ⟨a', ha'⟩ : ∃ a' : Nat, (a' : Int) = (a : Int) + 1 := ⟨a + 1, by omega⟩
            have HT2 := Aside0.mk (trk_step hal hg hx HA.out ha')
            have HA' : Aside0 ((a' : Int) = (a : Int) + 1 ∧ a' ≤ p.length) := ⟨ha', by omega⟩
            obtain ⟨qb, cb, hnb, _⟩ := HR6.out.cell ib (by omega)
            replace cb := pw_cell_below HXB.out cb
            have HY := Aside0.mk (Nd.keep (NK.below HXB.out) _ _ hnb)
            obtain ⟨qa, ca, hna, fa⟩ := (HR6.out.below HXB.out).cell ia (by omega)
            clear h3 hT hsmall hx ha' hA hg hnb hna
            go_wp2
            clear cb
            have x1 := (blk_cell HXX.out 1).trans rfl
            have x2 := (blk_cell HXX.out 2).trans rfl
            obtain ⟨qb, cb, hnb, _⟩ := (HR6.out.below HXB.out).cell ib (by omega)
            have HY := Aside0.mk hnb
            clear hnb
            generalize World.alloc _ _ = V at *
            go_region_law (fail)
            all_goals (
              go_wp2
              go_roundg k2
              case measure => omega
              case rel =>
                obtain ⟨d1, d2, d3, d4⟩ := again_next HR6.out HM6.out HT6.out HB6.out HXB.out ha2 HY.out
                exact ⟨n + 1, a', _, _, by rw [HA'.out.1], by go_num, by omega, ⟨by have := HI.out; omega, HA'.out.2⟩, HT2, HSM, ⟨d1.below (Below.refl _ _).drew⟩, ⟨Kd.R_below d2 (Below.refl _ _).drew⟩, ⟨d3.keep (NK.drew _)⟩, ⟨d4.drew⟩⟩)
          · subst h0
            cases hr : r ib with
            | nil =>
              have hx : exec ⟨3, (ia : Int), (ib : Int), f3, f4⟩ r = some (1, upd r ia .nil) := by simp [exec, hr, Tr.hd]
              have HSM := Aside0.mk (hsmall _ hx)
              obtain ⟨a', ha'⟩ : ∃ a' : Nat, (a' : Int) = (a : Int) + 1 := ⟨a + 1, by omega⟩
              have HT2 := Aside0.mk (trk_step hal hg hx HA.out ha')
              have HA' : Aside0 ((a' : Int) = (a : Int) + 1 ∧ a' ≤ p.length) := ⟨ha', by omega⟩
              obtain ⟨qb, cb, hnb, _⟩ := (HR6.out.below HXB.out).cell ib (by omega)
              obtain ⟨qa, ca, hna, fa⟩ := (HR6.out.below HXB.out).cell ia (by omega)
              rw [hr] at hnb
              obtain rfl : qb = none := Value.pointer.inj hnb
              have HY := Aside0.mk hnb
              clear h3 hT hsmall hx ha' hA hg hnb hna hr
              go_wp2
              go_roundg k2
              case measure => omega
              case rel =>
                obtain ⟨d1, d2, d3, d4⟩ := again_next HR6.out HM6.out HT6.out HB6.out HXB.out ha2 HY.out
                exact ⟨n + 1, a', _, _, by rw [HA'.out.1], by go_num, by omega, ⟨by have := HI.out; omega, HA'.out.2⟩, HT2, HSM, ⟨d1⟩, ⟨d2⟩, ⟨d3⟩, ⟨d4⟩⟩
            | cons ta tb =>
              have hx : exec ⟨3, (ia : Int), (ib : Int), f3, f4⟩ r = some (1, upd r ia ta) := by simp [exec, hr, Tr.hd]
              have HSM := Aside0.mk (hsmall _ hx)
              obtain ⟨a', ha'⟩ : ∃ a' : Nat, (a' : Int) = (a : Int) + 1 := ⟨a + 1, by omega⟩
              have HT2 := Aside0.mk (trk_step hal hg hx HA.out ha')
              have HA' : Aside0 ((a' : Int) = (a : Int) + 1 ∧ a' ≤ p.length) := ⟨ha', by omega⟩
              obtain ⟨qb, cb, hnb, _⟩ := (HR6.out.below HXB.out).cell ib (by omega)
              obtain ⟨qa, ca, hna, fa⟩ := (HR6.out.below HXB.out).cell ia (by omega)
              rw [hr] at hnb
              obtain ⟨g, va, vb, eq, hgc, hva, hvb⟩ := hnb
              obtain rfl := Value.pointer.inj eq
              obtain ⟨pa, rfl⟩ := Nd.ptr hva
              obtain ⟨pb, rfl⟩ := Nd.ptr hvb
              have HY := Aside0.mk hva
              have cg := (blk_cell hgc 0).trans rfl
              clear h3 hT hsmall hx ha' hA hg hna hr hva hvb hgc eq
              go_wp2
              go_roundg k2
              case measure => omega
              case rel =>
                obtain ⟨d1, d2, d3, d4⟩ := again_next HR6.out HM6.out HT6.out HB6.out HXB.out ha2 HY.out
                exact ⟨n + 1, a', _, _, by rw [HA'.out.1], by go_num, by omega, ⟨by have := HI.out; omega, HA'.out.2⟩, HT2, HSM, ⟨d1⟩, ⟨d2⟩, ⟨d3⟩, ⟨d4⟩⟩
          · subst h0
            cases hr : r ib with
            | nil =>
              have hx : exec ⟨4, (ia : Int), (ib : Int), f3, f4⟩ r = some (1, upd r ia .nil) := by simp [exec, hr, Tr.tl]
              have HSM := Aside0.mk (hsmall _ hx)
              obtain ⟨a', ha'⟩ : ∃ a' : Nat, (a' : Int) = (a : Int) + 1 := ⟨a + 1, by omega⟩
              have HT2 := Aside0.mk (trk_step hal hg hx HA.out ha')
              have HA' : Aside0 ((a' : Int) = (a : Int) + 1 ∧ a' ≤ p.length) := ⟨ha', by omega⟩
              obtain ⟨qb, cb, hnb, _⟩ := (HR6.out.below HXB.out).cell ib (by omega)
              obtain ⟨qa, ca, hna, fa⟩ := (HR6.out.below HXB.out).cell ia (by omega)
              rw [hr] at hnb
              obtain rfl : qb = none := Value.pointer.inj hnb
              have HY := Aside0.mk hnb
              clear h3 hT hsmall hx ha' hA hg hnb hna hr
              go_wp2
              go_roundg k2
              case measure => omega
              case rel =>
                obtain ⟨d1, d2, d3, d4⟩ := again_next HR6.out HM6.out HT6.out HB6.out HXB.out ha2 HY.out
                exact ⟨n + 1, a', _, _, by rw [HA'.out.1], by go_num, by omega, ⟨by have := HI.out; omega, HA'.out.2⟩, HT2, HSM, ⟨d1⟩, ⟨d2⟩, ⟨d3⟩, ⟨d4⟩⟩
            | cons ta tb =>
              have hx : exec ⟨4, (ia : Int), (ib : Int), f3, f4⟩ r = some (1, upd r ia tb) := by simp [exec, hr, Tr.tl]
              have HSM := Aside0.mk (hsmall _ hx)
              obtain ⟨a', ha'⟩ : ∃ a' : Nat, (a' : Int) = (a : Int) + 1 := ⟨a + 1, by omega⟩
              have HT2 := Aside0.mk (trk_step hal hg hx HA.out ha')
              have HA' : Aside0 ((a' : Int) = (a : Int) + 1 ∧ a' ≤ p.length) := ⟨ha', by omega⟩
              obtain ⟨qb, cb, hnb, _⟩ := (HR6.out.below HXB.out).cell ib (by omega)
              obtain ⟨qa, ca, hna, fa⟩ := (HR6.out.below HXB.out).cell ia (by omega)
              rw [hr] at hnb
              obtain ⟨g, va, vb, eq, hgc, hva, hvb⟩ := hnb
              obtain rfl := Value.pointer.inj eq
              obtain ⟨pa, rfl⟩ := Nd.ptr hva
              obtain ⟨pb, rfl⟩ := Nd.ptr hvb
              have HY := Aside0.mk hvb
              have cg := (blk_cell hgc 1).trans rfl
              clear h3 hT hsmall hx ha' hA hg hna hr hva hvb hgc eq
              go_wp2
              go_roundg k2
              case measure => omega
              case rel =>
                obtain ⟨d1, d2, d3, d4⟩ := again_next HR6.out HM6.out HT6.out HB6.out HXB.out ha2 HY.out
                exact ⟨n + 1, a', _, _, by rw [HA'.out.1], by go_num, by omega, ⟨by have := HI.out; omega, HA'.out.2⟩, HT2, HSM, ⟨d1⟩, ⟨d2⟩, ⟨d3⟩, ⟨d4⟩⟩
        case inr.inr.inr =>
          dsimp only at h0 hA h2a h2b h3 hT
          obtain ⟨ia, ha, ha2⟩ := reg_int hA
          subst h0 ha
          have ia1 : (ia : Int) < 32 := by omega
          cases hr : r ia with
          | nil =>
            have hx : exec ⟨5, (ia : Int), f2, f3, f4⟩ r = some (1, r) := by simp [exec, hr, Tr.isNil]
            have HSM := Aside0.mk (hsmall _ hx)
            obtain ⟨a', ha'⟩ : ∃ a' : Nat, (a' : Int) = (a : Int) + 1 := ⟨a + 1, by omega⟩
            have HT2 := Aside0.mk (trk_step hal hg hx HA.out ha')
            have HA' : Aside0 ((a' : Int) = (a : Int) + 1 ∧ a' ≤ p.length) := ⟨ha', by omega⟩
            obtain ⟨qj, cj, hnj, _⟩ := (HR6.out.below HXB.out).cell ia (by omega)
            rw [hr] at hnj
            obtain rfl : qj = none := Value.pointer.inj hnj
            clear h2a h2b h3 hT hsmall hx ha' hA hg hnj hr
            go_wp2
            go_roundg k2
            case measure => omega
            case rel =>
              obtain ⟨d1, d2, d3, d4⟩ := again_keep HR6.out HM6.out HT6.out HB6.out HXB.out
              exact ⟨n + 1, a', _, _, by rw [HA'.out.1], by go_num, by omega, ⟨by have := HI.out; omega, HA'.out.2⟩, HT2, HSM, ⟨d1⟩, ⟨d2⟩, ⟨d3⟩, ⟨d4⟩⟩
          | cons ta tb =>
            have hx : exec ⟨5, (ia : Int), f2, f3, f4⟩ r = some (f2, r) := by simp [exec, hr, Tr.isNil]
            have HSM := Aside0.mk (hsmall _ hx)
            obtain ⟨a', ha'⟩ : ∃ a' : Nat, (a' : Int) = (a : Int) + f2 := ⟨((a : Int) + f2).toNat, by omega⟩
            have HT2 := Aside0.mk (trk_step hal hg hx HA.out ha')
            have HA' : Aside0 ((a' : Int) = (a : Int) + f2 ∧ a' ≤ p.length) := ⟨ha', by omega⟩
            obtain ⟨qj, cj, hnj, _⟩ := (HR6.out.below HXB.out).cell ia (by omega)
            rw [hr] at hnj
            obtain ⟨g, va, vb, eq, hgc, hva, hvb⟩ := id hnj
            obtain rfl := Value.pointer.inj eq
            clear h3 hT hsmall hx ha' hA hg hnj hr hva hvb hgc eq
            go_wp2
            go_roundg k2
            case measure => omega
            case rel =>
              obtain ⟨d1, d2, d3, d4⟩ := again_keep HR6.out HM6.out HT6.out HB6.out HXB.out
              exact ⟨n + 1, a', _, _, by have := HA'.out.1; first | rw [this]; go_num | (go_num; omega), by go_num, by omega, ⟨by have := HI.out; omega, HA'.out.2⟩, HT2, HSM, ⟨d1⟩, ⟨d2⟩, ⟨d3⟩, ⟨d4⟩⟩
        case inr.inr.inl =>
          dsimp only at h0
          subst h0
          clear hA h2 h3 hT hsmall hg
          go_wp2
          go_ret
          exact ⟨false, rfl, (fun h => by cases h), below_then HB6.out HB6.out.size HXB.out⟩
end Go.Proofs.Ytpnmmpfidiegcaa.C
end
