/- Texts of this claim, together: what the functions return, and what they say in plain words. -/
import Derived.Test.YtocoamgbpoommaaGreatDoorUAF
import Derived.Test.YtocoamgbpoommaaGreatDoorUAG
import Derived.Deep.Slices
section
/- Different lists of programs, in plain words. -/
namespace Go.Proofs.YtocoamgbpoommaaGreatDoor.Plain
open Go.Proofs.YtocoamgbpoommaaGreatDoor.C
open Go.RowKit Go.Proofs.YtocoamgbpoommaaGreatDoorW.PrintWords Go.Proofs.YtocoamgbpoommaaGreatDoorW.PrintLast Go.Proofs.YtocoamgbpoommaaGreatDoorW.PrintMore
set_option linter.unusedVariables false
set_option linter.unusedSimpArgs false

/-- A list of programs that memory may hold. -/
def FitsL (l : List (List Ins)) : Prop := ∀ x ∈ l, x.length * 48 ≤ 140737488351232 ∧ ∀ i ∈ x, i.f4.size ≤ 140737488351232
theorem sizes_fits {b : Nat} : ∀ p : List Ins, (∀ x ∈ p, x.f4.size ≤ b) → sizes p ≤ p.length * b
  | [], _ => by simp [sizes]
  | x :: p, h => by
    have ih := sizes_fits p fun y hy => h y (List.mem_cons_of_mem _ hy)
    have h1 := h x List.mem_cons_self
    have e : sizes (x :: p) = x.f4.size + sizes p := by unfold sizes; rw [List.map_cons, List.sum_cons]
    rw [e, List.length_cons, Nat.succ_mul]
    omega
theorem trees_g (p : List Ins) (hp : p.length ≤ 20000) (hf : ∀ x ∈ p, x.f4.size ≤ 140737488351232) : ∀ (d k i s : Nat), p.length - i = d → i ≤ p.length → s ≤ i * 140737488351232 → d < k →
    narcissusref02_Trees.l0 k p (s : Int) (i : Int) = some ((s + sizes (p.drop i) : Nat) : Int)
  | d, k, i, s, hd, hi, hs, hk => by
    obtain ⟨k, rfl⟩ : ∃ m, k = m + 1 := ⟨k - 1, by omega⟩
    by_cases hlt : i < p.length
    · have hdrop : p.drop i = p[i] :: p.drop (i + 1) := List.drop_eq_getElem_cons hlt
      have hx := hf p[i] (List.getElem_mem hlt)
      have hb : i * 140737488351232 ≤ 20000 * 140737488351232 := Nat.mul_le_mul_right _ (by omega)
      have hsum : sizes (p.drop i) = p[i].f4.size + sizes (p.drop (i + 1)) := by unfold sizes; rw [hdrop, List.map_cons, List.sum_cons]
      rw [narcissusref02_Trees.l0, if_pos (by omega), if_pos (by omega), rd_at p i hlt, hsum, wrap_small (by omega) (by omega), wrap_small (by omega) (by omega), show (i : Int) + 1 = ((i + 1 : Nat) : Int) from rfl, show (s : Int) + (p[i].f4.size : Int) = ((s + p[i].f4.size : Nat) : Int) from rfl]
      rw [trees_g p hp hf (p.length - (i + 1)) k (i + 1) _ rfl (by omega) (by omega) (by omega)]
      congr 2
      omega
    · rw [narcissusref02_Trees.l0, if_neg (by omega), List.drop_eq_nil_of_le (by omega)]
      simp [sizes]
  termination_by d => d
theorem trees_tells (p : List Ins) (hp : p.length ≤ 20000) (hf : ∀ x ∈ p, x.f4.size ≤ 140737488351232) (k : Nat) (hk : 20000 < k) : narcissusref02_Trees.f k p = some ((sizes p : Nat) : Int) := by
  unfold narcissusref02_Trees.f
  have ht := trees_g p hp hf p.length k 0 0 rfl (by omega) (by omega) (by omega)
  rw [show ((0 : Nat) : Int) = 0 from rfl, List.drop_zero, Nat.zero_add] at ht
  exact ht
theorem small_l (l : List (List Ins)) (hl : l.length ≤ 40) (hf : FitsL l) : ∀ (d k i s : Nat), l.length - i = d → i ≤ l.length → s ≤ 20000 + 20000 * 140737488351232 → d + 20001 < k →
    ∃ v, narcissusref07_Small.l0 k 20000 l (s : Int) (i : Int) = some v ∧ (v = true → ∀ p ∈ l.drop i, p.length ≤ 20000)
  | d, k, i, s, hd, hi, hs, hk => by
    obtain ⟨k, rfl⟩ : ∃ m, k = m + 1 := ⟨k - 1, by omega⟩
    by_cases hlt : i < l.length
    · have hdrop : l.drop i = l[i] :: l.drop (i + 1) := List.drop_eq_getElem_cons hlt
      obtain ⟨hx, hy⟩ := hf l[i] (List.getElem_mem hlt)
      rw [narcissusref07_Small.l0, if_pos (by omega), if_pos (by omega), rd_prg l i hlt, wrap_small (x := (s : Int) + 1) (by omega) (by omega), wrap_small (x := (s : Int) + 1 + (l[i].length : Int)) (by omega) (by omega)]
      by_cases hb : (s : Int) + 1 + (l[i].length : Int) > 20000
      · rw [if_pos hb]
        exact ⟨false, rfl, fun h => by cases h⟩
      · have hz := sizes_fits l[i] hy
        have hm : l[i].length * 140737488351232 ≤ 20000 * 140737488351232 := Nat.mul_le_mul_right _ (by omega)
        rw [if_neg hb, trees_tells l[i] (by omega) hy k (by omega), Option.bind_some, wrap_small (by omega) (by omega), wrap_small (by omega) (by omega), show (i : Int) + 1 = ((i + 1 : Nat) : Int) from rfl, show (s : Int) + 1 + (l[i].length : Int) + ((sizes l[i] : Nat) : Int) = ((s + 1 + l[i].length + sizes l[i] : Nat) : Int) from rfl]
        obtain ⟨v, e, hv⟩ := small_l l hl hf (l.length - (i + 1)) k (i + 1) (s + 1 + l[i].length + sizes l[i]) rfl (by omega) (by omega) (by omega)
        refine ⟨v, e, fun h p hp => ?_⟩
        rw [hdrop] at hp
        rcases List.mem_cons.1 hp with rfl | hp
        · omega
        · exact hv h p hp
    · rw [narcissusref07_Small.l0, if_neg (by omega), List.drop_eq_nil_of_le (by omega)]
      exact ⟨_, rfl, fun _ p hp => by cases hp⟩
  termination_by d => d
theorem small_tells (l : List (List Ins)) (hl : l.length ≤ 40) (hf : FitsL l) (k : Nat) (hk : 20100 ≤ k) : ∃ v, narcissusref07_Small.f k 20000 l = some v ∧ (v = true → ∀ p ∈ l, p.length ≤ 20000) := by
  unfold narcissusref07_Small.f
  have := small_l l hl hf l.length k 0 0 rfl (by omega) (by omega) (by omega)
  simpa using this
/-- What Together tells of a list that is not too long. -/
theorem together_cases (l : List (List Ins)) (hl : l.length ≤ 40) (k : Nat) (hk : 6000 ≤ k) : ∃ r e, ring_Together.f k l = some (r, e) ∧ (e = 0 → Fine l ∧ r = madeL (behind l)) := by
  by_cases h : ∀ p ∈ l, OKP p
  · by_cases h1 : 1 ≤ l.length
    · by_cases hf : Fine l
      · exact ⟨_, _, together_yes h h1 hl hf k hk, fun _ => ⟨hf, rfl⟩⟩
      · exact ⟨_, _, together_large h h1 hl hf k hk, fun h => by cases h⟩
    · exact ⟨_, _, together_arg h (.inl (by omega)) k hk, fun h => by cases h⟩
  · exact ⟨_, _, together_form h k hk, fun h => by cases h⟩
theorem made_drop (l : List (List Ins)) : (madeL (behind l)).map (List.drop 33) = l := by
  unfold madeL
  generalize bs (tabL (behind l)) = y
  unfold behind
  rw [List.map_map, List.map_map]
  refine (List.map_congr_left fun p _ => ?_).trans (List.map_id l)
  show List.drop 33 (specHead y ++ (ringHead ++ p)) = p
  rw [← List.append_assoc, List.drop_left' (by rfl)]
theorem made_inj {l m : List (List Ins)} : madeL (behind l) = madeL (behind m) ↔ l = m := by
  refine ⟨fun h => ?_, fun h => by rw [h]⟩
  rw [← made_drop l, ← made_drop m, h]
/-- The law of different rings. -/
theorem ringDifferent_plain (l m : List (List Ins)) (hl : FitsL l) (hm : FitsL m) : narcissuslaw08_RingDifferent.f 3000000 l m = some true := by
  have hj0 : ∀ k, 20000 ≤ k → narcissuslaw08_RingDifferent.j0 (k + 1) l m true = some true := fun k hk => by
    rw [narcissuslaw08_RingDifferent.j0, if_pos rfl, awake_ok k (by omega)]; rfl
  have hj1 : ∀ k a b, 20000 ≤ k → narcissuslaw08_RingDifferent.j1 (k + 1) l m a b true = some true := fun k a b hk => by
    rw [narcissuslaw08_RingDifferent.j1, if_pos rfl, awake_ok k (by omega)]; rfl
  have e3 : (3000000 : Nat) = 2999999 + 1 := rfl
  have e2 : (2999999 : Nat) = 2999998 + 1 := rfl
  unfold narcissuslaw08_RingDifferent.f
  by_cases h1 : (l.length : Int) > 40
  · rw [if_pos h1, e3]; exact hj0 _ (by omega)
  rw [if_neg h1]
  by_cases h2 : (m.length : Int) > 40
  · rw [if_pos h2, e3]; exact hj0 _ (by omega)
  rw [if_neg h2]
  obtain ⟨v, ev, hv⟩ := small_tells l (by omega) hl 3000000 (by omega)
  obtain ⟨u, eu, hu⟩ := small_tells m (by omega) hm 3000000 (by omega)
  rw [ev, Option.bind_some, eu, Option.bind_some]
  cases v with
  | false => rw [if_neg (by decide), e3]; exact hj0 _ (by omega)
  | true =>
    rw [if_pos rfl]
    cases u with
    | false => rw [e3]; exact hj0 _ (by omega)
    | true =>
      obtain ⟨a, e, ea, ha⟩ := together_cases l (by omega) 2999999 (by omega)
      obtain ⟨b, f, eb, hb⟩ := together_cases m (by omega) 2999999 (by omega)
      rw [e3, narcissuslaw08_RingDifferent.j0, if_neg (by decide), ea, Option.bind_some, eb, Option.bind_some]
      by_cases he : e = 0
      · rw [if_pos he]
        by_cases hf : f = 0
        · subst he; subst hf
          obtain ⟨fa, rfl⟩ := ha rfl
          obtain ⟨fb, rfl⟩ := hb rfl
          obtain ⟨v, e4, h4⟩ := sameL_tells (madeL (behind l)) (madeL (behind m)) (by unfold madeL behind; rw [List.length_map, List.length_map]; omega) (made_small fa) 2999998 (by omega)
          obtain ⟨u, e5, h5⟩ := sameL_tells l m (by omega) (fun p hp => by have := hv rfl p hp; omega) 2999998 (by omega)
          rw [show ((0 : Int) != 0) = false from rfl, e2, narcissuslaw08_RingDifferent.j1, if_neg (by decide), e4, Option.bind_some, e5, Option.bind_some]
          have hvu : v = u := Bool.eq_iff_iff.2 (h4.trans (made_inj.trans h5.symm))
          rw [if_pos (by rw [hvu]; exact beq_self_eq_true u), awake_ok _ (by omega)]
          rfl
        · rw [show (f != 0) = true from by simpa using hf, e2]; exact hj1 _ _ _ (by omega)
      · rw [if_neg he, e2]; exact hj1 _ _ _ (by omega)
end Go.Proofs.YtocoamgbpoommaaGreatDoor.Plain
end
section
/- A program that comes in (a slice of instructions), opened: the instructions, and how large they may be. -/
namespace Go.Proofs.YtocoamgbpoommaaGreatDoor.Card
open Go.ChangeShapes Go.WideShapes Go.ChangeAt Go.RowKit Go.Deep
open Go.Proofs.YtocoamgbpoommaaGreatDoorW.PrintWords Go.Proofs.YtocoamgbpoommaaGreatDoor.C
set_option linter.unusedVariables false

theorem c5 : Tryz.prog.cellsOf 72 = 5 := by kernel_rfl
theorem b48 : Tryz.prog.bytesOf 72 = 48 := by kernel_rfl
theorem c1i : Tryz.prog.cellsOf 3 = 1 := by kernel_rfl
theorem weights_all {H : Type} {P : Program} {e : TypeId} : ∀ {l : List (DataW H)} {d : DataW H} {n : Nat}, d ∈ l → n ∈ d.weights P e → n ∈ DataW.weightsAll P e l
  | x :: l, d, n, hd, hn => by
    simp only [DataW.weightsAll, List.mem_append]
    rcases List.mem_cons.1 hd with rfl | hd
    · exact .inl hn
    · exact .inr (weights_all hd hn)

set_option maxRecDepth 100000 in
theorem open_prog {H : Type} {enc : TypeId × Value → H} {W : World} {base : Nat} {v : Value} {d : DataW H} {p : List MemPlace}
    (hok : Value.okWide Tryz.prog W .any base 47 v) (h : DataW.Trod enc Tryz.prog W 0 (fun _ => true) true 47 v d p) :
    ∃ (A : Option Addr) (c : Nat) (xs : List S72), v = .slice A xs.length c ∧ xs.length ≤ c ∧ Kd.C k72 W A xs.length xs ∧
      ∀ (ts : List TypeId) (ds : List (DataW H)) (j : Nat), (DataW.weightsEach Tryz.prog ts ds).all (· ≤ reachBytes) = true → ts[j]? = some 47 → ds[j]? = some d → xs.length * 48 ≤ 140737488351232 ∧ ∀ x ∈ xs, x.f4.size ≤ 140737488351232 := by
  obtain ⟨a0, len0, cap0, rfl⟩ := okWide_slice Tryz.underlying47 hok
  obtain ⟨fuel, hf⟩ := h
  rcases open_slice Tryz.underlying47 hf with ⟨hcs, hx⟩ | ⟨a, len, cap, m, n, D, Pl, hcs, hb, hl, hm, hmm, hx, hel⟩
  · simp [Value.cells] at hcs
    obtain ⟨rfl, rfl, rfl⟩ := hcs
    refine ⟨none, 0, [], rfl, Nat.le_refl _, ⟨rfl, Nat.zero_le _, fun h => absurd h (Nat.lt_irrefl _)⟩, fun ts ds j _ _ _ => ⟨by simp, by simp⟩⟩
  · simp [Value.cells] at hcs
    obtain ⟨rfl, rfl, rfl⟩ := hcs
    simp only [if_true] at hmm
    subst hmm
    have each : ∀ i, i < m → ∃ q : S72 × List (DataW H), (W.cell? (a.add (i * 5)) = some (.int .i64 q.1.f0) ∧ W.cell? (a.add (i * 5 + 1)) = some (.int .i64 q.1.f1) ∧ W.cell? (a.add (i * 5 + 2)) = some (.int .i64 q.1.f2) ∧ W.cell? (a.add (i * 5 + 3)) = some (.int .i64 q.1.f3) ∧ W.cell? (a.add (i * 5 + 4)) = some (.string q.1.f4)) ∧ D i = .agg q.2 ∧ q.2[4]? = some (.lit (.string q.1.f4.data.toList)) := by
      intro i hi
      obtain ⟨cs', h1, h2⟩ := hel i hi
      rw [c5] at h1
      obtain ⟨_, hlen, hcell⟩ := World.cells?_some h1
      obtain ⟨xs, k, hk, hxy, _, hxl, hfl⟩ := DataW.trod_struct Tryz.underlying72 h2
      match cs', hlen with
      | [v0, v1, v2, v3, v4], _ =>
        have e0 : DataW.trod enc Tryz.prog W 0 (fun _ => true) true k 3 ((([v0, v1, v2, v3, v4] : List Value).drop 0).take (Tryz.prog.cellsOf 3)) = xs[0]? := hfl 0 _ rfl
        rw [c1i] at e0
        have g0 : DataW.trod enc Tryz.prog W 0 (fun _ => true) true k 3 [v0] = xs[0]? := e0
        clear e0
        have e1 : DataW.trod enc Tryz.prog W 0 (fun _ => true) true k 3 ((([v0, v1, v2, v3, v4] : List Value).drop 1).take (Tryz.prog.cellsOf 3)) = xs[1]? := hfl 1 _ rfl
        rw [c1i] at e1
        have g1 : DataW.trod enc Tryz.prog W 0 (fun _ => true) true k 3 [v1] = xs[1]? := e1
        clear e1
        have e2 : DataW.trod enc Tryz.prog W 0 (fun _ => true) true k 3 ((([v0, v1, v2, v3, v4] : List Value).drop 2).take (Tryz.prog.cellsOf 3)) = xs[2]? := hfl 2 _ rfl
        rw [c1i] at e2
        have g2 : DataW.trod enc Tryz.prog W 0 (fun _ => true) true k 3 [v2] = xs[2]? := e2
        clear e2
        have e3 : DataW.trod enc Tryz.prog W 0 (fun _ => true) true k 3 ((([v0, v1, v2, v3, v4] : List Value).drop 3).take (Tryz.prog.cellsOf 3)) = xs[3]? := hfl 3 _ rfl
        rw [c1i] at e3
        have g3 : DataW.trod enc Tryz.prog W 0 (fun _ => true) true k 3 [v3] = xs[3]? := e3
        clear e3
        have e4 : DataW.trod enc Tryz.prog W 0 (fun _ => true) true k 9 ((([v0, v1, v2, v3, v4] : List Value).drop 4).take (Tryz.prog.cellsOf 9)) = xs[4]? := hfl 4 _ rfl
        rw [cStr] at e4
        have g4 : DataW.trod enc Tryz.prog W 0 (fun _ => true) true k 9 [v4] = xs[4]? := e4
        clear e4
        have hxs : xs.length = 5 := hxl
        match xs, hxs with
        | [y0, y1, y2, y3, y4], _ =>
          simp only [List.getElem?_cons_zero, List.getElem?_cons_succ] at g0 g1 g2 g3 g4
          obtain ⟨n0, e0, x0, _⟩ := DataW.trod_int Tryz.underlying3 g0
          obtain ⟨n1, e1, x1, _⟩ := DataW.trod_int Tryz.underlying3 g1
          obtain ⟨n2, e2, x2, _⟩ := DataW.trod_int Tryz.underlying3 g2
          obtain ⟨n3, e3, x3, _⟩ := DataW.trod_int Tryz.underlying3 g3
          obtain ⟨s4, e4, x4, _⟩ := DataW.trod_string Tryz.underlying9 g4
          simp only [List.cons.injEq, and_true] at e0 e1 e2 e3 e4
          subst e0 e1 e2 e3 e4
          have z0 := hcell 0 (by omega)
          have z1 := hcell 1 (by omega)
          have z2 := hcell 2 (by omega)
          have z3 := hcell 3 (by omega)
          have z4 := hcell 4 (by omega)
          rw [Deep.add_add] at z0 z1 z2 z3 z4
          simp only [List.getElem?_cons_zero, List.getElem?_cons_succ] at z0 z1 z2 z3 z4
          refine ⟨(⟨n0, n1, n2, n3, s4⟩, [y0.1, y1.1, y2.1, y3.1, y4.1]), ⟨z0, z1, z2, z3, z4⟩, (Prod.mk.inj hxy).1, ?_⟩
          show some y4.1 = _
          rw [x4]
    haveI : Inhabited (S72 × List (DataW H)) := ⟨(z72, [])⟩
    obtain ⟨q, hq⟩ := choose_lt each
    refine ⟨some a, m, (List.range len0).map fun i => (q i).1, by simp, by simpa using hl, ⟨by simp, ?_, fun hn => ⟨a, rfl, fun j x hj => ?_⟩⟩, fun ts ds j hsz ht hd => ?_⟩
    · rw [List.length_map, List.length_range]; unfold maxLen at hm; omega
    · have hjl : j < len0 := by
        have := (List.getElem?_eq_some_iff.1 hj).1
        simpa using this
      have hx' : x = (q j).1 := by
        rw [List.getElem?_map, List.getElem?_range hjl] at hj
        exact (Option.some.inj hj).symm
      subst hx'
      obtain ⟨⟨z0, z1, z2, z3, z4⟩, _⟩ := hq j (by omega)
      refine ⟨_, rfl, k72_mk W (q j).1, fun i u hi => ?_⟩
      show W.cell? (a.add (j * 5 + i)) = some u
      match i, hi with
      | 0, hi => simp only [List.getElem?_cons_zero, Option.some.injEq] at hi; subst hi; exact z0
      | 1, hi => simp only [List.getElem?_cons_zero, List.getElem?_cons_succ, Option.some.injEq] at hi; subst hi; exact z1
      | 2, hi => simp only [List.getElem?_cons_zero, List.getElem?_cons_succ, Option.some.injEq] at hi; subst hi; exact z2
      | 3, hi => simp only [List.getElem?_cons_zero, List.getElem?_cons_succ, Option.some.injEq] at hi; subst hi; exact z3
      | 4, hi => simp only [List.getElem?_cons_zero, List.getElem?_cons_succ, Option.some.injEq] at hi; subst hi; exact z4
      | i + 5, hi => simp at hi
    · have hx1 : d = .slice ((List.range len0).map D) ((List.range (m - len0)).map fun j => D (len0 + j)) := (Prod.mk.inj hx).1
      subst hx1
      refine ⟨?_, fun x hx2 => ?_⟩
      · have := sized_slice hsz ht hd Tryz.underlying47
        rw [b48, List.length_map, List.length_range] at this
        rw [List.length_map, List.length_range]
        have h2 : len0 * 48 ≤ (len0 + ((List.range (m - len0)).map fun j => D (len0 + j)).length) * 48 := Nat.mul_le_mul_right _ (Nat.le_add_right _ _)
        exact Nat.le_trans h2 this
      · obtain ⟨i, hi, rfl⟩ := List.mem_map.1 hx2
        have hil : i < len0 := by simpa using hi
        obtain ⟨_, eD, e4⟩ := hq i (by omega)
        have hmem : (q i).1.f4.data.toList.length ∈ (DataW.slice ((List.range len0).map D) ((List.range (m - len0)).map fun j => D (len0 + j))).weights Tryz.prog 47 := by
          simp only [DataW.weights, Tryz.underlying47, List.mem_cons, List.mem_append]
          refine .inr (.inl (weights_all (d := D i) (List.mem_map.2 ⟨i, hi, rfl⟩) ?_))
          rw [eD]
          simp only [DataW.weights, Tryz.underlying72]
          exact DataW.weights_mem_each (j := 4) rfl e4 _ (by simp [DataW.weights])
        have := List.all_eq_true.1 hsz _ (DataW.weights_mem_each ht hd _ hmem)
        have h2 : (q i).1.f4.data.toList.length ≤ reachBytes := of_decide_eq_true this
        rw [Array.length_toList] at h2
        exact h2
end Go.Proofs.YtocoamgbpoommaaGreatDoor.Card
end
section
/- A list of programs that comes in (a slice of slices of instructions), opened: the instructions, and how large they may be. -/
namespace Go.Proofs.YtocoamgbpoommaaGreatDoor.Card
open Go.ChangeShapes Go.WideShapes Go.ChangeAt Go.RowKit Go.Deep
open Go.Proofs.YtocoamgbpoommaaGreatDoorW.PrintWords Go.Proofs.YtocoamgbpoommaaGreatDoor.C
set_option linter.unusedVariables false

theorem c1p : Tryz.prog.cellsOf 47 = 1 := by kernel_rfl
set_option maxRecDepth 100000 in
theorem open_prog0 {H : Type} {enc : TypeId × Value → H} {W : World} {v : Value} {d : DataW H} {p : List MemPlace} {fuel : Nat}
    (hf : DataW.trod enc Tryz.prog W 0 (fun _ => true) true fuel 47 [v] = some (d, p)) :
    ∃ (A : Option Addr) (c : Nat) (xs : List S72), v = .slice A xs.length c ∧ xs.length ≤ c ∧ Kd.C k72 W A xs.length xs ∧
      ((∀ n ∈ d.weights Tryz.prog 47, n ≤ reachBytes) → xs.length * 48 ≤ 140737488351232 ∧ ∀ x ∈ xs, x.f4.size ≤ 140737488351232) := by
  rcases open_slice Tryz.underlying47 hf with ⟨hcs, hx⟩ | ⟨a, len, cap, m, n, D, Pl, hcs, hb, hl, hm, hmm, hx, hel⟩
  · obtain rfl : v = .slice none 0 0 := by simpa using hcs
    refine ⟨none, 0, [], rfl, Nat.le_refl _, ⟨rfl, Nat.zero_le _, fun h => absurd h (Nat.lt_irrefl _)⟩, fun _ => ⟨by simp, by simp⟩⟩
  · obtain rfl : v = .slice (some a) len cap := by simpa using hcs
    simp only [if_true] at hmm
    subst hmm
    have each : ∀ i, i < m → ∃ q : S72 × List (DataW H), (W.cell? (a.add (i * 5)) = some (.int .i64 q.1.f0) ∧ W.cell? (a.add (i * 5 + 1)) = some (.int .i64 q.1.f1) ∧ W.cell? (a.add (i * 5 + 2)) = some (.int .i64 q.1.f2) ∧ W.cell? (a.add (i * 5 + 3)) = some (.int .i64 q.1.f3) ∧ W.cell? (a.add (i * 5 + 4)) = some (.string q.1.f4)) ∧ D i = .agg q.2 ∧ q.2[4]? = some (.lit (.string q.1.f4.data.toList)) := by
      intro i hi
      obtain ⟨cs', h1, h2⟩ := hel i hi
      rw [c5] at h1
      obtain ⟨_, hlen, hcell⟩ := World.cells?_some h1
      obtain ⟨xs, k, hk, hxy, _, hxl, hfl⟩ := DataW.trod_struct Tryz.underlying72 h2
      match cs', hlen with
      | [v0, v1, v2, v3, v4], _ =>
        have e0 : DataW.trod enc Tryz.prog W 0 (fun _ => true) true k 3 ((([v0, v1, v2, v3, v4] : List Value).drop 0).take (Tryz.prog.cellsOf 3)) = xs[0]? := hfl 0 _ rfl
        rw [c1i] at e0
        have g0 : DataW.trod enc Tryz.prog W 0 (fun _ => true) true k 3 [v0] = xs[0]? := e0
        clear e0
        have e1 : DataW.trod enc Tryz.prog W 0 (fun _ => true) true k 3 ((([v0, v1, v2, v3, v4] : List Value).drop 1).take (Tryz.prog.cellsOf 3)) = xs[1]? := hfl 1 _ rfl
        rw [c1i] at e1
        have g1 : DataW.trod enc Tryz.prog W 0 (fun _ => true) true k 3 [v1] = xs[1]? := e1
        clear e1
        have e2 : DataW.trod enc Tryz.prog W 0 (fun _ => true) true k 3 ((([v0, v1, v2, v3, v4] : List Value).drop 2).take (Tryz.prog.cellsOf 3)) = xs[2]? := hfl 2 _ rfl
        rw [c1i] at e2
        have g2 : DataW.trod enc Tryz.prog W 0 (fun _ => true) true k 3 [v2] = xs[2]? := e2
        clear e2
        have e3 : DataW.trod enc Tryz.prog W 0 (fun _ => true) true k 3 ((([v0, v1, v2, v3, v4] : List Value).drop 3).take (Tryz.prog.cellsOf 3)) = xs[3]? := hfl 3 _ rfl
        rw [c1i] at e3
        have g3 : DataW.trod enc Tryz.prog W 0 (fun _ => true) true k 3 [v3] = xs[3]? := e3
        clear e3
        have e4 : DataW.trod enc Tryz.prog W 0 (fun _ => true) true k 9 ((([v0, v1, v2, v3, v4] : List Value).drop 4).take (Tryz.prog.cellsOf 9)) = xs[4]? := hfl 4 _ rfl
        rw [cStr] at e4
        have g4 : DataW.trod enc Tryz.prog W 0 (fun _ => true) true k 9 [v4] = xs[4]? := e4
        clear e4
        have hxs : xs.length = 5 := hxl
        match xs, hxs with
        | [y0, y1, y2, y3, y4], _ =>
          simp only [List.getElem?_cons_zero, List.getElem?_cons_succ] at g0 g1 g2 g3 g4
          obtain ⟨n0, e0, x0, _⟩ := DataW.trod_int Tryz.underlying3 g0
          obtain ⟨n1, e1, x1, _⟩ := DataW.trod_int Tryz.underlying3 g1
          obtain ⟨n2, e2, x2, _⟩ := DataW.trod_int Tryz.underlying3 g2
          obtain ⟨n3, e3, x3, _⟩ := DataW.trod_int Tryz.underlying3 g3
          obtain ⟨s4, e4, x4, _⟩ := DataW.trod_string Tryz.underlying9 g4
          simp only [List.cons.injEq, and_true] at e0 e1 e2 e3 e4
          subst e0 e1 e2 e3 e4
          have z0 := hcell 0 (by omega)
          have z1 := hcell 1 (by omega)
          have z2 := hcell 2 (by omega)
          have z3 := hcell 3 (by omega)
          have z4 := hcell 4 (by omega)
          rw [Deep.add_add] at z0 z1 z2 z3 z4
          simp only [List.getElem?_cons_zero, List.getElem?_cons_succ] at z0 z1 z2 z3 z4
          refine ⟨(⟨n0, n1, n2, n3, s4⟩, [y0.1, y1.1, y2.1, y3.1, y4.1]), ⟨z0, z1, z2, z3, z4⟩, (Prod.mk.inj hxy).1, ?_⟩
          show some y4.1 = _
          rw [x4]
    haveI : Inhabited (S72 × List (DataW H)) := ⟨(z72, [])⟩
    obtain ⟨q, hq⟩ := choose_lt each
    refine ⟨some a, m, (List.range len).map fun i => (q i).1, by simp, by simpa using hl, ⟨by simp, ?_, fun hn => ⟨a, rfl, fun j x hj => ?_⟩⟩, fun hsz => ?_⟩
    · rw [List.length_map, List.length_range]; unfold maxLen at hm; omega
    · have hjl : j < len := by
        have := (List.getElem?_eq_some_iff.1 hj).1
        simpa using this
      have hx' : x = (q j).1 := by
        rw [List.getElem?_map, List.getElem?_range hjl] at hj
        exact (Option.some.inj hj).symm
      subst hx'
      obtain ⟨⟨z0, z1, z2, z3, z4⟩, _⟩ := hq j (by omega)
      refine ⟨_, rfl, k72_mk W (q j).1, fun i u hi => ?_⟩
      show W.cell? (a.add (j * 5 + i)) = some u
      match i, hi with
      | 0, hi => simp only [List.getElem?_cons_zero, Option.some.injEq] at hi; subst hi; exact z0
      | 1, hi => simp only [List.getElem?_cons_zero, List.getElem?_cons_succ, Option.some.injEq] at hi; subst hi; exact z1
      | 2, hi => simp only [List.getElem?_cons_zero, List.getElem?_cons_succ, Option.some.injEq] at hi; subst hi; exact z2
      | 3, hi => simp only [List.getElem?_cons_zero, List.getElem?_cons_succ, Option.some.injEq] at hi; subst hi; exact z3
      | 4, hi => simp only [List.getElem?_cons_zero, List.getElem?_cons_succ, Option.some.injEq] at hi; subst hi; exact z4
      | i + 5, hi => simp at hi
    · have hx1 : d = .slice ((List.range len).map D) ((List.range (m - len)).map fun j => D (len + j)) := (Prod.mk.inj hx).1
      subst hx1
      refine ⟨?_, fun x hx2 => ?_⟩
      · have := hsz ((((List.range len).map D).length + ((List.range (m - len)).map fun j => D (len + j)).length) * Tryz.prog.bytesOf 72) (by simp only [DataW.weights, Tryz.underlying47]; exact List.mem_cons_self)
        rw [b48, List.length_map, List.length_range] at this
        rw [List.length_map, List.length_range]
        have h2 : len * 48 ≤ (len + ((List.range (m - len)).map fun j => D (len + j)).length) * 48 := Nat.mul_le_mul_right _ (Nat.le_add_right _ _)
        exact Nat.le_trans h2 this
      · obtain ⟨i, hi, rfl⟩ := List.mem_map.1 hx2
        have hil : i < len := by simpa using hi
        obtain ⟨_, eD, e4⟩ := hq i (by omega)
        have hmem : (q i).1.f4.data.toList.length ∈ (DataW.slice ((List.range len).map D) ((List.range (m - len)).map fun j => D (len + j))).weights Tryz.prog 47 := by
          simp only [DataW.weights, Tryz.underlying47, List.mem_cons, List.mem_append]
          refine .inr (.inl (weights_all (d := D i) (List.mem_map.2 ⟨i, hi, rfl⟩) ?_))
          rw [eD]
          simp only [DataW.weights, Tryz.underlying72]
          exact DataW.weights_mem_each (j := 4) rfl e4 _ (by simp [DataW.weights])
        have h2 : (q i).1.f4.data.toList.length ≤ reachBytes := hsz _ hmem
        rw [Array.length_toList] at h2
        exact h2

set_option maxRecDepth 100000 in
theorem open_progs {H : Type} {enc : TypeId × Value → H} {W : World} {base : Nat} {v : Value} {d : DataW H} {p : List MemPlace}
    (hok : Value.okWide Tryz.prog W .any base 22 v) (h : DataW.Trod enc Tryz.prog W 0 (fun _ => true) true 22 v d p) :
    ∃ (A : Option Addr) (c : Nat) (xs : List (List S72)), v = .slice A xs.length c ∧ xs.length ≤ c ∧ Kd.C (Kd.slice 72 k72) W A xs.length xs ∧
      ∀ (ts : List TypeId) (ds : List (DataW H)) (j : Nat), (DataW.weightsEach Tryz.prog ts ds).all (· ≤ reachBytes) = true → ts[j]? = some 22 → ds[j]? = some d → ∀ x ∈ xs, x.length * 48 ≤ 140737488351232 ∧ ∀ i ∈ x, i.f4.size ≤ 140737488351232 := by
  obtain ⟨a0, len0, cap0, rfl⟩ := okWide_slice Tryz.underlying22 hok
  obtain ⟨fuel, hf⟩ := h
  rcases open_slice1 Tryz.underlying22 c1p hf with ⟨hcs, hx⟩ | ⟨a, len, cap, m, n, V, D, Pl, hcs, hb, hl, hm, hmm, hx, hel⟩
  · simp [Value.cells] at hcs
    obtain ⟨rfl, rfl, rfl⟩ := hcs
    exact ⟨none, 0, [], rfl, Nat.le_refl _, ⟨rfl, Nat.zero_le _, fun h => absurd h (Nat.lt_irrefl _)⟩, fun ts ds j _ _ _ x hx => by cases hx⟩
  · simp [Value.cells] at hcs
    obtain ⟨rfl, rfl, rfl⟩ := hcs
    simp only [if_true] at hmm
    subst hmm
    have each : ∀ i, i < m → ∃ q : Option Addr × Nat × List S72, W.cell? (a.add i) = some (.slice q.1 q.2.2.length q.2.1) ∧ q.2.2.length ≤ q.2.1 ∧ Kd.C k72 W q.1 q.2.2.length q.2.2 ∧
        ((∀ n ∈ (D i).weights Tryz.prog 47, n ≤ reachBytes) → q.2.2.length * 48 ≤ 140737488351232 ∧ ∀ x ∈ q.2.2, x.f4.size ≤ 140737488351232) := by
      intro i hi
      obtain ⟨h1, h2⟩ := hel i hi
      obtain ⟨A, c, xs, e, hc, hC, hw⟩ := open_prog0 h2
      exact ⟨(A, c, xs), by rw [h1, e], hc, hC, hw⟩
    haveI : Inhabited (Option Addr × Nat × List S72) := ⟨(none, 0, [])⟩
    obtain ⟨q, hq⟩ := choose_lt each
    refine ⟨some a, m, (List.range len0).map fun i => (q i).2.2, by simp, by simpa using hl, ⟨by simp, ?_, fun hn => ⟨a, rfl, fun j x hj => ?_⟩⟩, fun ts ds j hsz ht hd => ?_⟩
    · rw [List.length_map, List.length_range]; unfold maxLen at hm; omega
    · have hjl : j < len0 := by
        have := (List.getElem?_eq_some_iff.1 hj).1
        simpa using this
      have hx' : x = (q j).2.2 := by
        rw [List.getElem?_map, List.getElem?_range hjl] at hj
        exact (Option.some.inj hj).symm
      subst hx'
      obtain ⟨z, hc, hC, _⟩ := hq j (by omega)
      refine ⟨[.slice (q j).1 (q j).2.2.length (q j).2.1], rfl, ⟨_, _, rfl, hc, hC⟩, fun i u hi => ?_⟩
      show W.cell? (a.add (j * 1 + i)) = some u
      match i, hi with
      | 0, hi => simp only [List.getElem?_cons_zero, Option.some.injEq] at hi; subst hi; rw [Nat.mul_one, Nat.add_zero]; exact z
      | i + 1, hi => simp at hi
    · have hx1 : d = .slice ((List.range len0).map D) ((List.range (m - len0)).map fun j => D (len0 + j)) := (Prod.mk.inj hx).1
      subst hx1
      intro x hx2
      obtain ⟨i, hi, rfl⟩ := List.mem_map.1 hx2
      have hil : i < len0 := by simpa using hi
      obtain ⟨_, _, _, hw⟩ := hq i (by omega)
      refine hw fun n hn => ?_
      have hmem : n ∈ (DataW.slice ((List.range len0).map D) ((List.range (m - len0)).map fun j => D (len0 + j))).weights Tryz.prog 22 := by
        simp only [DataW.weights, Tryz.underlying22, List.mem_cons, List.mem_append]
        exact .inr (.inl (weights_all (d := D i) (List.mem_map.2 ⟨i, hi, rfl⟩) hn))
      exact of_decide_eq_true (List.all_eq_true.1 hsz _ (DataW.weights_mem_each ht hd _ hmem))
end Go.Proofs.YtocoamgbpoommaaGreatDoor.Card
end
