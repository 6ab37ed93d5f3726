/- Texts of this claim, together: what the functions return, and what they say in plain words. -/
import Derived.Test.YtpnmmpfidiegcaaUN
import Derived.Deep.Slices
section
namespace Go.Proofs.Ytpnmmpfidiegcaa.Card
open Go.ChangeShapes Go.WideShapes Go.ChangeAt Go.RowKit Go.Deep
open Go.Proofs.YtpnmmpfidiegcaaW.PrintWords Go.Proofs.Ytpnmmpfidiegcaa.C
set_option linter.unusedVariables false
theorem c5 : Try.prog.cellsOf 52 = 5 := by kernel_rfl
theorem b48 : Try.prog.bytesOf 52 = 48 := by kernel_rfl
theorem c1i : Try.prog.cellsOf 3 = 1 := by kernel_rfl
theorem weights_all {H : Type} {P : Program} {e : TypeId} : ∀ {l : List (DataW H)} {d : DataW H} {n : Nat}, d ∈ l → n ∈ d.weights P e → n ∈ DataW.weightsAll P e l
  | x :: l, d, n, hd, hn => by
    simp only [DataW.weightsAll, List.mem_append]
    rcases List.mem_cons.1 hd with rfl | hd
    · exact .inl hn
    · exact .inr (weights_all hd hn)
set_option maxRecDepth 100000 in
theorem open_prog {H : Type} {enc : TypeId × Value → H} {W : World} {base : Nat} {v : Value} {d : DataW H} {p : List MemPlace}
    (hok : Value.okWide Try.prog W .any base 23 v) (h : DataW.Trod enc Try.prog W 0 (fun _ => true) true 23 v d p) :
    ∃ (A : Option Addr) (c : Nat) (xs : List S52), v = .slice A xs.length c ∧ xs.length ≤ c ∧ Kd.C k52 W A xs.length xs ∧
      ∀ (ts : List TypeId) (ds : List (DataW H)) (j : Nat), (DataW.weightsEach Try.prog ts ds).all (· ≤ reachBytes) = true → ts[j]? = some 23 → ds[j]? = some d → xs.length * 48 ≤ 140737488351232 ∧ ∀ x ∈ xs, x.f4.size ≤ 140737488351232 := by
  obtain ⟨a0, len0, cap0, rfl⟩ := okWide_slice Try.underlying23 hok
  obtain ⟨fuel, hf⟩ := h
  rcases open_slice Try.underlying23 hf with ⟨hcs, hx⟩ | ⟨a, len, cap, m, n, D, Pl, hcs, hb, hl, hm, hmm, hx, hel⟩
  · simp [Value.cells] at hcs
    obtain ⟨rfl, rfl, rfl⟩ := hcs
    refine ⟨none, 0, [], rfl, Nat.le_refl _, ⟨rfl, Nat.zero_le _, fun h => absurd h (Nat.lt_irrefl _)⟩, fun ts ds j _ _ _ => ⟨by simp, by simp⟩⟩
  · simp [Value.cells] at hcs
    obtain ⟨rfl, rfl, rfl⟩ := hcs
    simp only [if_true] at hmm
    subst hmm
    have each : ∀ i, i < m → ∃ q : S52 × List (DataW H), (W.cell? (a.add (i * 5)) = some (.int .i64 q.1.f0) ∧ W.cell? (a.add (i * 5 + 1)) = some (.int .i64 q.1.f1) ∧ W.cell? (a.add (i * 5 + 2)) = some (.int .i64 q.1.f2) ∧ W.cell? (a.add (i * 5 + 3)) = some (.int .i64 q.1.f3) ∧ W.cell? (a.add (i * 5 + 4)) = some (.string q.1.f4)) ∧ D i = .agg q.2 ∧ q.2[4]? = some (.lit (.string q.1.f4.data.toList)) := by
      intro i hi
      obtain ⟨cs', h1, h2⟩ := hel i hi
      rw [c5] at h1
      obtain ⟨_, hlen, hcell⟩ := World.cells?_some h1
      obtain ⟨xs, k, hk, hxy, _, hxl, hfl⟩ := DataW.trod_struct Try.underlying52 h2
      match cs', hlen with
      | [v0, v1, v2, v3, v4], _ =>
        have e0 : DataW.trod enc Try.prog W 0 (fun _ => true) true k 3 ((([v0, v1, v2, v3, v4] : List Value).drop 0).take (Try.prog.cellsOf 3)) = xs[0]? := hfl 0 _ rfl
        rw [c1i] at e0
        have g0 : DataW.trod enc Try.prog W 0 (fun _ => true) true k 3 [v0] = xs[0]? := e0
        clear e0
        have e1 : DataW.trod enc Try.prog W 0 (fun _ => true) true k 3 ((([v0, v1, v2, v3, v4] : List Value).drop 1).take (Try.prog.cellsOf 3)) = xs[1]? := hfl 1 _ rfl
        rw [c1i] at e1
        have g1 : DataW.trod enc Try.prog W 0 (fun _ => true) true k 3 [v1] = xs[1]? := e1
        clear e1
        have e2 : DataW.trod enc Try.prog W 0 (fun _ => true) true k 3 ((([v0, v1, v2, v3, v4] : List Value).drop 2).take (Try.prog.cellsOf 3)) = xs[2]? := hfl 2 _ rfl
        rw [c1i] at e2
        have g2 : DataW.trod enc Try.prog W 0 (fun _ => true) true k 3 [v2] = xs[2]? := e2
        clear e2
        have e3 : DataW.trod enc Try.prog W 0 (fun _ => true) true k 3 ((([v0, v1, v2, v3, v4] : List Value).drop 3).take (Try.prog.cellsOf 3)) = xs[3]? := hfl 3 _ rfl
        rw [c1i] at e3
        have g3 : DataW.trod enc Try.prog W 0 (fun _ => true) true k 3 [v3] = xs[3]? := e3
        clear e3
        have e4 : DataW.trod enc Try.prog W 0 (fun _ => true) true k 9 ((([v0, v1, v2, v3, v4] : List Value).drop 4).take (Try.prog.cellsOf 9)) = xs[4]? := hfl 4 _ rfl
        rw [cStr] at e4
        have g4 : DataW.trod enc Try.prog W 0 (fun _ => true) true k 9 [v4] = xs[4]? := e4
        clear e4
        have hxs : xs.length = 5 := hxl
        match xs, hxs with
        | [y0, y1, y2, y3, y4], _ =>
          simp only [List.getElem?_cons_zero, List.getElem?_cons_succ] at g0 g1 g2 g3 g4
          obtain ⟨n0, e0, x0, _⟩ := DataW.trod_int Try.underlying3 g0
          obtain ⟨n1, e1, x1, _⟩ := DataW.trod_int Try.underlying3 g1
          obtain ⟨n2, e2, x2, _⟩ := DataW.trod_int Try.underlying3 g2
          obtain ⟨n3, e3, x3, _⟩ := DataW.trod_int Try.underlying3 g3
          obtain ⟨s4, e4, x4, _⟩ := DataW.trod_string Try.underlying9 g4
          simp only [List.cons.injEq, and_true] at e0 e1 e2 e3 e4
          subst e0 e1 e2 e3 e4
          have z0 := hcell 0 (by omega)
          have z1 := hcell 1 (by omega)
          have z2 := hcell 2 (by omega)
          have z3 := hcell 3 (by omega)
          have z4 := hcell 4 (by omega)
          rw [Deep.add_add] at z0 z1 z2 z3 z4
          simp only [List.getElem?_cons_zero, List.getElem?_cons_succ] at z0 z1 z2 z3 z4
          refine ⟨(⟨n0, n1, n2, n3, s4⟩, [y0.1, y1.1, y2.1, y3.1, y4.1]), ⟨z0, z1, z2, z3, z4⟩, (Prod.mk.inj hxy).1, ?_⟩
          show some y4.1 = _
          rw [x4]
    haveI : Inhabited (S52 × List (DataW H)) := ⟨(z52, [])⟩
    obtain ⟨q, hq⟩ := choose_lt each
    refine ⟨some a, m, (List.range len0).map fun i => (q i).1, by simp, by simpa using hl, ⟨by simp, ?_, fun hn => ⟨a, rfl, fun j x hj => ?_⟩⟩, fun ts ds j hsz ht hd => ?_⟩
    · rw [List.length_map, List.length_range]; unfold maxLen at hm; omega
    · have hjl : j < len0 := by
        have := (List.getElem?_eq_some_iff.1 hj).1
        simpa using this
      have hx' : x = (q j).1 := by
        rw [List.getElem?_map, List.getElem?_range hjl] at hj
        exact (Option.some.inj hj).symm
      subst hx'
      obtain ⟨⟨z0, z1, z2, z3, z4⟩, _⟩ := hq j (by omega)
      refine ⟨_, rfl, k52_mk W (q j).1, fun i u hi => ?_⟩
      show W.cell? (a.add (j * 5 + i)) = some u
      match i, hi with
      | 0, hi => simp only [List.getElem?_cons_zero, Option.some.injEq] at hi; subst hi; exact z0
      | 1, hi => simp only [List.getElem?_cons_zero, List.getElem?_cons_succ, Option.some.injEq] at hi; subst hi; exact z1
      | 2, hi => simp only [List.getElem?_cons_zero, List.getElem?_cons_succ, Option.some.injEq] at hi; subst hi; exact z2
      | 3, hi => simp only [List.getElem?_cons_zero, List.getElem?_cons_succ, Option.some.injEq] at hi; subst hi; exact z3
      | 4, hi => simp only [List.getElem?_cons_zero, List.getElem?_cons_succ, Option.some.injEq] at hi; subst hi; exact z4
      | i + 5, hi => simp at hi
    · have hx1 : d = .slice ((List.range len0).map D) ((List.range (m - len0)).map fun j => D (len0 + j)) := (Prod.mk.inj hx).1
      subst hx1
      refine ⟨?_, fun x hx2 => ?_⟩
      · have := sized_slice hsz ht hd Try.underlying23
        rw [b48, List.length_map, List.length_range] at this
        rw [List.length_map, List.length_range]
        have h2 : len0 * 48 ≤ (len0 + ((List.range (m - len0)).map fun j => D (len0 + j)).length) * 48 := Nat.mul_le_mul_right _ (Nat.le_add_right _ _)
        exact Nat.le_trans h2 this
      · obtain ⟨i, hi, rfl⟩ := List.mem_map.1 hx2
        have hil : i < len0 := by simpa using hi
        obtain ⟨_, eD, e4⟩ := hq i (by omega)
        have hmem : (q i).1.f4.data.toList.length ∈ (DataW.slice ((List.range len0).map D) ((List.range (m - len0)).map fun j => D (len0 + j))).weights Try.prog 23 := by
          simp only [DataW.weights, Try.underlying23, List.mem_cons, List.mem_append]
          refine .inr (.inl (weights_all (d := D i) (List.mem_map.2 ⟨i, hi, rfl⟩) ?_))
          rw [eD]
          simp only [DataW.weights, Try.underlying52]
          exact DataW.weights_mem_each (j := 4) rfl e4 _ (by simp [DataW.weights])
        have := List.all_eq_true.1 hsz _ (DataW.weights_mem_each ht hd _ hmem)
        have h2 : (q i).1.f4.data.toList.length ≤ reachBytes := of_decide_eq_true this
        rw [Array.length_toList] at h2
        exact h2
end Go.Proofs.Ytpnmmpfidiegcaa.Card
end
