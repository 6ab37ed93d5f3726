/- Texts of this claim, together: what the functions return, and what they say in plain words. -/
import Derived.Test.YtocoamgbpoommaaGreatDoorUL
import Derived.Deep.RegionLawGrows
import Derived.Test.YtocoamgbpoommaaGreatDoorUD
import Derived.Lib.AtoiAll
import Derived.Lib.AtoiErrMem
import Derived.Test.YtocoamgbpoommaaGreatDoorUB
import Derived.Test.YtocoamgbpoommaaGreatDoorUF
import Derived.Laws.EntriesVeiled
section
/- append to a slice that was cut to its length; rows of programs that are being made. -/
namespace Go.Proofs.YtocoamgbpoommaaGreatDoor.C
open Go.RowKit Go.Proofs.YtocoamgbpoommaaGreatDoorW.PrintWords Go.Proofs.YtocoamgbpoommaaGreatDoorW.PrintLast Go.Proofs.YtocoamgbpoommaaGreatDoorW.PrintMore
set_option linter.unusedVariables false
set_option linter.unusedSimpArgs false

/-- A value is a slice that reads as a program. -/
def ReadsP (w : World) (v : Value) (p : List S72) : Prop := ∃ A c, v = .slice A p.length c ∧ p.length ≤ c ∧ Kd.C k72 w A p.length p ∧ ∀ ad, A = some ad → ∃ cells, w.heap[ad.block]? = some (.cells cells 72 (0, 0))
theorem ReadsP.below {w w' : World} {v : Value} {p : List S72} (h : ReadsP w v p) (hb : Below w.heap.size w w') : ReadsP w' v p := by
  obtain ⟨A, c, e, hc, hC, hT⟩ := h
  refine ⟨A, c, e, hc, Kd.C_below hC hb, fun ad ha => ?_⟩
  obtain ⟨cells, ht⟩ := hT ad ha
  exact ⟨cells, (hb.block _ (blk_lt ht)).trans ht⟩
theorem add_block (ad : Addr) (n : Nat) : (ad.add n).block = ad.block := by unfold Addr.add; split <;> rfl
theorem ReadsP.set {w : World} {v : Value} {p : List S72} (h : ReadsP w v p) {g : Nat} {cs : Array Value} (hg : w.heap[g]? = some (.cells cs 47 (0, 0))) (j : Nat) (u : Value) : ReadsP (w.setCell ⟨g, j, none⟩ u) v p := by
  obtain ⟨A, c, e, hc, hC, hT⟩ := h
  have hne : ∀ ad, A = some ad → ad.block ≠ g := fun ad ha e => by
    obtain ⟨cells, ht⟩ := hT ad ha
    rw [e, hg] at ht
    injection ht with ht
    injection ht with _ ht
    exact absurd ht (by decide)
  refine ⟨A, c, e, hc, ⟨hC.1, hC.2.1, fun hn => ?_⟩, fun ad ha => ?_⟩
  · obtain ⟨ad, ha, hr⟩ := hC.2.2 hn
    refine ⟨ad, ha, fun j' q hq => ?_⟩
    obtain ⟨c', h1, h2, h3⟩ := hr j' q hq
    refine ⟨c', h1, ?_, fun i u' hu => ?_⟩
    · obtain rfl := k72_open h2
      exact k72_mk _ q
    · rw [World.cell?_of_block (Below.heap_setCell w ⟨g, j, none⟩ u _ (by rw [add_block]; exact hne ad ha))]
      exact h3 i u' hu
  · obtain ⟨cells, ht⟩ := hT ad ha
    exact ⟨cells, blk_far ht (p := ⟨g, j, none⟩) (hne ad ha) u⟩
theorem ReadsP.of_R {w : World} {base : Nat} {v : Value} {p : List S72} (h : Kd.R k72 72 w base (fun _ => True) v p) : ReadsP w v p := by
  obtain ⟨A, c, rfl, hc, hC⟩ := Kd.R_reads h
  obtain ⟨inner, ho⟩ := Kd.R_own h
  refine ⟨A, c, rfl, hc, hC, fun ad ha => ?_⟩
  subst ha
  rcases ho.2 with ⟨e, _⟩ | ⟨g, cap, cur, e, _, hh, _⟩
  · cases e
  · injection e with e
    injection e with e
    subst e
    exact ⟨cur, hh⟩
theorem infoI : (Tryz.prog.info? 72).map (fun i => (i.zero, i.size, i.bytes)) = some (some (.agg #[.int .i64 0, .int .i64 0, .int .i64 0, .int .i64 0, .string ⟨#[]⟩]), 5, 48) := info72
theorem reps_app {α : Type} {R : α → List Value → Prop} {n : Nat} {ps qs : List α} {cs ds : List Value} (h : Reps R n ps cs) (k : Reps R n qs ds) : Reps R n (ps ++ qs) (cs ++ ds) := by
  refine ⟨by rw [List.length_append, List.length_append, h.1, k.1, Nat.add_mul], fun j p hj => ?_⟩
  rcases Nat.lt_or_ge j ps.length with hl | hl
  · rw [List.getElem?_append_left hl] at hj
    have h1 : j * n + n ≤ cs.length := by
      rw [h.1]
      have := Nat.mul_le_mul_right n (Nat.succ_le_of_lt hl)
      rwa [Nat.succ_mul] at this
    rw [List.drop_append_of_le_length (by omega), List.take_append_of_le_length (by rw [List.length_drop]; omega)]
    exact h.2 j p hj
  · obtain ⟨i, rfl⟩ : ∃ i, j = ps.length + i := ⟨j - ps.length, by omega⟩
    rw [List.getElem?_append_right (by omega), Nat.add_sub_cancel_left] at hj
    rw [Nat.add_mul, ← h.1, List.drop_length_add_append]
    exact k.2 i p hj
theorem reps_cells {w : World} {xs : List S72} {cs : List Value} (h : Reps (Kd.K k72 w) 5 xs cs) : ∀ u ∈ cs, u.oneCell' = true := by
  intro u hu
  obtain ⟨q, hq, rfl⟩ := List.mem_iff_getElem.1 hu
  have hql : q / 5 < xs.length := by
    rw [Nat.div_lt_iff_lt_mul (by omega), ← h.1]
    exact hq
  have hc := h.2 (q / 5) _ (List.getElem?_eq_getElem hql)
  refine Kd.K_one k72 hc _ ?_
  rw [List.mem_iff_getElem?]
  refine ⟨q % 5, ?_⟩
  rw [List.getElem?_take, if_pos (Nat.mod_lt _ (by omega)), List.getElem?_drop, Nat.mul_comm, Nat.div_add_mod, List.getElem?_eq_getElem hq]
/-- append(x[:n:n], ys...), as one step of a region. -/
theorem step_append_clip {ops : Array Oper} {o : Oper} {a : Act} {w : World} {K : Act → World → Prop} {Q : Exit → Act → World → Prop} {E : Prop} (hgd : o.guard = none) (s x : Operand)
    (hop : o.op = Op.call { callee := Callee.builtin Builtin.append, args := #[s, x], argTypes := #[47, 47] })
    (g : Nat) (xs ys : List S72) (A : Option Addr) (c : Nat) (hs : a.eval s = .slice (some ⟨g, 0, none⟩) xs.length xs.length) (hx : a.eval x = .slice A ys.length c)
    (hX : Kd.C k72 w (some ⟨g, 0, none⟩) xs.length xs) (hT : ∃ cells, w.heap[g]? = some (.cells cells 72 (0, 0))) (hY : Kd.C k72 w A ys.length ys) (hl : xs.length + ys.length ≤ 1000000)
    (h : ∀ A' c' w', ReadsP w' (.slice A' (xs.length + ys.length) c') (xs ++ ys) → Below w.heap.size w w' → K (a.put o.dst (.slice A' (xs.length + ys.length) c')) w') :
    if Region.wanted o (yielded ops a.tmps) = true then Oper.wp Tryz.prog o a w K Q else E := by
  have hw : Region.wanted o (yielded ops a.tmps) = true := by simp [Region.wanted, hgd]
  obtain ⟨i0, hi, hz0, hz1, hz2⟩ := info_parts infoI
  obtain ⟨olds, hor, hoc⟩ := ReadsRow.inner_ hX
  cases hys : ys with
  | nil =>
    subst hys
    rw [if_pos hw]
    have hrun : (Builtin.append_ #[47, 47] o.type #[.slice (some ⟨g, 0, none⟩) xs.length xs.length, .slice A 0 c]).run Tryz.prog w = .ok (.slice (some ⟨g, 0, none⟩) xs.length xs.length) w := by
      have hl0 : ∀ ad : Addr, (loadCells ad 0).run Tryz.prog w = .ok #[] w := fun ad => by simp [loadCells, loadCellsFrom]
      cases A <;> simp [Builtin.append_, run_underlying Tryz.underlying47, sizeOf, typeInfo, hi, Builtin.lenOf, Builtin.firstCells, storeCells, hl0]
    have hk := h (some ⟨g, 0, none⟩) xs.length w ⟨some ⟨g, 0, none⟩, xs.length, by simp, by simp, by simpa using hX, fun ad ha => by cases ha; exact hT⟩ (Below.refl _ _)
    unfold Oper.wp
    simp [execOp, hop, resolve, invoke, builtin, hs, hx, hrun, Result.andThen]
    have hk2 : K (a.put o.dst (.slice (some ⟨g, 0, none⟩) xs.length xs.length)) w := by simpa using hk
    exact hk2
  | cons y ys' =>
    have hm : 0 < ys.length := by rw [hys]; simp
    obtain ⟨ad, rfl, _⟩ := hY.2.2 hm
    obtain ⟨news, hnr, hnc⟩ := ReadsRow.inner_ hY
    refine step_append_grows hgd s x _ hop 72 i0 _ 5 48 Tryz.underlying47 hi hz0 hz1 hz2 rfl (by omega) (some ⟨g, 0, none⟩) xs.length xs.length olds hs (fun e => by cases e) hor.1 (fun b e => by cases e; exact hoc) ad ys.length c news hx hnr.1 hnc (reps_cells hnr) (by omega) (by unfold maxLen; omega) (by omega) ?_
    intro v' w' hown hgr
    obtain ⟨A', c', rfl⟩ := own_slice hown
    have hb : Below w.heap.size w w' := (Below.refl _ _).grown hgr (Nat.le_refl _) (by intro k hk; cases hk)
    refine h A' c' w' ⟨A', c', by simp, by rw [List.length_append]; exact own_le hown, ?_, fun ad ha => ?_⟩ hb
    rotate_left
    · subst ha
      rcases hown.2 with ⟨e, _⟩ | ⟨g', cap, cur, e, _, hh, _⟩
      · cases e
      · injection e with e
        injection e with e
        subst e
        exact ⟨cur, hh⟩
    have hr : Reps (Kd.K k72 w') 5 (xs ++ ys) (olds ++ news) := (reps_app hor hnr).imp_ fun p c hp => Kd.K_below _ hb hp
    obtain ⟨A2, c2, e, hrow⟩ := own_reads_row hown hr (by simp)
    injection e with e1 _ e2
    subst e1
    rw [List.length_append]
    exact hrow

theorem types_ne : ∀ q, q ∈ 72 :: (k72).E → q ≠ 47 := by
  intro q hq
  simp [k72, Kd.iso, Kd.pair, Kd.int, Kd.string, Kd.scalar] at hq
  subst hq
  decide
theorem R_put {w : World} {base : Nat} {ok : Nat → Prop} {v : Value} {p : List S72} (h : Kd.R k72 72 w base ok v p) {g : Nat} {cs : Array Value} (hg : w.heap[g]? = some (.cells cs 47 (0, 0))) (j : Nat) (u : Value) : Kd.R k72 72 (w.setCell ⟨g, j, none⟩ u) base ok v p :=
  Kd.R_mono (Kd.R_step (Kd.R_types h hg types_ne) (fun k hk _ => Below.heap_setCell w ⟨g, j, none⟩ u k hk.2)) (fun _ hk => hk.1)
/-- A row of programs that is being made: all read, the first ones the call's own. -/
def PRow (w : World) (base h : Nat) (ps : List (List S72)) (i : Nat) : Prop :=
  ∃ (xs : List Value) (f : Nat → Nat), base ≤ h ∧ w.heap[h]? = some (.cells xs.toArray 47 (0, 0)) ∧ xs.length = ps.length ∧ (∀ j (hj : j < ps.length), ∃ u, xs[j]? = some u ∧ ReadsP w u ps[j]) ∧ ∀ j (hj : j < ps.length), j < i → ∃ u, xs[j]? = some u ∧ Kd.R k72 72 w base (fun k => f k = j) u ps[j]
theorem PRow.below {w w' : World} {base h i : Nat} {ps : List (List S72)} (k : PRow w base h ps i) (hb : Below w.heap.size w w') : PRow w' base h ps i := by
  obtain ⟨xs, f, h1, h2, h3, h4, h5⟩ := k
  exact ⟨xs, f, h1, (hb.block _ (blk_lt h2)).trans h2, h3, fun j hj => (h4 j hj).imp fun u hu => ⟨hu.1, hu.2.below hb⟩, fun j hj hi => (h5 j hj hi).imp fun u hu => ⟨hu.1, Kd.R_below hu.2 hb⟩⟩
/-- An element is written. -/
theorem PRow.put {w : World} {base h i : Nat} {ps : List (List S72)} (k : PRow w base h ps i) (j : Nat) (hj : j < ps.length) {u : Value} {p : List S72} (hu : ReadsP w u p) : PRow (w.setCell ⟨h, j, none⟩ u) base h (ps.set j p) (min i j) := by
  obtain ⟨xs, f, h1, h2, h3, h4, h5⟩ := k
  refine ⟨xs.set j u, f, h1, (blk_set h2 j u).trans (by simp), by simp [h3], fun a ha => ?_, fun a ha hi => ?_⟩
  · rw [List.length_set] at ha
    by_cases e : a = j
    · subst e
      exact ⟨u, by rw [List.getElem?_set_self (by omega)], by rw [List.getElem_set_self]; exact hu.set h2 _ _⟩
    · obtain ⟨v, hv, hr⟩ := h4 a ha
      exact ⟨v, by rw [List.getElem?_set_ne (by omega)]; exact hv, by rw [List.getElem_set_ne (by omega)]; exact hr.set h2 _ _⟩
  · rw [List.length_set] at ha
    obtain ⟨v, hv, hr⟩ := h5 a ha (by omega)
    exact ⟨v, by rw [List.getElem?_set_ne (by omega)]; exact hv, by rw [List.getElem_set_ne (by omega)]; exact R_put hr h2 _ _⟩
/-- An element of the call's own is written behind the others of its own. -/
theorem PRow.own {w0 w : World} {base h i : Nat} {ps : List (List S72)} (k0 : PRow w0 base h ps i) (hb : Below w0.heap.size w0 w) (hbase : base ≤ w0.heap.size) (hi : i < ps.length) {u : Value} {p : List S72} (hu : Kd.R k72 72 w w0.heap.size (fun _ => True) u p) : PRow (w.setCell ⟨h, i, none⟩ u) base h (ps.set i p) (i + 1) := by
  obtain ⟨xs, f, h1, h2, h3, h4, h5⟩ := k0
  have g2 := (hb.block _ (blk_lt h2)).trans h2
  refine ⟨xs.set i u, fun k => if k < w0.heap.size then f k else i, h1, (blk_set g2 i u).trans (by simp), by simp [h3], fun a ha => ?_, fun a ha hi2 => ?_⟩
  · rw [List.length_set] at ha
    by_cases e : a = i
    · subst e
      exact ⟨u, by rw [List.getElem?_set_self (by omega)], by rw [List.getElem_set_self]; exact (ReadsP.of_R hu).set g2 _ _⟩
    · obtain ⟨v, hv, hr⟩ := h4 a ha
      exact ⟨v, by rw [List.getElem?_set_ne (by omega)]; exact hv, by rw [List.getElem_set_ne (by omega)]; exact (hr.below hb).set g2 _ _⟩
  · rw [List.length_set] at ha
    by_cases e : a = i
    · subst e
      refine ⟨u, by rw [List.getElem?_set_self (by omega)], ?_⟩
      rw [List.getElem_set_self]
      exact R_put (Kd.R_mono (Kd.R_lower (Kd.R_bound hu) hbase) (fun k hk => if_neg (by have := hk.2.1; omega))) g2 _ _
    · obtain ⟨v, hv, hr⟩ := h5 a ha (by omega)
      refine ⟨v, by rw [List.getElem?_set_ne (by omega)]; exact hv, ?_⟩
      rw [List.getElem_set_ne (by omega)]
      exact R_put (Kd.R_below (Kd.R_mono (Kd.R_bound hr) (fun k hk => (if_pos hk.2.2.1).trans hk.1)) hb) g2 _ _
/-- The row as what is read. -/
theorem PRow.reads {w : World} {base h i : Nat} {ps : List (List S72)} (k : PRow w base h ps i) (hl : ps.length ≤ 1000000) : Kd.C (Kd.slice 72 k72) w (some ⟨h, 0, none⟩) ps.length ps := by
  obtain ⟨xs, f, h1, h2, h3, h4, h5⟩ := k
  refine ⟨rfl, by omega, fun _ => ⟨_, rfl, fun j p hp => ?_⟩⟩
  have hj := (List.getElem?_eq_some_iff.1 hp).1
  obtain ⟨u, hu, A, c, rfl, hc, hC, _⟩ := h4 j hj
  have ep := (List.getElem?_eq_some_iff.1 hp).2
  rw [ep] at hc hC hu
  refine ⟨[.slice A p.length c], rfl, ⟨A, c, rfl, hc, hC⟩, fun i u hu2 => ?_⟩
  match i, hu2 with
  | 0, hu2 =>
    simp at hu2
    subst hu2
    rw [add_plain, blk_cell h2]
    simpa [Kd.slice] using hu
/-- The row as one's own, no two elements in one block. -/
theorem PRow.owned {w : World} {base h : Nat} {ps : List (List S72)} (k : PRow w base h ps ps.length) (hl : ps.length ≤ 1000000) : Kd.S (Kd.slice 72 k72) 47 w base (fun _ => True) (.slice (some ⟨h, 0, none⟩) ps.length ps.length) ps := by
  obtain ⟨xs, f, h1, h2, h3, h4, h5⟩ := k
  refine ⟨f, fun _ _ => trivial, xs, ⟨by simp [Kd.tag, Kd.slice, h3], .inr ⟨h, ps.length, xs.toArray, by simp, h1, h2, by simp, by unfold maxLen; omega, by simp [Kd.tag, Kd.slice, h3], by simp [Kd.tag, Kd.slice, ← h3]⟩⟩, by simp [Kd.tag, Kd.slice, h3], fun j p hp => ?_⟩
  obtain ⟨hp1, hp2⟩ : ps[j]? = some p.1 ∧ j = p.2 := by
    rw [List.getElem?_zipIdx] at hp
    obtain ⟨q, hq, e⟩ := Option.map_eq_some_iff.1 hp
    subst e
    exact ⟨hq, by simp⟩
  have hj := (List.getElem?_eq_some_iff.1 hp1).1
  have ep := (List.getElem?_eq_some_iff.1 hp1).2
  obtain ⟨u, hu, hr⟩ := h5 j hj hj
  rw [ep] at hr
  have hx := (List.getElem?_eq_some_iff.1 hu)
  have hcs : (xs.drop (j * 1)).take 1 = [u] := by
    rw [Nat.mul_one, List.drop_eq_getElem_cons hx.1, hx.2]; rfl
  show Kd.M (Kd.slice 72 k72) w base _ p.1 ((xs.drop (j * 1)).take 1)
  rw [hcs]
  refine ⟨u, rfl, Kd.R_mono (Kd.R_types hr h2 types_ne) fun b hb => ⟨⟨trivial, fun e => ?_⟩, hp2 ▸ hb.1⟩⟩
  simp [Value.ownBlock] at e
  exact hb.2 e
end Go.Proofs.YtocoamgbpoommaaGreatDoor.C
end
section
/- The contracts of code.integer, and of the functions that choose by closures: code.Decode, code.Code. -/
namespace Go.Proofs.YtocoamgbpoommaaGreatDoor.C
open Go.RowKit Go.Proofs.YtocoamgbpoommaaGreatDoorW.PrintWords Go.Proofs.YtocoamgbpoommaaGreatDoorW.PrintLast Go.Proofs.YtocoamgbpoommaaGreatDoorW.PrintMore
set_option linter.unusedVariables false
set_option linter.unusedSimpArgs false

/-! ### code.integer -/
def integerV (l : List UInt8) : Int × Bool :=
  match Lib.atoiAll l with
  | .ok v => (v, Lib.itoa v == l)
  | .range => (Lib.atoiSat l, false)
  | _ => (0, false)
def code_integer.f (a0 : ByteArray) : Option (Int × Bool) := if a0.size ≤ 281474976710656 then some (integerV a0.data.toList) else none

theorem atoiAll_range {l : List UInt8} {v : Int} (h : Lib.atoiAll l = .ok v) : -9223372036854775808 ≤ v ∧ v ≤ 9223372036854775807 := by
  unfold Lib.atoiAll at h
  split at h
  · cases h
  · dsimp only at h
    split at h
    · cases h
    · cases h
    · split at h
      · cases h
      · split at h
        · cases h
        · injection h with h
          subst h
          split <;> omega

theorem atoi_ok (s : ByteArray) (hmax : s.size ≤ 9223372036854775806) (v : Int) (h : Lib.atoiAll s.data.toList = .ok v) (w : World) :
    Calls Tryz.prog 112 #[.string s] w fun e w' => e = .returned (.tuple #[.int .i64 v, .nilIface]) ∧ Below w.heap.size w w' := by
  refine (Tryz.strconv_Atoi_ok s hmax v h w).mono ?_
  rintro e w1 ⟨rfl, hw⟩
  refine ⟨rfl, ?_⟩
  rcases hw with rfl | ⟨t, rfl⟩
  · exact Below.refl _ _
  · exact Lib.bytesWorld_below _ _ _

set_option maxHeartbeats 1000000 in
set_option maxRecDepth 100000 in
theorem code_integer.calls (a0 : ByteArray) (r1 : Int) (r2 : Bool) (w : World) (hL : LaidW w) (h : code_integer.f a0 = some (r1, r2)) :
    Calls Tryz.prog 90 #[.string a0] w fun e w' => e = .returned (.tuple #[.int .i64 r1, .bool r2]) ∧ Below w.heap.size w w' := by
  unfold code_integer.f at h
  split at h
  case isFalse => cases h
  case isTrue hs =>
  have h := Option.some.inj h
  unfold integerV at h
  cases hA : Lib.atoiAll a0.data.toList with
  | ok v =>
    rw [hA] at h
    simp only [Prod.mk.injEq] at h
    obtain ⟨rfl, rfl⟩ := h
    have HA := Aside0.mk hA
    have hlo : Aside0 (-9223372036854775808 ≤ v ∧ v ≤ 9223372036854775807) := ⟨atoiAll_range hA⟩
    clear hA
    have HL := Aside0.mk hL
    clear hL
    have hfin : (Lib.itoa v == a0.toList) = (Lib.itoa v == a0.data.toList) := by rw [ByteArray.toList_eq]
    have HF := Aside0.mk hfin
    clear hfin
    have hI : ∀ W : World, LaidW W → Calls Tryz.prog 113 #[.int .i64 v] W fun e w' => e = .returned (.string ⟨(Lib.itoa v).toArray⟩) ∧ Below W.heap.size W w' := fun W hW =>
      strconv_Itoa.calls v _ W hW (by unfold strconv_Itoa.f; rw [if_pos hlo.out])
    have HI := Aside0.mk hI
    clear hI
    go_enter Tryz.func90, Tryz.ntmps90
    go_wp2_with (go_at_call 112; refine (atoi_ok a0 (by omega) v HA.out _).mono ?_; rintro e w1 ⟨rfl, hb⟩; have HB := Aside0.mk hb; clear hb)
    refine (HI.out _ (LaidW.below HL.out HB.out)).mono ?_
    rintro e w2 ⟨rfl, hb2⟩
    have HB2 := Aside0.mk hb2
    clear hb2
    go_wp2
    go_ret2
    exact ⟨by show Ending.returned (.tuple #[.int .i64 v, .bool (Lib.itoa v == a0.toList)]) = _; rw [HF.out], below_step HB.out HB2.out⟩
  | range =>
    rw [hA] at h
    simp only [Prod.mk.injEq] at h
    obtain ⟨rfl, rfl⟩ := h
    obtain ⟨tp, p, hv⟩ := hL.rg
    have HV := Aside0.mk hv
    have HA := Aside0.mk hA
    clear hv hA
    go_enter Tryz.func90, Tryz.ntmps90
    go_wp2_with (go_at_call 112; refine (Tryz.strconv_Atoi_range a0 hs HA.out _ _ HV.out (Or.inr ⟨tp, p, rfl⟩)).mono ?_; rintro e w1 ⟨N, rfl, hN, hc, hb⟩)
    go_ret2
    exact ⟨rfl, ‹Below _ _ _›⟩
  | _ =>
    rw [hA] at h
    simp only [Prod.mk.injEq] at h
    obtain ⟨rfl, rfl⟩ := h
    obtain ⟨tp, p, hv⟩ := hL.sy
    have HV := Aside0.mk hv
    have HA := Aside0.mk hA
    clear hv hA
    go_enter Tryz.func90, Tryz.ntmps90
    go_wp2_with (go_at_call 112; refine (Tryz.strconv_Atoi_syntax a0 hs (fun v e => by rw [HA.out] at e; cases e) (fun e => by rw [HA.out] at e; cases e) _ _ HV.out (Or.inr ⟨tp, p, rfl⟩)).mono ?_; rintro e w1 ⟨N, rfl, hN, hc, hb⟩)
    go_ret2
    exact ⟨rfl, ‹Below _ _ _›⟩
end Go.Proofs.YtocoamgbpoommaaGreatDoor.C
end
section
namespace Go.Proofs.YtocoamgbpoommaaGreatDoor.C
open Go.RowKit Go.Proofs.YtocoamgbpoommaaGreatDoorW.PrintWords Go.Proofs.YtocoamgbpoommaaGreatDoorW.PrintLast Go.Proofs.YtocoamgbpoommaaGreatDoorW.PrintMore
attribute [local go_sem] max2_int min2_int max_two min_two max_three min_three max_four min_four
set_option linter.unusedVariables false
set_option linter.unusedSimpArgs false

/-! ### code_names: function 89 -/
def code_names.f  : Option (List ByteArray) := some (([(⟨#[115, 101, 116]⟩ : ByteArray), (⟨#[109, 111, 118, 101]⟩ : ByteArray), (⟨#[99, 111, 110, 115]⟩ : ByteArray), (⟨#[104, 101, 97, 100]⟩ : ByteArray), (⟨#[116, 97, 105, 108]⟩ : ByteArray), (⟨#[106, 117, 109, 112]⟩ : ByteArray)] : List ByteArray))
set_option maxHeartbeats 8000000 in
set_option maxRecDepth 100000 in
theorem code_names.calls  (r : List ByteArray) (w : World) (h : code_names.f  = some r) :
  Calls Tryz.prog 89 #[] w fun e w' => ∃ v0_ : Value, e = .returned (v0_) ∧ Kd.R Kd.string 9 w' w.heap.size (fun _ => True) v0_ r ∧ Below w.heap.size w w' := by
 have HB := Aside0.mk (Below.refl w.heap.size w)
 have H : (some (([(⟨#[115, 101, 116]⟩ : ByteArray), (⟨#[109, 111, 118, 101]⟩ : ByteArray), (⟨#[99, 111, 110, 115]⟩ : ByteArray), (⟨#[104, 101, 97, 100]⟩ : ByteArray), (⟨#[116, 97, 105, 108]⟩ : ByteArray), (⟨#[106, 117, 109, 112]⟩ : ByteArray)] : List ByteArray))) = some r := h
 clear h
 obtain ⟨y1, hy1⟩ : ∃ y_ : List ByteArray, y_ = (([(⟨#[115, 101, 116]⟩ : ByteArray), (⟨#[109, 111, 118, 101]⟩ : ByteArray), (⟨#[99, 111, 110, 115]⟩ : ByteArray), (⟨#[104, 101, 97, 100]⟩ : ByteArray), (⟨#[116, 97, 105, 108]⟩ : ByteArray), (⟨#[106, 117, 109, 112]⟩ : ByteArray)] : List ByteArray)) := ⟨_, rfl⟩
 replace H : (some y1) = some r := by first | (rw [hy1]; with_reducible exact H) | (have H2_ := (Option.bind_some _ _).symm.trans H; rw [hy1]; with_reducible exact H2_) | (have H2_ := (Option.bind_some _ _).symm.trans H; with_reducible exact H2_) | with_reducible exact H | (rw [hy1]; exact H) | exact H
 have Ny1 := Aside0.mk hy1
 clear hy1
 obtain rfl := Option.some.inj H
 go_enter Tryz.func89, Tryz.ntmps89
 go_wp2_with (first | ((with_reducible refine gate_dst (N := 1) rfl ?_); refine Kd.R_lit Kd.string _ 9 ?hg (N := 1) ?hd (xs := ([(⟨#[115, 101, 116]⟩ : ByteArray), (⟨#[109, 111, 118, 101]⟩ : ByteArray), (⟨#[99, 111, 110, 115]⟩ : ByteArray), (⟨#[104, 101, 97, 100]⟩ : ByteArray), (⟨#[116, 97, 105, 108]⟩ : ByteArray), (⟨#[106, 117, 109, 112]⟩ : ByteArray)] : List ByteArray)) (inner := [.string (⟨#[115, 101, 116]⟩ : ByteArray), .string (⟨#[109, 111, 118, 101]⟩ : ByteArray), .string (⟨#[99, 111, 110, 115]⟩ : ByteArray), .string (⟨#[104, 101, 97, 100]⟩ : ByteArray), .string (⟨#[116, 97, 105, 108]⟩ : ByteArray), .string (⟨#[106, 117, 109, 112]⟩ : ByteArray)]) (ok := fun _ => True) (okp := fun _ => True) ?hr ?hp (fun _ hk => hk) trivial (Below.refl _ _) (Nat.le_refl _) (by simp) ?_; (case hd => rfl); (case hg => rfl); (case hr => first | (go_simp; done) | (go_simp; rfl)); (case hp => exact (Reps.one (show Kd.M Kd.string _ _ _ (⟨#[115, 101, 116]⟩ : ByteArray) [.string (⟨#[115, 101, 116]⟩ : ByteArray)] from rfl) (Reps.one (show Kd.M Kd.string _ _ _ (⟨#[109, 111, 118, 101]⟩ : ByteArray) [.string (⟨#[109, 111, 118, 101]⟩ : ByteArray)] from rfl) (Reps.one (show Kd.M Kd.string _ _ _ (⟨#[99, 111, 110, 115]⟩ : ByteArray) [.string (⟨#[99, 111, 110, 115]⟩ : ByteArray)] from rfl) (Reps.one (show Kd.M Kd.string _ _ _ (⟨#[104, 101, 97, 100]⟩ : ByteArray) [.string (⟨#[104, 101, 97, 100]⟩ : ByteArray)] from rfl) (Reps.one (show Kd.M Kd.string _ _ _ (⟨#[116, 97, 105, 108]⟩ : ByteArray) [.string (⟨#[116, 97, 105, 108]⟩ : ByteArray)] from rfl) (Reps.one (show Kd.M Kd.string _ _ _ (⟨#[106, 117, 109, 112]⟩ : ByteArray) [.string (⟨#[106, 117, 109, 112]⟩ : ByteArray)] from rfl) (Reps.none _ _)))))))); intro v2 w1 ho2 hb hg_ hnew_; clear hg_ hnew_; (first | rw [← Ny1.out] at ho2 | (simp only [Int.reduceToNat] at ho2; rw [← Ny1.out] at ho2)); have n0_ := Aside0.mk (Kd.R_lower ho2 (below_size (by repeat (first | (with_reducible first | exact HB.out | apply below_alloc | apply pw_below_drewN | apply below_drew1) | exact HB.out)))); have n1_ := Aside0.mk (below_step (by repeat (first | (with_reducible first | exact HB.out | apply below_alloc | apply pw_below_drewN | apply below_drew1) | exact HB.out)) hb); clear HB; have HO3 := n0_; have HB := n1_; clear n0_ n1_; clear hb ho2))
 go_ret
 exact ⟨_, by first | rfl | (simp [errW_none, errW_some] <;> rfl) | (simp [*, errW_none, errW_some] <;> rfl), by (with_reducible repeat (first | apply Kd.R_alloc | apply Kd.R_drewN | apply Kd.R_drew)); exact HO3.out, by repeat (first | (with_reducible first | exact HB.out | apply below_alloc | apply pw_below_drewN | apply below_drew1) | exact HB.out)⟩

end Go.Proofs.YtocoamgbpoommaaGreatDoor.C
end
section
/- The contracts of code.each, code.instr and code.Parse. -/
namespace Go.Proofs.YtocoamgbpoommaaGreatDoor.C
open Go.RowKit Go.Proofs.YtocoamgbpoommaaGreatDoorW.PrintWords Go.Proofs.YtocoamgbpoommaaGreatDoorW.PrintLast Go.Proofs.YtocoamgbpoommaaGreatDoorW.PrintMore
set_option linter.unusedVariables false
set_option linter.unusedSimpArgs false

def eachInt : List ByteArray → List Int → Option (Option (List Int))
  | [], p => some (some p)
  | s :: l, p => (code_integer.f s).bind fun r => if r.2 = true then (if p.length < 17592186040000 then eachInt l (p ++ [r.1]) else none) else some none

theorem drop_row (l : List ByteArray) (i : Nat) (h : i < l.length) : l.drop i = rdOf ByteArray.empty l (i : Int) :: l.drop (i + 1) := by
  rw [List.drop_eq_getElem_cons h]
  simp [rdOf, h]

set_option maxHeartbeats 2000000 in
set_option maxRecDepth 100000 in
theorem eachInt_calls (A0 : Option Addr) (c0 : Nat) (l : List ByteArray) (q : Option (List Int)) (w : World) (hL : LaidW w) (hr0 : Kd.C Kd.string w A0 l.length l) (hc0 : l.length ≤ c0) (h : eachInt l [] = some q) :
    Calls Tryz.prog 91 #[.slice A0 l.length c0, .func (.func 90) #[] #[]] w fun e w' => ∃ v0_ : Value, e = .returned (.tuple #[v0_, .bool q.isSome]) ∧ Kd.R (Kd.int .i64) 3 w' w.heap.size (fun _ => True) v0_ (q.getD []) ∧ Below w.heap.size w w' := by
  have HLW := Aside0.mk hL
  have HR0 := Aside0.mk hr0
  have hlm : l.length ≤ 9223372036854775807 := hr0.2.1
  have HQ : Aside0 (eachInt (l.drop 0) [] = some q) := ⟨h⟩
  clear hr0 hL h hc0
  go_enter Tryz.func91, Tryz.ntmps91
  go_wp2
  go_loopg [6, 13] l.length (fun kq v6 v13 wr => ∃ (i : Nat) (p : List Int), v13 = .int .i64 i ∧ Aside0 (i ≤ l.length ∧ kq + i = l.length) ∧ Aside0 (eachInt (l.drop i) p = some q) ∧ Aside0 (Kd.R (Kd.int .i64) 3 wr w.heap.size (fun _ => True) v6 p) ∧ Aside0 (Below w.heap.size w wr))
  case atStart => exact ⟨0, [], rfl, ⟨Nat.zero_le _, rfl⟩, HQ, ⟨Kd.R_nil _ _ _ _ _⟩, ⟨Below.refl _ _⟩⟩
  case round =>
    clear HQ
    obtain ⟨i, p, rfl, HI, HA, HR, HB⟩ := hrel
    have H := HA.out
    clear HA
    by_cases hlt : (i : Int) < (l.length : Int)
    · rw [drop_row l i (by omega), eachInt] at H
      obtain ⟨⟨n, ok⟩, hn, H⟩ := Option.bind_eq_some_iff.1 H
      dsimp only at H
      have HN := Aside0.mk H
      have HV := Aside0.mk hn
      clear H hn
      cases gk with
      | zero => exact absurd HI.out.2 (by omega)
      | succ k2 =>
      obtain ⟨ad, eA, hx0⟩ := Kd.at_string HR0.out (i : Int) (by omega) hlt
      subst eA
      rw [Int.toNat_natCast] at hx0
      replace hx0 := (HB.out.cell (World.block_lt_of_cell? w _ hx0)).trans hx0
      generalize rdOf ByteArray.empty l (i : Int) = s at *
      go_wp2_with fail
      refine (code_integer.calls s n ok _ (HLW.out.below HB.out) HV.out).mono ?_
      rintro e w2 ⟨rfl, hb2⟩
      have HR2 := Aside0.mk (Kd.R_below HR.out hb2)
      have HB2 := Aside0.mk (below_step HB.out hb2)
      clear hb2 HR HB hx0
      cases ok with
      | false =>
        obtain rfl : q = none := by have := HN.out; simpa using this.symm
        clear HN
        go_wp2
        go_ret2
        exact ⟨_, rfl, Kd.R_nil _ _ _ _ _, HB2.out⟩
      | true =>
        by_cases hpl : p.length < 17592186040000
        · have HN3 : Aside0 (eachInt (l.drop (i + 1)) (p ++ [n]) = some q) := ⟨by have := HN.out; simpa [hpl] using this⟩
          have HPL := Aside0.mk hpl
          clear HN hpl
          go_wp2_with (at_builtin; refine Kd.R_append (Kd.int .i64) (w0 := w) w.heap.size rfl _ _ 128 3 (.int .i64 0) 8 rfl Tryz.underlying128 info3 rfl (by decide) (by omega) _ p n [.int .i64 n] (fun _ => True) (fun _ => False) rfl rfl rfl (fun _ hk => hk.elim) ?aF ?aO ?aB ?aS ?aL ?_)
          case aF => exact fun _ _ => trivial
          case aO => exact HR2.out
          case aB => exact HB2.out
          case aS => exact HB2.out.size
          case aL => have := HPL.out; omega
          intro v6 w6 ho6 hb6 hg6 hat6
          have HO6 := Aside0.mk ho6
          have HB6 := Aside0.mk hb6
          clear ho6 hb6 hg6 hat6 HPL HR2 HB2
          go_wp2
          go_roundg k2
          case measure => omega
          case rel => exact ⟨i + 1, _, by go_num, ⟨by have := HI.out; omega⟩, HN3, HO6, HB6⟩
        · exact absurd HN.out (by simp [hpl])
    · have hd : l.drop i = [] := List.drop_eq_nil_of_le (by omega)
      rw [hd, eachInt] at H
      obtain rfl := Option.some.inj H
      clear H
      have t1 : decide ((i : Int) < (l.length : Int)) = false := decide_eq_false hlt
      have t2 : decide (i < l.length) = false := decide_eq_false (by omega)
      clear hlt hd
      go_wp2
      go_ret2
      exact ⟨_, rfl, HR.out, HB.out⟩
end Go.Proofs.YtocoamgbpoommaaGreatDoor.C
end
