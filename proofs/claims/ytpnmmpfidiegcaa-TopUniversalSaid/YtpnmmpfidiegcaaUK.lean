/- Texts of this claim, together: what the functions return, and what they say in plain words. -/
import Derived.Test.YtpnmmpfidiegcaaUB
import Derived.Test.YtpnmmpfidiegcaaUE
import Derived.Maps.OwnOps
import Derived.Maps.RangeWalk
import Derived.Deep.RegionLaw
section
namespace Go.Proofs.Ytpnmmpfidiegcaa.C
open Go.Maps (Keyed string_keyed int_keyed keyOf_int_mk)
open Go.RowKit Go.Proofs.YtpnmmpfidiegcaaW.PrintWords Go.Proofs.YtpnmmpfidiegcaaW.PrintLast Go.Proofs.YtpnmmpfidiegcaaW.PrintMore
set_option linter.unusedVariables false
set_option linter.unusedSimpArgs false
abbrev Pr := List S52
abbrev Dm := DataW Unit
theorem lawS : Keyed Try.prog 9 := string_keyed Try.underlying9
theorem lawI : Keyed Try.prog 3 := int_keyed Try.underlying3
abbrev AtM (w : World) (b n : Nat) (D : Dm) : Prop := w.ownsMap Try.prog 9 (plainElem Try.prog 3) b n D
abbrev FrM (w : World) (b n : Nat) (D : Dm) : Prop := w.ownsMap Try.prog 3 (plainElem Try.prog 9) b n D
def IsA (B : Nat) (w : World) (aw bm bf c : Nat) (p : Pr) (D E : Dm) : Prop := ∃ v, w.heap[aw]? = some (.cells #[.map (some bm), .map (some bf), v] 71 (0, 0)) ∧ Kd.R k52 52 w B (fun _ => True) v p ∧ AtM w bm c D ∧ FrM w bf c E ∧ bm ≠ bf ∧ B ≤ aw ∧ B ≤ bm ∧ B ≤ bf ∧ p.length ≤ 1000
def BK (w w' : World) : Prop := ∀ (g : Nat) (cs : Array Value) (t : TypeId), t ≠ 52 → t ≠ 71 → w.heap[g]? = some (.cells cs t (0, 0)) → w'.heap[g]? = some (.cells cs t (0, 0))
theorem BK.refl (w : World) : BK w w := fun _ _ _ _ _ h => h
theorem BK.trans {a b c : World} (h : BK a b) (k : BK b c) : BK a c := fun g cs t h1 h2 e => k g cs t h1 h2 (h g cs t h1 h2 e)
theorem BK.below {w w' : World} (h : Below w.heap.size w w') : BK w w' := fun g cs t _ _ e => (h.block g (blk_lt e)).trans e
theorem BK.alloc (w : World) (o : Obj) : BK w (w.alloc o) := BK.below (below_alloc (Below.refl _ _) o)
theorem BK.drew (w : World) : BK w w.drew := fun _ _ _ _ _ h => h
theorem BK.set {w : World} {g t : Nat} {cs : Array Value} (hg : w.heap[g]? = some (.cells cs t (0, 0))) (ht : t = 52 ∨ t = 71) (i : Nat) (u : Value) : BK w (w.setCell ⟨g, i, none⟩ u) := by
  intro g' cs' t' h1 h2 h'
  refine blk_far h' (fun he => ?_) u
  subst he
  rw [hg] at h'
  injection h' with h'
  injection h' with _ e
  rcases ht with rfl | rfl
  · exact h1 e.symm
  · exact h2 e.symm
theorem BK.grown {w w' : World} {n size : Nat} {B : Nat} {v : Value} {xs : List Value} (h : w.grownBy w' v.ownBlock) (ho : w.ownsRow B 52 size v n xs) : BK w w' := by
  intro g cs t h1 h2 hg
  refine blk_grown hg h fun hk => ?_
  obtain ⟨cells, hc⟩ := own_typed ho g hk.symm
  rw [hg] at hc
  injection hc with hc
  injection hc with _ e
  exact h1 e
theorem BK.map {w w' : World} {P : Program} {k : TypeId} {R : Value → Option (Dm × List MemPlace)} {b n : Nat} {D : Dm} (h : w.ownsMap P k R b n D) (hg : w.grownBy w' (some b)) : BK w w' := by
  intro g cs t h1 h2 he
  refine blk_grown he hg fun hk => ?_
  obtain ⟨es, cl, hm, _⟩ := h
  injection hk with hk
  subst hk
  rw [he] at hm
  injection hm with hm
  cases hm
def Wrote (B : Nat) (w : World) (aw bm bf c : Nat) (p : Pr) (D E : Dm) (e : Ending) (w' : World) : Prop := e = .returned (.tuple #[]) ∧ IsA B w' aw bm bf c p D E ∧ BK w w' ∧ Below B w w'
theorem map_block {w : World} {P : Program} {k : TypeId} {R : Value → Option (Dm × List MemPlace)} {b n : Nat} {D : Dm} (h : w.ownsMap P k R b n D) {g t : Nat} {cs : Array Value} (hg : w.heap[g]? = some (.cells cs t (0, 0))) : b ≠ g := fun e => by
  obtain ⟨es, cl, hm, _⟩ := h
  subst e
  rw [hg] at hm
  injection hm with hm
  cases hm
theorem map_row {w : World} {P : Program} {k : TypeId} {R : Value → Option (Dm × List MemPlace)} {b n : Nat} {D : Dm} (h : w.ownsMap P k R b n D) {B e size m : Nat} {v : Value} {xs : List Value} (ho : w.ownsRow B e size v m xs) : some b ≠ v.ownBlock := fun hk => by
  obtain ⟨cells, hc⟩ := own_typed ho b hk.symm
  exact map_block h hc rfl
theorem aw_row {w : World} {aw : Nat} {cs : Array Value} (h1 : w.heap[aw]? = some (.cells cs 71 (0, 0))) {B size m : Nat} {v : Value} {xs : List Value} (ho : w.ownsRow B 52 size v m xs) : some aw ≠ v.ownBlock := fun hk => by
  obtain ⟨cells, hc⟩ := own_typed ho aw hk.symm
  rw [h1] at hc
  injection hc with hc
  injection hc with _ e
  exact absurd e (by decide)
theorem wrote_ins {B aw bm bf c : Nat} {p : Pr} {D E : Dm} {w w1 : World} {v v1 : Value} {x : S52} (h1 : w.heap[aw]? = some (.cells #[.map (some bm), .map (some bf), v] 71 (0, 0))) (h2 : Kd.R k52 52 w B (fun _ => True) v p)
    (h3 : AtM w bm c D) (h4 : FrM w bf c E) (h5 : bm ≠ bf) (h6 : B ≤ aw) (h7 : B ≤ bm) (h8 : B ≤ bf) (hl : p.length ≤ 900) (ho : Kd.R k52 52 w1 B (fun _ => True) v1 (p ++ [x])) (hb : Below B w w1) (hg : w.grownBy w1 v.ownBlock) :
    w1.cell? ⟨aw, 2, none⟩ = some v ∧ w1.frozen? ⟨aw, 2, none⟩ = false ∧ Wrote B w aw bm bf c (p ++ [x]) D E (.returned (.tuple #[])) (w1.setCell ⟨aw, 2, none⟩ v1) := by
  obtain ⟨inn, hown⟩ := Kd.R_own h2
  have h1' := blk_grown h1 hg (aw_row h1 hown)
  obtain ⟨inn1, hown1⟩ := Kd.R_own ho
  have hne1 := aw_row h1' hown1
  have k3 := (h3.kept hg (map_row h3 hown)).setCell (a := ⟨aw, 2, none⟩) (map_block h3 h1) v1
  have k4 := (h4.kept hg (map_row h4 hown)).setCell (a := ⟨aw, 2, none⟩) (map_block h4 h1) v1
  refine ⟨(blk_cell h1' 2).trans rfl, blk_frozen h1' 2, rfl, ⟨v1, (blk_set h1' 2 v1).trans rfl, ?_, k3, k4, h5, h6, h7, h8, by rw [List.length_append, List.length_singleton]; omega⟩, (BK.grown hg hown).trans (BK.set h1' (.inr rfl) 2 v1), hb.setCell (p := ⟨aw, 2, none⟩) h6 v1⟩
  exact Kd.R_mono (Kd.R_far (Kd.R_far1 ho rfl hne1) (p := ⟨aw, 2, none⟩) (fun k hk => hk.2) v1) (fun _ _ => trivial)
theorem bel_size {B : Nat} {w : World} {aw : Nat} {o : Obj} (h : w.heap[aw]? = some o) (hb : B ≤ aw) : B ≤ w.heap.size := by
  have := blk_lt h
  omega
set_option maxHeartbeats 2000000 in
theorem AHead_calls {B aw bm bf c : Nat} {p : Pr} {D E : Dm} {w : World} (h : IsA B w aw bm bf c p D E) (hl : p.length ≤ 900) (a b : Int) :
    Calls Try.prog 15 #[.pointer (some ⟨aw, 0, none⟩), .int .i64 a, .int .i64 b] w (Wrote B w aw bm bf c (p ++ [⟨3, a, b, 0, ⟨#[]⟩⟩]) D E) := by
  obtain ⟨v, h1, h2, h3, h4, h5, h6, h7, h8, h9⟩ := h
  have c2 := (blk_cell h1 2).trans rfl
  have HS := Aside0.mk (bel_size h1 h6)
  have H1 := Aside0.mk h1
  have H2 := Aside0.mk h2
  have H3 := Aside0.mk h3
  have H4 := Aside0.mk h4
  have H5 := Aside0.mk (show bm ≠ bf ∧ B ≤ aw ∧ B ≤ bm ∧ B ≤ bf from ⟨h5, h6, h7, h8⟩)
  have HLEN := Aside0.mk hl
  have HB := Aside0.mk (Below.refl B w)
  clear h1 h2 h3 h4 h5 h6 h7 h8 h9 hl
  go_enter Try.func15, Try.ntmps15
  go_wp2_with (first | ((with_reducible refine gate_builtin (b := .append) (xs := #[.tmp 10, .tmp 14]) rfl ?_); at_builtin; refine Kd.R_append k52 (w0 := w) B rfl (.tmp 10) (.tmp 14) 23 52 (.agg #[(.int .i64 0), (.int .i64 0), (.int .i64 0), (.int .i64 0), (.string ⟨#[]⟩)]) 48 rfl Try.underlying23 info52 rfl (by decide) (by omega) v p (⟨3, a, b, 0, ⟨#[]⟩⟩ : S52) [.int .i64 3, .int .i64 a, .int .i64 b, .int .i64 0, .string ⟨#[]⟩] (fun _ => True) (fun _ => False) rfl rfl ?aP (fun _ hk => hk.elim) ?aF ?aO ?aB ?aS ?aL ?_; (case aP => exact k52_mkM _ _ _ (⟨3, a, b, 0, ⟨#[]⟩⟩ : S52)); (case aF => exact fun _ _ => trivial); (case aO => exact H2.out); (case aB => exact HB.out); (case aS => exact HS.out); (case aL => have := HLEN.out; omega); intro v1 w1 ho hb hg hat; obtain ⟨A1, c1, e1⟩ := Kd.R_slice ho; subst e1; obtain ⟨d2, f2, hw⟩ := wrote_ins H1.out H2.out H3.out H4.out H5.out.1 H5.out.2.1 H5.out.2.2.1 H5.out.2.2.2 HLEN.out ho hb hg; have HW := Aside0.mk hw; clear ho hb hg hat hw))
  go_end0
  have hq := HW.out
  rw [List.length_append, List.length_singleton] at hq
  exact hq
set_option maxHeartbeats 2000000 in
theorem ATail_calls {B aw bm bf c : Nat} {p : Pr} {D E : Dm} {w : World} (h : IsA B w aw bm bf c p D E) (hl : p.length ≤ 900) (a b : Int) :
    Calls Try.prog 16 #[.pointer (some ⟨aw, 0, none⟩), .int .i64 a, .int .i64 b] w (Wrote B w aw bm bf c (p ++ [⟨4, a, b, 0, ⟨#[]⟩⟩]) D E) := by
  obtain ⟨v, h1, h2, h3, h4, h5, h6, h7, h8, h9⟩ := h
  have c2 := (blk_cell h1 2).trans rfl
  have HS := Aside0.mk (bel_size h1 h6)
  have H1 := Aside0.mk h1
  have H2 := Aside0.mk h2
  have H3 := Aside0.mk h3
  have H4 := Aside0.mk h4
  have H5 := Aside0.mk (show bm ≠ bf ∧ B ≤ aw ∧ B ≤ bm ∧ B ≤ bf from ⟨h5, h6, h7, h8⟩)
  have HLEN := Aside0.mk hl
  have HB := Aside0.mk (Below.refl B w)
  clear h1 h2 h3 h4 h5 h6 h7 h8 h9 hl
  go_enter Try.func16, Try.ntmps16
  go_wp2_with (first | ((with_reducible refine gate_builtin (b := .append) (xs := #[.tmp 10, .tmp 14]) rfl ?_); at_builtin; refine Kd.R_append k52 (w0 := w) B rfl (.tmp 10) (.tmp 14) 23 52 (.agg #[(.int .i64 0), (.int .i64 0), (.int .i64 0), (.int .i64 0), (.string ⟨#[]⟩)]) 48 rfl Try.underlying23 info52 rfl (by decide) (by omega) v p (⟨4, a, b, 0, ⟨#[]⟩⟩ : S52) [.int .i64 4, .int .i64 a, .int .i64 b, .int .i64 0, .string ⟨#[]⟩] (fun _ => True) (fun _ => False) rfl rfl ?aP (fun _ hk => hk.elim) ?aF ?aO ?aB ?aS ?aL ?_; (case aP => exact k52_mkM _ _ _ (⟨4, a, b, 0, ⟨#[]⟩⟩ : S52)); (case aF => exact fun _ _ => trivial); (case aO => exact H2.out); (case aB => exact HB.out); (case aS => exact HS.out); (case aL => have := HLEN.out; omega); intro v1 w1 ho hb hg hat; obtain ⟨A1, c1, e1⟩ := Kd.R_slice ho; subst e1; obtain ⟨d2, f2, hw⟩ := wrote_ins H1.out H2.out H3.out H4.out H5.out.1 H5.out.2.1 H5.out.2.2.1 H5.out.2.2.2 HLEN.out ho hb hg; have HW := Aside0.mk hw; clear ho hb hg hat hw))
  go_end0
  have hq := HW.out
  rw [List.length_append, List.length_singleton] at hq
  exact hq
set_option maxHeartbeats 2000000 in
theorem AMove_calls {B aw bm bf c : Nat} {p : Pr} {D E : Dm} {w : World} (h : IsA B w aw bm bf c p D E) (hl : p.length ≤ 900) (a b : Int) :
    Calls Try.prog 17 #[.pointer (some ⟨aw, 0, none⟩), .int .i64 a, .int .i64 b] w (Wrote B w aw bm bf c (p ++ [⟨1, a, b, 0, ⟨#[]⟩⟩]) D E) := by
  obtain ⟨v, h1, h2, h3, h4, h5, h6, h7, h8, h9⟩ := h
  have c2 := (blk_cell h1 2).trans rfl
  have HS := Aside0.mk (bel_size h1 h6)
  have H1 := Aside0.mk h1
  have H2 := Aside0.mk h2
  have H3 := Aside0.mk h3
  have H4 := Aside0.mk h4
  have H5 := Aside0.mk (show bm ≠ bf ∧ B ≤ aw ∧ B ≤ bm ∧ B ≤ bf from ⟨h5, h6, h7, h8⟩)
  have HLEN := Aside0.mk hl
  have HB := Aside0.mk (Below.refl B w)
  clear h1 h2 h3 h4 h5 h6 h7 h8 h9 hl
  go_enter Try.func17, Try.ntmps17
  go_wp2_with (first | ((with_reducible refine gate_builtin (b := .append) (xs := #[.tmp 10, .tmp 14]) rfl ?_); at_builtin; refine Kd.R_append k52 (w0 := w) B rfl (.tmp 10) (.tmp 14) 23 52 (.agg #[(.int .i64 0), (.int .i64 0), (.int .i64 0), (.int .i64 0), (.string ⟨#[]⟩)]) 48 rfl Try.underlying23 info52 rfl (by decide) (by omega) v p (⟨1, a, b, 0, ⟨#[]⟩⟩ : S52) [.int .i64 1, .int .i64 a, .int .i64 b, .int .i64 0, .string ⟨#[]⟩] (fun _ => True) (fun _ => False) rfl rfl ?aP (fun _ hk => hk.elim) ?aF ?aO ?aB ?aS ?aL ?_; (case aP => exact k52_mkM _ _ _ (⟨1, a, b, 0, ⟨#[]⟩⟩ : S52)); (case aF => exact fun _ _ => trivial); (case aO => exact H2.out); (case aB => exact HB.out); (case aS => exact HS.out); (case aL => have := HLEN.out; omega); intro v1 w1 ho hb hg hat; obtain ⟨A1, c1, e1⟩ := Kd.R_slice ho; subst e1; obtain ⟨d2, f2, hw⟩ := wrote_ins H1.out H2.out H3.out H4.out H5.out.1 H5.out.2.1 H5.out.2.2.1 H5.out.2.2.2 HLEN.out ho hb hg; have HW := Aside0.mk hw; clear ho hb hg hat hw))
  go_end0
  have hq := HW.out
  rw [List.length_append, List.length_singleton] at hq
  exact hq
set_option maxHeartbeats 2000000 in
theorem ACons_calls {B aw bm bf c : Nat} {p : Pr} {D E : Dm} {w : World} (h : IsA B w aw bm bf c p D E) (hl : p.length ≤ 900) (a b d : Int) :
    Calls Try.prog 18 #[.pointer (some ⟨aw, 0, none⟩), .int .i64 a, .int .i64 b, .int .i64 d] w (Wrote B w aw bm bf c (p ++ [⟨2, a, b, d, ⟨#[]⟩⟩]) D E) := by
  obtain ⟨v, h1, h2, h3, h4, h5, h6, h7, h8, h9⟩ := h
  have c2 := (blk_cell h1 2).trans rfl
  have HS := Aside0.mk (bel_size h1 h6)
  have H1 := Aside0.mk h1
  have H2 := Aside0.mk h2
  have H3 := Aside0.mk h3
  have H4 := Aside0.mk h4
  have H5 := Aside0.mk (show bm ≠ bf ∧ B ≤ aw ∧ B ≤ bm ∧ B ≤ bf from ⟨h5, h6, h7, h8⟩)
  have HLEN := Aside0.mk hl
  have HB := Aside0.mk (Below.refl B w)
  clear h1 h2 h3 h4 h5 h6 h7 h8 h9 hl
  go_enter Try.func18, Try.ntmps18
  go_wp2_with (first | ((with_reducible refine gate_builtin (b := .append) (xs := #[.tmp 12, .tmp 17]) rfl ?_); at_builtin; refine Kd.R_append k52 (w0 := w) B rfl (.tmp 12) (.tmp 17) 23 52 (.agg #[(.int .i64 0), (.int .i64 0), (.int .i64 0), (.int .i64 0), (.string ⟨#[]⟩)]) 48 rfl Try.underlying23 info52 rfl (by decide) (by omega) v p (⟨2, a, b, d, ⟨#[]⟩⟩ : S52) [.int .i64 2, .int .i64 a, .int .i64 b, .int .i64 d, .string ⟨#[]⟩] (fun _ => True) (fun _ => False) rfl rfl ?aP (fun _ hk => hk.elim) ?aF ?aO ?aB ?aS ?aL ?_; (case aP => exact k52_mkM _ _ _ (⟨2, a, b, d, ⟨#[]⟩⟩ : S52)); (case aF => exact fun _ _ => trivial); (case aO => exact H2.out); (case aB => exact HB.out); (case aS => exact HS.out); (case aL => have := HLEN.out; omega); intro v1 w1 ho hb hg hat; obtain ⟨A1, c1, e1⟩ := Kd.R_slice ho; subst e1; obtain ⟨d2, f2, hw⟩ := wrote_ins H1.out H2.out H3.out H4.out H5.out.1 H5.out.2.1 H5.out.2.2.1 H5.out.2.2.2 HLEN.out ho hb hg; have HW := Aside0.mk hw; clear ho hb hg hat hw))
  go_end0
  have hq := HW.out
  rw [List.length_append, List.length_singleton] at hq
  exact hq
set_option maxHeartbeats 2000000 in
theorem ASet_calls {B aw bm bf c : Nat} {p : Pr} {D E : Dm} {w : World} (h : IsA B w aw bm bf c p D E) (hl : p.length ≤ 900) (a : Int) (t : ByteArray) :
    Calls Try.prog 19 #[.pointer (some ⟨aw, 0, none⟩), .int .i64 a, .string t] w (Wrote B w aw bm bf c (p ++ [⟨0, a, 0, 0, t⟩]) D E) := by
  obtain ⟨v, h1, h2, h3, h4, h5, h6, h7, h8, h9⟩ := h
  have c2 := (blk_cell h1 2).trans rfl
  have HS := Aside0.mk (bel_size h1 h6)
  have H1 := Aside0.mk h1
  have H2 := Aside0.mk h2
  have H3 := Aside0.mk h3
  have H4 := Aside0.mk h4
  have H5 := Aside0.mk (show bm ≠ bf ∧ B ≤ aw ∧ B ≤ bm ∧ B ≤ bf from ⟨h5, h6, h7, h8⟩)
  have HLEN := Aside0.mk hl
  have HB := Aside0.mk (Below.refl B w)
  clear h1 h2 h3 h4 h5 h6 h7 h8 h9 hl
  go_enter Try.func19, Try.ntmps19
  go_wp2_with (first | ((with_reducible refine gate_builtin (b := .append) (xs := #[.tmp 10, .tmp 14]) rfl ?_); at_builtin; refine Kd.R_append k52 (w0 := w) B rfl (.tmp 10) (.tmp 14) 23 52 (.agg #[(.int .i64 0), (.int .i64 0), (.int .i64 0), (.int .i64 0), (.string ⟨#[]⟩)]) 48 rfl Try.underlying23 info52 rfl (by decide) (by omega) v p (⟨0, a, 0, 0, t⟩ : S52) [.int .i64 0, .int .i64 a, .int .i64 0, .int .i64 0, .string t] (fun _ => True) (fun _ => False) rfl rfl ?aP (fun _ hk => hk.elim) ?aF ?aO ?aB ?aS ?aL ?_; (case aP => exact k52_mkM _ _ _ (⟨0, a, 0, 0, t⟩ : S52)); (case aF => exact fun _ _ => trivial); (case aO => exact H2.out); (case aB => exact HB.out); (case aS => exact HS.out); (case aL => have := HLEN.out; omega); intro v1 w1 ho hb hg hat; obtain ⟨A1, c1, e1⟩ := Kd.R_slice ho; subst e1; obtain ⟨d2, f2, hw⟩ := wrote_ins H1.out H2.out H3.out H4.out H5.out.1 H5.out.2.1 H5.out.2.2.1 H5.out.2.2.2 HLEN.out ho hb hg; have HW := Aside0.mk hw; clear ho hb hg hat hw))
  go_end0
  have hq := HW.out
  rw [List.length_append, List.length_singleton] at hq
  exact hq
theorem row_map {B b n : Nat} {w w1 : World} {v : Value} {p : Pr} {P : Program} {k : TypeId} {R : Value → Option (Dm × List MemPlace)} {D : Dm} (h2 : Kd.R k52 52 w B (fun _ => True) v p) (h3 : w.ownsMap P k R b n D) (hg : w.grownBy w1 (some b)) : Kd.R k52 52 w1 B (fun _ => True) v p :=
  Kd.R_mono (Kd.R_grown (Kd.R_bound h2) hg (fun k hk e => by
    obtain ⟨_, _, _, q, _, cells, hc⟩ := hk
    exact map_block h3 hc (Option.some.inj e).symm)) (fun _ _ => trivial)
theorem wf_i64 {n : Nat} (h : n ≤ 1000000) : (Lit.int .i64 (n : Int)).wf = true := WalkArith.wf_i64 (by omega)
theorem i64_elem {n : Nat} (h : n ≤ 1000000) : plainElem (H := Unit) Try.prog 3 (.int .i64 (n : Int)) = some (.lit (.int .i64 (n : Int)), []) := plainElem_int Try.underlying3 (wf_i64 h)
theorem key_i64 {n : Nat} (h : n ≤ 1000000) : keyOf Try.prog 3 (.int .i64 (n : Int)) = some (.int .i64 (n : Int)) := keyOf_int_mk Try.underlying3 (wf_i64 h)
theorem key_str {s : ByteArray} (h : s.size ≤ 1000000) : keyOf Try.prog 9 (.string s) = some (.string s.data.toList) := Go.WideMaps.keyOf_string_mk Try.underlying9 (by unfold maxLen; omega)
theorem str_elem {s : ByteArray} (h : s.size ≤ 1000000) : plainElem (H := Unit) Try.prog 9 (.string s) = some (.lit (.string s.data.toList), []) := plainElem_string Try.underlying9 (by unfold maxLen; omega)
set_option maxHeartbeats 2000000 in
theorem Name_calls {B aw bm bf c : Nat} {p : Pr} {D E : Dm} {w : World} (h : IsA B w aw bm bf c p D E) (hc : c ≤ 1000000) (nm : ByteArray) (hn : nm.size ≤ 1000000) (n : Nat) (hn2 : n ≤ 1000000) :
    Calls Try.prog 44 #[.pointer (some ⟨aw, 0, none⟩), .string nm, .int .i64 (n : Int)] w (Wrote B w aw bm bf (c + 1) p (D.put (.string nm.data.toList) (.lit (.int .i64 (n : Int)))) E) := by
  obtain ⟨v, h1, h2, h3, h4, h5, h6, h7, h8, h9⟩ := h
  have c0 := (blk_cell h1 0).trans rfl
  have H1 := Aside0.mk h1
  have H2 := Aside0.mk h2
  have H3 := Aside0.mk h3
  have H4 := Aside0.mk h4
  have H5 := Aside0.mk (show bm ≠ bf ∧ B ≤ aw ∧ B ≤ bm ∧ B ≤ bf ∧ p.length ≤ 1000 from ⟨h5, h6, h7, h8, h9⟩)
  have HK := Aside0.mk (key_str hn)
  have HE := Aside0.mk (i64_elem hn2)
  have HC : Aside0 (c < maxLen) := ⟨by unfold maxLen; omega⟩
  clear h1 h2 h3 h4 h5 h6 h7 h8 h9 hc hn hn2
  go_enter Try.func44, Try.ntmps44
  go_wp2_with (first | (at_mapUpdate; refine wpList_mapUpdate_own _ rfl _ _ _ 66 rfl 9 3 lawS Try.underlying66 _ bm c D rfl H3.out HC.out _ _ _ rfl rfl HK.out _ [] HE.out ?_; intro w1 hown1 hgrow1; have HO := Aside0.mk hown1; have HG := Aside0.mk hgrow1; clear hown1 hgrow1))
  go_end0
  obtain ⟨g1, g2, g3, g4, g5⟩ := H5.out
  obtain ⟨inn, hown⟩ := Kd.R_own H2.out
  have hne := map_row H3.out hown
  have k1 : w1.heap[aw]? = _ := blk_grown H1.out HG.out (fun e => map_block H3.out H1.out (Option.some.inj e).symm)
  exact ⟨rfl, ⟨_, k1, row_map H2.out H3.out HG.out, HO.out, (H4.out.kept HG.out (fun e => g1 (Option.some.inj e).symm)).mono (Nat.le_succ _), g1, g2, g3, g4, g5⟩, BK.map H3.out HG.out, (Below.refl B w).grown HG.out (bel_size H1.out g2) (fun k e => by cases e; exact g3)⟩
set_option maxHeartbeats 2000000 in
theorem Want_calls {B aw bm bf c : Nat} {p : Pr} {D E : Dm} {w : World} (h : IsA B w aw bm bf c p D E) (hc : c ≤ 1000000) (nm : ByteArray) (hn : nm.size ≤ 1000000) (n : Nat) (hn2 : n ≤ 1000000) :
    Calls Try.prog 45 #[.pointer (some ⟨aw, 0, none⟩), .int .i64 (n : Int), .string nm] w (Wrote B w aw bm bf (c + 1) p D (E.put (.int .i64 (n : Int)) (.lit (.string nm.data.toList)))) := by
  obtain ⟨v, h1, h2, h3, h4, h5, h6, h7, h8, h9⟩ := h
  have c1 := (blk_cell h1 1).trans rfl
  have H1 := Aside0.mk h1
  have H2 := Aside0.mk h2
  have H3 := Aside0.mk h3
  have H4 := Aside0.mk h4
  have H5 := Aside0.mk (show bm ≠ bf ∧ B ≤ aw ∧ B ≤ bm ∧ B ≤ bf ∧ p.length ≤ 1000 from ⟨h5, h6, h7, h8, h9⟩)
  have HK := Aside0.mk (key_i64 hn2)
  have HE := Aside0.mk (str_elem hn)
  have HC : Aside0 (c < maxLen) := ⟨by unfold maxLen; omega⟩
  clear h1 h2 h3 h4 h5 h6 h7 h8 h9 hc hn hn2
  go_enter Try.func45, Try.ntmps45
  go_wp2_with (first | (at_mapUpdate; refine wpList_mapUpdate_own _ rfl _ _ _ 67 rfl 3 9 lawI Try.underlying67 _ bf c E rfl H4.out HC.out _ _ _ rfl rfl HK.out _ [] HE.out ?_; intro w1 hown1 hgrow1; have HO := Aside0.mk hown1; have HG := Aside0.mk hgrow1; clear hown1 hgrow1))
  go_end0
  obtain ⟨g1, g2, g3, g4, g5⟩ := H5.out
  have k1 : w1.heap[aw]? = _ := blk_grown H1.out HG.out (fun e => map_block H4.out H1.out (Option.some.inj e).symm)
  exact ⟨rfl, ⟨_, k1, row_map H2.out H4.out HG.out, (H3.out.kept HG.out (fun e => g1 (Option.some.inj e))).mono (Nat.le_succ _), HO.out, g1, g2, g3, g4, g5⟩, BK.map H4.out HG.out, (Below.refl B w).grown HG.out (bel_size H1.out g2) (fun k e => by cases e; exact g4)⟩
theorem Wrote.then_ {B aw bm bf c c' : Nat} {p p' : Pr} {D E D' E' : Dm} {w w1 w2 : World} {e : Ending} (h1 : BK w w1) (h2 : Below B w w1) (h : Wrote B w1 aw bm bf c' p' D' E' e w2) : Wrote B w aw bm bf c' p' D' E' e w2 := ⟨h.1, h.2.1, h1.trans h.2.2.1, h2.trans h.2.2.2⟩
theorem IsA.drew {B : Nat} {w : World} {aw bm bf c : Nat} {p : Pr} {D E : Dm} (h : IsA B w aw bm bf c p D E) : IsA B w.drew aw bm bf c p D E := by
  obtain ⟨v, h1, h2, h3, h4, h5⟩ := h
  exact ⟨v, h1, Kd.R_drew h2, h3.drew, h4.drew, h5⟩
set_option maxHeartbeats 2000000 in
theorem Here_calls {B aw bm bf c : Nat} {p : Pr} {D E : Dm} {w : World} (h : IsA B w aw bm bf c p D E) (hc : c ≤ 1000000) (nm : ByteArray) (hn : nm.size ≤ 1000000) :
    Calls Try.prog 20 #[.pointer (some ⟨aw, 0, none⟩), .string nm] w (Wrote B w aw bm bf (c + 1) p (D.put (.string nm.data.toList) (.lit (.int .i64 (p.length : Int)))) E) := by
  have HN := Aside0.mk (Name_calls h.drew hc nm hn p.length (by obtain ⟨_, _, _, _, _, _, _, _, _, h9⟩ := h; omega))
  obtain ⟨v, h1, h2, h3, h4, h5, h6, h7, h8, h9⟩ := h
  obtain ⟨A0, c0, e0⟩ := Kd.R_slice h2
  subst e0
  have c2 := (blk_cell h1 2).trans rfl
  have d2 := pw_cell_below (below_drew (Below.refl w.heap.size w)) c2
  clear h1 h2 h3 h4 h5 h6 h7 h8 h9 hc hn
  go_enter Try.func20, Try.ntmps20
  go_wp2
  go_region_law (go_simp; go_at_call 44; (with_reducible refine (HN.out).mono ?_); rintro e w1 ⟨rfl, hw⟩; have HW := Aside0.mk hw; clear hw)
  all_goals
    (try go_wp2)
    go_end0
    exact Wrote.then_ (c := 0) (p := []) (D := .nil) (E := .nil) (BK.drew w) (below_drew (Below.refl B w)) ⟨rfl, HW.out⟩
set_option maxHeartbeats 2000000 in
theorem Jump_calls {B aw bm bf c : Nat} {p : Pr} {D E : Dm} {w : World} (h : IsA B w aw bm bf c p D E) (hc : c ≤ 1000000) (hl : p.length ≤ 900) (a : Int) (nm : ByteArray) (hn : nm.size ≤ 1000000) :
    Calls Try.prog 21 #[.pointer (some ⟨aw, 0, none⟩), .int .i64 a, .string nm] w (Wrote B w aw bm bf (c + 1) (p ++ [⟨5, a, 0, 0, ⟨#[]⟩⟩]) D (E.put (.int .i64 (p.length : Int)) (.lit (.string nm.data.toList)))) := by
  have HN := Aside0.mk (Want_calls h.drew hc nm hn p.length (by omega))
  obtain ⟨v, h1, h2, h3, h4, h5, h6, h7, h8, h9⟩ := h
  obtain ⟨A0, c0, e0⟩ := Kd.R_slice h2
  subst e0
  have c2 := (blk_cell h1 2).trans rfl
  have d2 := pw_cell_below (below_drew (Below.refl w.heap.size w)) c2
  have HLEN := Aside0.mk hl
  clear h1 h2 h3 h4 h5 h6 h7 h8 h9 hc hn hl
  go_enter Try.func21, Try.ntmps21
  go_wp2
  go_region_law (go_simp; go_at_call 45; (with_reducible refine (HN.out).mono ?_); rintro e w0 ⟨rfl, hw⟩; have HX := Aside0.mk hw; clear hw)
  all_goals
    clear c2 d2
    obtain ⟨hA, hbk, hbl⟩ := HX.out
    obtain ⟨v, h1, h2, h3, h4, h5, h6, h7, h8, h9⟩ := hA
    have d2 := (blk_cell h1 2).trans rfl
    have HS := Aside0.mk (bel_size h1 h6)
    have H1 := Aside0.mk h1
    have H2 := Aside0.mk h2
    have H3 := Aside0.mk h3
    have H4 := Aside0.mk h4
    have H5 := Aside0.mk (show bm ≠ bf ∧ B ≤ aw ∧ B ≤ bm ∧ B ≤ bf from ⟨h5, h6, h7, h8⟩)
    have HK := Aside0.mk hbk
    have HL := Aside0.mk hbl
    have HB := Aside0.mk (Below.refl B w0)
    clear h1 h2 h3 h4 h5 h6 h7 h8 h9 hbk hbl HX
    go_wp2_with (first | ((with_reducible refine gate_builtin (b := .append) (xs := #[.tmp 20, .tmp 23]) rfl ?_); at_builtin; refine Kd.R_append k52 (w0 := w0) B rfl (.tmp 20) (.tmp 23) 23 52 (.agg #[(.int .i64 0), (.int .i64 0), (.int .i64 0), (.int .i64 0), (.string ⟨#[]⟩)]) 48 rfl Try.underlying23 info52 rfl (by decide) (by omega) v p (⟨5, a, 0, 0, ⟨#[]⟩⟩ : S52) [.int .i64 5, .int .i64 a, .int .i64 0, .int .i64 0, .string ⟨#[]⟩] (fun _ => True) (fun _ => False) rfl rfl ?aP (fun _ hk => hk.elim) ?aF ?aO ?aB ?aS ?aL ?_; (case aP => exact k52_mkM _ _ _ (⟨5, a, 0, 0, ⟨#[]⟩⟩ : S52)); (case aF => exact fun _ _ => trivial); (case aO => exact H2.out); (case aB => exact HB.out); (case aS => exact HS.out); (case aL => have := HLEN.out; omega); intro v1 w1 ho hb hg hat; obtain ⟨A1, c1, e1⟩ := Kd.R_slice ho; subst e1; obtain ⟨d2, f2, hw⟩ := wrote_ins H1.out H2.out H3.out H4.out H5.out.1 H5.out.2.1 H5.out.2.2.1 H5.out.2.2.2 HLEN.out ho hb hg; have HW := Aside0.mk hw; clear ho hb hg hat hw))
    go_end0
    have hq := HW.out
    rw [List.length_append, List.length_singleton] at hq
    exact Wrote.then_ (c := 0) (p := []) (D := .nil) (E := .nil) ((BK.drew w).trans HK.out) ((below_drew (Below.refl B w)).trans HL.out) hq
end Go.Proofs.Ytpnmmpfidiegcaa.C
end
section
namespace Go.Proofs.Ytpnmmpfidiegcaa.C
open Go.RowKit Go.Proofs.YtpnmmpfidiegcaaW.PrintWords Go.Proofs.YtpnmmpfidiegcaaW.PrintLast Go.Proofs.YtpnmmpfidiegcaaW.PrintMore
set_option linter.unusedVariables false
set_option linter.unusedSimpArgs false
structure US where
  p : Pr
  D : Dm
  E : Dm
  n : Nat
  c : Nat
def US.ins (s : US) (x : S52) : US := ⟨s.p ++ [x], s.D, s.E, s.n, s.c⟩
def US.here (s : US) (nm : ByteArray) : US := ⟨s.p, s.D.put (.string nm.data.toList) (.lit (.int .i64 (s.p.length : Int))), s.E, s.n, s.c + 1⟩
def US.jmp (s : US) (a : Int) (nm : ByteArray) : US := ⟨s.p ++ [⟨5, a, 0, 0, ⟨#[]⟩⟩], s.D, s.E.put (.int .i64 (s.p.length : Int)) (.lit (.string nm.data.toList)), s.n, s.c + 1⟩
def US.nam (s : US) : US := ⟨s.p, s.D, s.E, s.n + 1, s.c⟩
def nmS (n : Nat) : ByteArray := ⟨#[46, UInt8.ofNat (97 + n % 26), UInt8.ofNat (97 + n / 26)]⟩
theorem nmS_size (n : Nat) : (nmS n).size ≤ 1000000 := by unfold nmS; exact (by decide : 3 ≤ 1000000)
def IsU (B : Nat) (w : World) (wb aw bm bf : Nat) (s : US) (k : Nat) : Prop := w.heap[wb]? = some (.cells #[.pointer (some ⟨aw, 0, none⟩), .int .i64 (s.n : Int)] 42 (0, 0)) ∧ IsA B w aw bm bf s.c s.p s.D s.E ∧ B ≤ wb ∧ s.p.length + k ≤ 800 ∧ s.c + k ≤ 800 ∧ s.n + k ≤ 600
def BU (w w' : World) : Prop := ∀ (g : Nat) (cs : Array Value) (t : TypeId), t ≠ 52 → t ≠ 71 → t ≠ 42 → w.heap[g]? = some (.cells cs t (0, 0)) → w'.heap[g]? = some (.cells cs t (0, 0))
theorem BU.refl (w : World) : BU w w := fun _ _ _ _ _ _ h => h
theorem BU.trans {a b c : World} (h : BU a b) (k : BU b c) : BU a c := fun g cs t h1 h2 h3 e => k g cs t h1 h2 h3 (h g cs t h1 h2 h3 e)
theorem BU.of {w w' : World} (h : BK w w') : BU w w' := fun g cs t h1 h2 _ e => h g cs t h1 h2 e
theorem BU.alloc (w : World) (o : Obj) : BU w (w.alloc o) := BU.of (BK.alloc w o)
def WroteU (B : Nat) (w : World) (wb aw bm bf : Nat) (s : US) (k : Nat) (e : Ending) (w' : World) : Prop := e = .returned (.tuple #[]) ∧ IsU B w' wb aw bm bf s k ∧ BU w w' ∧ Below B w w'
section
variable {B : Nat} {w : World} {wb aw bm bf : Nat} {s : US} {k : Nat}
theorem IsU.c0 (h : IsU B w wb aw bm bf s k) : w.cell? ⟨wb, 0, none⟩ = some (.pointer (some ⟨aw, 0, none⟩)) := (blk_cell h.1 0).trans rfl
theorem IsU.c1 (h : IsU B w wb aw bm bf s k) : w.cell? ⟨wb, 1, none⟩ = some (.int .i64 (s.n : Int)) := (blk_cell h.1 1).trans rfl
theorem IsU.less (h : IsU B w wb aw bm bf s k) {j : Nat} (hj : j ≤ k) : IsU B w wb aw bm bf s j := ⟨h.1, h.2.1, h.2.2.1, by have := h.2.2.2.1; omega, by have := h.2.2.2.2.1; omega, by have := h.2.2.2.2.2; omega⟩
theorem IsA.below {c : Nat} {p : Pr} {D E : Dm} {w' : World} (h : IsA B w aw bm bf c p D E) (hb : Below w.heap.size w w') : IsA B w' aw bm bf c p D E := by
  obtain ⟨v, h1, h2, h3, h4, h5⟩ := h
  have hg := grown_of_below hb none
  exact ⟨v, (hb.block _ (blk_lt h1)).trans h1, Kd.R_below h2 hb, h3.kept hg (by simp), h4.kept hg (by simp), h5⟩
theorem IsU.below {w' : World} (h : IsU B w wb aw bm bf s k) (hb : Below w.heap.size w w') : IsU B w' wb aw bm bf s k := ⟨(hb.block _ (blk_lt h.1)).trans h.1, h.2.1.below hb, h.2.2⟩
theorem IsU.alloc (h : IsU B w wb aw bm bf s k) (o : Obj) : IsU B (w.alloc o) wb aw bm bf s k := h.below (below_alloc (Below.refl _ _) o)
theorem IsA.setw {c : Nat} {p : Pr} {D E : Dm} {cs : Array Value} (h : IsA B w aw bm bf c p D E) (hg : w.heap[wb]? = some (.cells cs 42 (0, 0))) (i : Nat) (u : Value) : IsA B (w.setCell ⟨wb, i, none⟩ u) aw bm bf c p D E := by
  obtain ⟨v, h1, h2, h3, h4, h5⟩ := h
  have hne : aw ≠ wb := fun e => by
    subst e
    rw [h1] at hg
    injection hg with hg
    injection hg with _ e
    exact absurd e (by decide)
  refine ⟨v, blk_far h1 (p := ⟨wb, i, none⟩) hne u, Kd.R_mono (Kd.R_far (Kd.R_bound h2) (p := ⟨wb, i, none⟩) (fun k hk e => ?_) u) (fun _ _ => trivial), h3.setCell (a := ⟨wb, i, none⟩) (map_block h3 hg) u, h4.setCell (a := ⟨wb, i, none⟩) (map_block h4 hg) u, h5⟩
  obtain ⟨_, _, _, q, hq, cells, hc⟩ := hk
  have hq2 : q = 52 := by
    rcases List.mem_cons.1 hq with e | e
    · exact e
    · exact absurd e (by show q ∉ ([] : List TypeId); simp)
  subst hq2
  rw [show k = wb from e, hg] at hc
  injection hc with hc
  injection hc with _ e
  exact absurd e (by decide)
theorem IsU.bump (h : IsU B w wb aw bm bf s (k + 1)) : IsU B (w.setCell ⟨wb, 1, none⟩ (.int .i64 ((s.n : Int) + 1))) wb aw bm bf s.nam k ∧ BU w (w.setCell ⟨wb, 1, none⟩ (.int .i64 ((s.n : Int) + 1))) ∧ Below B w (w.setCell ⟨wb, 1, none⟩ (.int .i64 ((s.n : Int) + 1))) := by
  obtain ⟨h1, h2, h3, h4, h5, h6⟩ := h
  refine ⟨⟨(blk_set h1 1 _).trans rfl, h2.setw h1 1 _, h3, by show s.p.length + k ≤ 800; omega, by show s.c + k ≤ 800; omega, by show s.n + 1 + k ≤ 600; omega⟩, fun g' cs' t' _ _ hn h' => ?_, (Below.refl B w).setCell (p := ⟨wb, 1, none⟩) h3 _⟩
  refine blk_far h' (fun he => ?_) _
  subst he
  rw [h1] at h'
  injection h' with h'
  injection h' with _ e
  exact hn e.symm
theorem lift_u {f : FuncId} {args : Array Value} {s' : US} (h : IsU B w wb aw bm bf s (k + 1)) (hs : s'.n = s.n ∧ s'.p.length ≤ s.p.length + 1 ∧ s'.c ≤ s.c + 1) (hc : Calls Try.prog f args w (Wrote B w aw bm bf s'.c s'.p s'.D s'.E)) : Calls Try.prog f args w (WroteU B w wb aw bm bf s' k) := by
  refine hc.mono ?_
  rintro e w' ⟨rfl, hA, hbk, hbl⟩
  obtain ⟨h1, h2, h3, h4, h5, h6⟩ := h
  exact ⟨rfl, ⟨by rw [hs.1]; exact hbk _ _ _ (by decide) (by decide) h1, hA, h3, by have := hs.2.1; omega, by have := hs.2.2; omega, by have := hs.1; omega⟩, BU.of hbk, hbl⟩
theorem u_head (h : IsU B w wb aw bm bf s (k + 1)) (a b : Int) : Calls Try.prog 15 #[.pointer (some ⟨aw, 0, none⟩), .int .i64 a, .int .i64 b] w (WroteU B w wb aw bm bf (s.ins ⟨3, a, b, 0, ⟨#[]⟩⟩) k) :=
  lift_u (s' := s.ins ⟨3, a, b, 0, ⟨#[]⟩⟩) h ⟨rfl, by simp [US.ins], Nat.le_succ _⟩ (AHead_calls h.2.1 (by have := h.2.2.2.1; omega) a b)
theorem u_tail (h : IsU B w wb aw bm bf s (k + 1)) (a b : Int) : Calls Try.prog 16 #[.pointer (some ⟨aw, 0, none⟩), .int .i64 a, .int .i64 b] w (WroteU B w wb aw bm bf (s.ins ⟨4, a, b, 0, ⟨#[]⟩⟩) k) :=
  lift_u (s' := s.ins ⟨4, a, b, 0, ⟨#[]⟩⟩) h ⟨rfl, by simp [US.ins], Nat.le_succ _⟩ (ATail_calls h.2.1 (by have := h.2.2.2.1; omega) a b)
theorem u_move (h : IsU B w wb aw bm bf s (k + 1)) (a b : Int) : Calls Try.prog 17 #[.pointer (some ⟨aw, 0, none⟩), .int .i64 a, .int .i64 b] w (WroteU B w wb aw bm bf (s.ins ⟨1, a, b, 0, ⟨#[]⟩⟩) k) :=
  lift_u (s' := s.ins ⟨1, a, b, 0, ⟨#[]⟩⟩) h ⟨rfl, by simp [US.ins], Nat.le_succ _⟩ (AMove_calls h.2.1 (by have := h.2.2.2.1; omega) a b)
theorem u_cons (h : IsU B w wb aw bm bf s (k + 1)) (a b d : Int) : Calls Try.prog 18 #[.pointer (some ⟨aw, 0, none⟩), .int .i64 a, .int .i64 b, .int .i64 d] w (WroteU B w wb aw bm bf (s.ins ⟨2, a, b, d, ⟨#[]⟩⟩) k) :=
  lift_u (s' := s.ins ⟨2, a, b, d, ⟨#[]⟩⟩) h ⟨rfl, by simp [US.ins], Nat.le_succ _⟩ (ACons_calls h.2.1 (by have := h.2.2.2.1; omega) a b d)
theorem u_set (h : IsU B w wb aw bm bf s (k + 1)) (a : Int) (t : ByteArray) : Calls Try.prog 19 #[.pointer (some ⟨aw, 0, none⟩), .int .i64 a, .string t] w (WroteU B w wb aw bm bf (s.ins ⟨0, a, 0, 0, t⟩) k) :=
  lift_u (s' := s.ins ⟨0, a, 0, 0, t⟩) h ⟨rfl, by simp [US.ins], Nat.le_succ _⟩ (ASet_calls h.2.1 (by have := h.2.2.2.1; omega) a t)
theorem u_here (h : IsU B w wb aw bm bf s (k + 1)) (nm : ByteArray) (hn : nm.size ≤ 1000000) : Calls Try.prog 20 #[.pointer (some ⟨aw, 0, none⟩), .string nm] w (WroteU B w wb aw bm bf (s.here nm) k) :=
  lift_u (s' := s.here nm) h ⟨rfl, Nat.le_succ _, Nat.le_refl _⟩ (Here_calls h.2.1 (by have := h.2.2.2.2.1; omega) nm hn)
theorem u_jump (h : IsU B w wb aw bm bf s (k + 1)) (a : Int) (nm : ByteArray) (hn : nm.size ≤ 1000000) : Calls Try.prog 21 #[.pointer (some ⟨aw, 0, none⟩), .int .i64 a, .string nm] w (WroteU B w wb aw bm bf (s.jmp a nm) k) :=
  lift_u (s' := s.jmp a nm) h ⟨rfl, by simp [US.jmp], Nat.le_refl _⟩ (Jump_calls h.2.1 (by have := h.2.2.2.2.1; omega) (by have := h.2.2.2.1; omega) a nm hn)
end
set_option maxRecDepth 10000 in
theorem nm_all : ∀ (a : Fin 26) (b : Fin 24), strOfNums [46, IntKind.u8.wrap (IntKind.i64.wrap (97 + ((a.1 : Nat) : Int))), IntKind.u8.wrap (IntKind.i64.wrap (97 + IntKind.i64.wrap ((b.1 : Nat) : Int)))] = ⟨#[46, UInt8.ofNat (97 + a.1), UInt8.ofNat (97 + b.1)]⟩ := by decide +kernel
theorem nm_str (n : Nat) (hn : n ≤ 600) : strOfNums [46, IntKind.u8.wrap (IntKind.i64.wrap (97 + ((n : Int) + 1).tmod 26)), IntKind.u8.wrap (IntKind.i64.wrap (97 + IntKind.i64.wrap (((n : Int) + 1).tdiv 26)))] = nmS (n + 1) := by
  have h1 : ((n : Int) + 1).tmod 26 = (((n + 1) % 26 : Nat) : Int) := rfl
  have h2 : ((n : Int) + 1).tdiv 26 = (((n + 1) / 26 : Nat) : Int) := rfl
  have h3 : (n + 1) % 26 < 26 := Nat.mod_lt _ (by decide)
  have h4 : (n + 1) / 26 ≤ 23 := by omega
  rw [h1, h2]
  unfold nmS
  exact nm_all ⟨(n + 1) % 26, h3⟩ ⟨(n + 1) / 26, by omega⟩
set_option maxHeartbeats 2000000 in
theorem u_name {B : Nat} {w : World} {wb aw bm bf : Nat} {s : US} {k : Nat} (h : IsU B w wb aw bm bf s (k + 1)) :
    Calls Try.prog 46 #[.pointer (some ⟨wb, 0, none⟩)] w fun e w' => e = .returned (.string (nmS (s.n + 1))) ∧ IsU B w' wb aw bm bf s.nam k ∧ BU w w' ∧ Below B w w' := by
  have c1 := h.c1
  have f1 := blk_frozen h.1 1
  have HU := Aside0.mk h
  obtain ⟨n, hn⟩ : ∃ n, s.n = n := ⟨_, rfl⟩
  have hn6 : (n : Int) ≤ 600 := by have := h.2.2.2.2.2; omega
  have HN := Aside0.mk hn
  rw [hn] at c1
  have hrow := own_lit (w.setCell ⟨wb, 1, none⟩ (.int .i64 ((n : Int) + 1))) 0 5 .u8 [46, IntKind.u8.wrap (IntKind.i64.wrap (97 + ((n : Int) + 1).tmod 26)), IntKind.u8.wrap (IntKind.i64.wrap (97 + IntKind.i64.wrap (((n : Int) + 1).tdiv 26)))] (Nat.zero_le _) (by simp)
  have hcv := own_string (P := Try.prog) (w := (World.alloc (w.setCell ⟨wb, 1, none⟩ (.int .i64 ((n : Int) + 1))) (.cells #[.int .u8 46, .int .u8 (IntKind.u8.wrap (IntKind.i64.wrap (97 + ((n : Int) + 1).tmod 26))), .int .u8 (IntKind.u8.wrap (IntKind.i64.wrap (97 + IntKind.i64.wrap (((n : Int) + 1).tdiv 26))))] 5)).drew) Try.underlying74 Try.underlying5 Try.underlying9 hrow
  rw [nm_str n (by omega)] at hcv
  have hsz : (w.setCell ⟨wb, 1, none⟩ (.int .i64 ((n : Int) + 1))).heap.size = w.heap.size := by simp
  rw [hsz] at hcv
  change (convert _ _ (.slice (some ⟨w.heap.size, 0, none⟩) 3 3)).run _ _ = _ at hcv
  clear h hn hrow hsz
  go_enter Try.func46, Try.ntmps46
  go_wp2
  go_region_law (fail)
  all_goals
    (try go_wp2)
    go_ret
    obtain ⟨b1, b2, b3⟩ := HU.out.bump
    rw [HN.out] at b1 b2 b3
    have hal := below_drew (below_alloc (Below.refl _ (w.setCell ⟨wb, 1, none⟩ (.int .i64 ((n : Int) + 1)))) (.cells #[.int .u8 46, .int .u8 (IntKind.u8.wrap (IntKind.i64.wrap (97 + ((n : Int) + 1).tmod 26))), .int .u8 (IntKind.u8.wrap (IntKind.i64.wrap (97 + IntKind.i64.wrap (((n : Int) + 1).tdiv 26))))] 5 (0, 0)))
    exact ⟨by rw [HN.out]; rfl, b1.below hal, b2.trans (BU.of (BK.below hal)), b3.trans (hal.mono (Nat.le_trans (bel_size HU.out.1 HU.out.2.2.1) b3.size))⟩
end Go.Proofs.Ytpnmmpfidiegcaa.C
end
