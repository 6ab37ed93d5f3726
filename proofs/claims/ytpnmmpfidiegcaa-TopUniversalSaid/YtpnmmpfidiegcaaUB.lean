/- Texts of this claim, together: what the functions return, and what they say in plain words. -/
import Derived.OrdersHeld
import Derived.Deep.RegionHeld3
import Derived.Laws.BitsLemmas
import Derived.RowKit
import Derived.Test.YtpnmmpfidiegcaaUA
import Derived.Test.YtpnmmpfidiegcaaProg
import Derived.Below
import Derived.Deep.Draws
import Derived.Deep.AppendLies
import Derived.Maps.AppendAt
import Derived.OwnWalk
import Derived.Laws.BytesArg
import Derived.Laws.MakeOwn
import Derived.Laws.OwnMore
import Derived.Deep.OwnRows
import Derived.Tactics
import Derived.Lib.ConvBytes
import Derived.Laws.Slices
import Derived.WalkKit
import Derived.KernelRfl
import Derived.RowKit3
import Derived.Deep.LoopGhost
import Derived.Deep.QuietTactic
import Derived.BigQuiet
import Derived.WideLaws
import Derived.Deep.DeepCutAuto
import Derived.Deep.CutBlock
import Derived.Laws.Rows
import Derived.Lib.AppendStr
import Derived.ArgAppend
import Derived.Laws.IdiomCopy
import Derived.Laws.StructEq
import Derived.Lib.Strings
import Derived.Lib.IndexBytes
section
namespace Go.Proofs.YtpnmmpfidiegcaaW.PrintLast
section
variable {P : Program} {ops : Array Oper} {Q : Exit → Act → World → Prop} {md : Region.Mode} {S : World → Prop} {ds : List Nat}
def ListedClosed (md : Region.Mode) (ops : Array Oper) (listed : Array Bool) : Prop :=
  ∀ j oj, ops[j]? = some oj → listed.getD j false = true → ∀ e ∈ oj.after, Region.binds md e = true → listed.getD e.on false = true
theorem ListedClosed.set {listed : Array Bool} {i : Nat} (h : ListedClosed md ops listed) (hi : i ∈ Region.ready md ops listed) : ListedClosed md ops (listed.setIfInBounds i true) := by
  obtain ⟨_, oi, hoi, hall⟩ := mem_ready.1 hi
  intro j oj hj hl e he hb
  by_cases hij : i = j
  · subst hij
    have : oj = oi := Option.some.inj (hj.symm.trans hoi)
    subst this
    exact getD_set_true (hall e he hb)
  · rw [getD_set_ne false hij] at hl
    exact getD_set_true (h j oj hj hl e he hb)
def wpAnyLast (P : Program) (md : Region.Mode) (ops : Array Oper) (Q : Exit → Act → World → Prop) (S : World → Prop) (ds : List Nat) : Nat → Array Bool → Act → World → Prop
  | 0, listed, a, w => Region.ready md ops listed = [] ∧ Q .normal a w
  | fuel + 1, listed, a, w =>
    (Region.ready md ops listed = [] → Q .normal a w) ∧
    ∀ i ∈ Region.ready md ops listed, wpOp P ops Q i (fun a' w' => (i ∉ ds → S w → S w') ∧ wpAnyLast P md ops Q S ds fuel (listed.setIfInBounds i true) a' w') a w
end
section
variable {P : Program} {ops : Array Oper} {Q : Exit → Act → World → Prop} {md : Region.Mode} {S : World → Prop} {ds : List Nat}
def AllReadyL (P : Program) (md : Region.Mode) (ops : Array Oper) (Q : Exit → Act → World → Prop) (S : World → Prop) (ds : List Nat) (fuel : Nat) (listed : Array Bool) (a : Act) (w : World) (rs : List Nat) : Prop :=
  ∀ i ∈ rs, wpOp P ops Q i (fun a' w' => (i ∉ ds → S w → S w') ∧ wpAnyLast P md ops Q S ds fuel (listed.setIfInBounds i true) a' w') a w
theorem AllReadyL.nil {fuel : Nat} {listed : Array Bool} {a : Act} {w : World} : AllReadyL P md ops Q S ds fuel listed a w [] := fun _ h => by cases h
theorem AllReadyL.cons {fuel : Nat} {listed : Array Bool} {a : Act} {w : World} {i : Nat} {o : Oper} {rs : List Nat} (ho : ops[i]? = some o) (hd : i ∉ ds)
    (h : ∀ K' : Act → World → Prop, Shut (∀ a w, S w → (S w → wpAnyLast P md ops Q S ds fuel (listed.setIfInBounds i true) a w) → K' a w) → if Region.wanted o (yielded ops a.tmps) = true then Oper.wp P o a w K' Q else K' (a.put o.dst undef) w)
    (hs : AllReadyL P md ops Q S ds fuel listed a w rs) : AllReadyL P md ops Q S ds fuel listed a w (i :: rs) := fun j hj => by
  rcases List.mem_cons.1 hj with rfl | hj
  · exact wpOp_step ho (fun K' hK => h K' (fun a w hS hW => hK a w ⟨fun _ _ => hS, hW hS⟩))
  · exact hs j hj
theorem i64_w (n : Int) : IntKind.i64.wrap n = Go.RowKit.wrap64 n := by unfold Go.RowKit.wrap64; exact IntKind.wrap_i64 n
end
end Go.Proofs.YtpnmmpfidiegcaaW.PrintLast
end
section
namespace Go.Proofs.YtpnmmpfidiegcaaW.PrintWords
open Go.RowKit
namespace Kd
def tag {α : Type} (f : Nat → Nat) (d : Kd α) : Kd (α × Nat) where
  sz := d.sz
  E := d.E
  K := fun w x cs => d.K w x.1 cs
  M := fun w base ok x cs => d.M w base (fun k => ok k ∧ f k = x.2) x.1 cs
  K_len := fun h => d.K_len h
  K_one := fun h => d.K_one h
  K_below := fun hb h => d.K_below hb h
  K_of_M := fun h => d.K_of_M h
  M_mono := fun hok h => d.M_mono (fun k hk => ⟨hok k hk.1, hk.2⟩) h
  M_bound := fun h => d.M_mono (fun _ hk => ⟨⟨hk.1.1, hk.2⟩, hk.1.2⟩) (d.M_bound h)
  M_move := fun hm h => d.M_move (fun k hk => hm k hk.1) h
  M_lower := fun hb h => d.M_lower hb h
def raw (sz : Nat) : Kd (List Value) where
  sz := sz
  E := []
  K := fun _ x cs => cs = x ∧ cs.length = sz ∧ ∀ u ∈ cs, u.oneCell' = true
  M := fun _ _ _ x cs => cs = x ∧ cs.length = sz ∧ ∀ u ∈ cs, u.oneCell' = true
  K_len := fun h => h.2.1
  K_one := fun h => h.2.2
  K_below := fun _ h => h
  K_of_M := fun h => h
  M_mono := fun _ h => h
  M_bound := fun h => h
  M_move := fun _ h => h
  M_lower := fun _ h => h
def S {α : Type} (d : Kd α) (e : Nat) (w : World) (base : Nat) (ok : Nat → Prop) (v : Value) (xs : List α) : Prop := ∃ f, (tag f d).R e w base ok v xs.zipIdx
section
variable {α β : Type} {d : Kd α} {d' : Kd β} {e e' : Nat} {w w1 W : World} {base b : Nat} {ok ok' okv oku : Nat → Prop} {u v : Value} {xs : List α} {ys : List β}
theorem R_tight (hE : d.E = []) (h : d.R e w base ok v xs) : d.R e w base (fun k => some k = v.ownBlock) v xs := by
  obtain ⟨h0, inner, ho, hr⟩ := h
  refine ⟨fun k hk => hk.symm, inner, ho, hr.imp_ (fun p c hp => d.M_mono (fun k hk => ?_) (d.M_bound hp))⟩
  obtain ⟨_, _, _, q, hq, _⟩ := hk
  rw [hE] at hq
  cases hq
end
def gap {α : Type} (f : Nat → Nat) (d : Kd α) (i : Nat) (c : List Value) : Kd (α × Nat) where
  sz := d.sz
  E := d.E
  K := fun w x cs => (x.2 = i → cs = c ∧ cs.length = d.sz ∧ ∀ u ∈ cs, u.oneCell' = true) ∧ (x.2 ≠ i → d.K w x.1 cs)
  M := fun w base ok x cs => (x.2 = i → cs = c ∧ cs.length = d.sz ∧ ∀ u ∈ cs, u.oneCell' = true) ∧ (x.2 ≠ i → d.M w base (fun k => ok k ∧ f k = x.2) x.1 cs)
  K_len := fun {w x cs} h => by
    by_cases hx : x.2 = i
    · exact (h.1 hx).2.1
    · exact d.K_len (h.2 hx)
  K_one := fun {w x cs} h => by
    by_cases hx : x.2 = i
    · exact (h.1 hx).2.2
    · exact d.K_one (h.2 hx)
  K_below := fun hb h => ⟨h.1, fun hx => d.K_below hb (h.2 hx)⟩
  K_of_M := fun h => ⟨h.1, fun hx => d.K_of_M (h.2 hx)⟩
  M_mono := fun hok h => ⟨h.1, fun hx => d.M_mono (fun k hk => ⟨hok k hk.1, hk.2⟩) (h.2 hx)⟩
  M_bound := fun h => ⟨h.1, fun hx => d.M_mono (fun _ hk => ⟨⟨hk.1.1, hk.2⟩, hk.1.2⟩) (d.M_bound (h.2 hx))⟩
  M_move := fun hm h => ⟨h.1, fun hx => d.M_move (fun k hk => hm k hk.1) (h.2 hx)⟩
  M_lower := fun hb h => ⟨h.1, fun hx => d.M_lower hb (h.2 hx)⟩
def H {α : Type} (d : Kd α) (e : Nat) (w : World) (base : Nat) (ok : Nat → Prop) (v : Value) (xs : List α) (i : Int) (oki : Nat → Prop) (c : List Value) : Prop :=
  (∀ k, oki k → ok k) ∧ ∃ f, (gap f d i.toNat c).R e w base (fun k => ok k ∧ ¬ oki k) v xs.zipIdx
end Kd
end Go.Proofs.YtpnmmpfidiegcaaW.PrintWords
end
section
namespace Go.Proofs.YtpnmmpfidiegcaaW.PrintWords
open Go.RowKit
namespace Kd
structure Heap {α : Type} (d : Kd α) : Prop where
  K : ∀ {w w1 : World} {x : α} {cs : List Value}, (∀ k, k < w.heap.size → w1.heap[k]? = w.heap[k]?) → d.K w x cs → d.K w1 x cs
theorem cell_heap {w w1 : World} (hb : ∀ k, k < w.heap.size → w1.heap[k]? = w.heap[k]?) {a : Addr} {v : Value} (h : w.cell? a = some v) : w1.cell? a = some v := by
  have := hb a.block (World.block_lt_of_cell? w a h)
  simpa [World.cell?, this] using h
theorem Heap.C {α : Type} {d : Kd α} (hd : Heap d) {w w1 : World} {A : Option Addr} {n : Nat} {xs : List α} (hb : ∀ k, k < w.heap.size → w1.heap[k]? = w.heap[k]?) (h : d.C w A n xs) : d.C w1 A n xs :=
  ⟨h.1, h.2.1, fun hn => by
    obtain ⟨ad, e, hc⟩ := h.2.2 hn
    refine ⟨ad, e, fun j p hj => ?_⟩
    obtain ⟨c, hs, hr, hcell⟩ := hc j p hj
    exact ⟨c, hs, hd.K hb hr, fun i u hu => cell_heap hb (hcell i u hu)⟩⟩
end Kd
end Go.Proofs.YtpnmmpfidiegcaaW.PrintWords
end
section
namespace Go.Proofs.YtpnmmpfidiegcaaW.PrintWords
open Go.RowKit
def Kept (w W : World) (S : Nat → Prop) : Prop := w.heap.size ≤ W.heap.size ∧ ∀ i, i < w.heap.size → ¬ S i → W.heap[i]? = w.heap[i]?
section
variable {w W W2 : World} {S S2 S' : Nat → Prop}
theorem Kept.refl (w : World) (S : Nat → Prop) : Kept w w S := ⟨Nat.le_refl _, fun _ _ _ => rfl⟩
theorem Kept.of_below (h : Below w.heap.size w W) (S : Nat → Prop) : Kept w W S := ⟨h.size, fun i hi _ => h.block i hi⟩
theorem Kept.mono (h : Kept w W S) (hs : ∀ k, S k → S' k) : Kept w W S' := ⟨h.1, fun i hi hn => h.2 i hi (fun hk => hn (hs i hk))⟩
theorem Kept.then_ (h : Kept w W S) (k : Kept W W2 S2) (hs : ∀ k, S2 k → S k ∨ w.heap.size ≤ k) : Kept w W2 S :=
  ⟨Nat.le_trans h.1 k.1, fun i hi hn => (k.2 i (Nat.lt_of_lt_of_le hi h.1) (fun h2 => (hs i h2).elim hn (fun h3 => by omega))).trans (h.2 i hi hn)⟩
theorem Kept.below (h : Kept w W S) (hb : Below W.heap.size W W2) : Kept w W2 S := h.then_ (Kept.of_below hb (fun _ => False)) (fun _ hk => hk.elim)
theorem Kept.alloc (h : Kept w W S) (o : Obj) : Kept w (W.alloc o) S := h.below (below_alloc (Below.refl _ _) o)
theorem Kept.drew (h : Kept w W S) : Kept w W.drew S := h
theorem Kept.drewN (h : Kept w W S) (m : Nat) : Kept w (W.drewN m) S := h
theorem Kept.setCell (h : Kept w W S) {p : Addr} (hp : S p.block ∨ w.heap.size ≤ p.block) (u : Value) : Kept w (W.setCell p u) S :=
  h.then_ (S2 := fun k => k = p.block) ⟨by simp [World.setCell], fun i _ hn => Below.heap_setCell W p u i hn⟩ (fun k hk => by rw [hk]; exact hp)
theorem Kept.keep {g : Nat} (h : KeepBut w W g none) (k : Kept W W2 S2) (hs : ∀ k, S2 k → w.heap.size ≤ k) : KeepBut w W2 g none :=
  ⟨Nat.le_trans h.1 k.1, fun i hi hg hr => (k.2 i (Nat.lt_of_lt_of_le hi h.1) (fun h2 => by have := hs i h2; omega)).trans (h.2 i hi hg hr)⟩
end
end Go.Proofs.YtpnmmpfidiegcaaW.PrintWords
end
section
namespace Go.Proofs.YtpnmmpfidiegcaaW.PrintWords
open Go.RowKit
def Foot (P : World → Prop) (W : World) (ok : Nat → Prop) : Prop := ∀ W' : World, (∀ k, ok k → k < W.heap.size → W'.heap[k]? = W.heap[k]?) → P W'
theorem heap_lt {W W1 : World} {k : Nat} (h : W1.heap[k]? = W.heap[k]?) (hlt : k < W.heap.size) : k < W1.heap.size := by
  rw [Array.getElem?_eq_getElem hlt] at h
  exact (Array.getElem?_eq_some_iff.1 h).1
namespace Foot
variable {P Q : World → Prop} {W W1 : World} {ok ok' : Nat → Prop}
theorem mono (h : Foot P W ok) (hok : ∀ k, ok k → ok' k) : Foot P W ok' := fun W' hW => h W' (fun k hk hlt => hW k (hok k hk) hlt)
theorem step (h : Foot P W ok) (hm : ∀ k, ok k → k < W.heap.size → W1.heap[k]? = W.heap[k]?) : Foot P W1 ok := fun W' hW => h W' (fun k hk hlt => (hW k hk (heap_lt (hm k hk hlt) hlt)).trans (hm k hk hlt))
end Foot
namespace Kd
def F {α : Type} (d : Kd α) (W : World) (ok : Nat → Prop) (A : Option Addr) (n : Nat) (xs : List α) : Prop := Foot (fun W => d.C W A n xs) W ok
def FK {α : Type} (d : Kd α) (W : World) (ok : Nat → Prop) (x : α) (c : List Value) : Prop := Foot (fun W => d.K W x c) W ok
end Kd
end Go.Proofs.YtpnmmpfidiegcaaW.PrintWords
end
section
namespace Go.Proofs.YtpnmmpfidiegcaaW.PrintWords
open Go.RowKit
namespace Kd
section
variable {α : Type} {d : Kd α} {e base n cc g : Nat} {ok ok' okp S : Nat → Prop} {w w1 W W1 : World} {A : Option Addr} {u v v1 : Value} {xs : List α} {x : α} {c : List Value}
def N {α : Type} (d : Kd α) (e : Nat) (w : World) (base : Nat) (ok : Nat → Prop) (v : Value) (xs : List α) : Prop :=
  (∀ k, v.ownBlock = some k → ok k) ∧ ∃ rows : List (List Value), rows.length = xs.length ∧ (raw d.sz).R e w base (fun k => some k = v.ownBlock) v rows ∧ ∀ (j : Nat) (x : α) (c : List Value), xs[j]? = some x → rows[j]? = some c → FK d w (fun k => ok k ∧ some k ≠ v.ownBlock) x c
end
end Kd
end Go.Proofs.YtpnmmpfidiegcaaW.PrintWords
end
section
namespace Go.Proofs.YtpnmmpfidiegcaaW.PrintWords
theorem Reps.front {α : Type} {R : α → List Value → Prop} {size : Nat} {ps : List α} {cs c all : List Value} {p : α} (hp : R p c) (hc : c.length = size) (h : Reps R size ps cs) (ha : c ++ cs = all) : Reps R size (p :: ps) all := by
  subst ha
  refine ⟨by rw [List.length_append, hc, h.1, List.length_cons, Nat.succ_mul, Nat.add_comm], fun j q hq => ?_⟩
  cases j with
  | zero =>
    simp only [List.getElem?_cons_zero, Option.some.injEq] at hq
    subst hq
    rw [Nat.zero_mul, List.drop_zero, List.take_append_of_le_length (by omega), List.take_of_length_le (by omega)]
    exact hp
  | succ j =>
    simp only [List.getElem?_cons_succ] at hq
    have h1 := h.2 j q hq
    rw [Nat.succ_mul, List.drop_append, List.drop_of_length_le (by rw [hc]; exact Nat.le_add_left _ _), List.nil_append, hc, Nat.add_sub_cancel]
    exact h1
theorem Reps.c2 {α : Type} {R : α → List Value → Prop} {ps : List α} {cs : List Value} {p : α} {va vb : Value} (hp : R p [va, vb]) (h : Reps R 2 ps cs) : Reps R 2 (p :: ps) (va :: vb :: cs) := Reps.front hp rfl h rfl
theorem Reps.c3 {α : Type} {R : α → List Value → Prop} {ps : List α} {cs : List Value} {p : α} {va vb vc : Value} (hp : R p [va, vb, vc]) (h : Reps R 3 ps cs) : Reps R 3 (p :: ps) (va :: vb :: vc :: cs) := Reps.front hp rfl h rfl
theorem Reps.c5 {α : Type} {R : α → List Value → Prop} {ps : List α} {cs : List Value} {p : α} {va vb vc vd ve : Value} (hp : R p [va, vb, vc, vd, ve]) (h : Reps R 5 ps cs) : Reps R 5 (p :: ps) (va :: vb :: vc :: vd :: ve :: cs) := Reps.front hp rfl h rfl
end Go.Proofs.YtpnmmpfidiegcaaW.PrintWords
end
section
namespace Go.Proofs.YtpnmmpfidiegcaaW.PrintMore
open Go.RowKit Go.Proofs.YtpnmmpfidiegcaaW.PrintWords
theorem max2_int (k k' : IntKind) (x y : Int) : Builtin.max2 (.int k x) (.int k' y) = pure (.int k (if x < y then y else x)) := by simp only [Builtin.max2, gt_iff_lt]
theorem min2_int (k k' : IntKind) (x y : Int) : Builtin.min2 (.int k x) (.int k' y) = pure (.int k (if y < x then y else x)) := by simp only [Builtin.min2]
theorem max_two (ats : Array TypeId) (ty : TypeId) (a b : Value) : Builtin.max_ ats ty #[a, b] = (Builtin.max2 a b >>= fun s => pure s) := by simp only [Builtin.max_, List.foldlM_cons, List.foldlM_nil]
theorem min_two (ats : Array TypeId) (ty : TypeId) (a b : Value) : Builtin.min_ ats ty #[a, b] = (Builtin.min2 a b >>= fun s => pure s) := by simp only [Builtin.min_, List.foldlM_cons, List.foldlM_nil]
theorem max_three (ats : Array TypeId) (ty : TypeId) (a b c : Value) : Builtin.max_ ats ty #[a, b, c] = (Builtin.max2 a b >>= fun s => Builtin.max2 s c >>= fun s => pure s) := by simp only [Builtin.max_, List.foldlM_cons, List.foldlM_nil]
theorem min_three (ats : Array TypeId) (ty : TypeId) (a b c : Value) : Builtin.min_ ats ty #[a, b, c] = (Builtin.min2 a b >>= fun s => Builtin.min2 s c >>= fun s => pure s) := by simp only [Builtin.min_, List.foldlM_cons, List.foldlM_nil]
theorem max_four (ats : Array TypeId) (ty : TypeId) (a b c d : Value) : Builtin.max_ ats ty #[a, b, c, d] = (Builtin.max2 a b >>= fun s => Builtin.max2 s c >>= fun s => Builtin.max2 s d >>= fun s => pure s) := by simp only [Builtin.max_, List.foldlM_cons, List.foldlM_nil]
theorem min_four (ats : Array TypeId) (ty : TypeId) (a b c d : Value) : Builtin.min_ ats ty #[a, b, c, d] = (Builtin.min2 a b >>= fun s => Builtin.min2 s c >>= fun s => Builtin.min2 s d >>= fun s => pure s) := by simp only [Builtin.min_, List.foldlM_cons, List.foldlM_nil]
end Go.Proofs.YtpnmmpfidiegcaaW.PrintMore
namespace Go.Proofs.YtpnmmpfidiegcaaW.PrintWords
open Go.RowKit
section
variable {P : Program} {ops : Array Oper} {rest : List Oper} {o : Oper} {a : Act} {Q : Exit → Act → World → Prop} {W : World}
theorem gate_builtin {b : Builtin} {xs : Array Operand} {ts : Array TypeId} (_ho : o.op = .call { callee := .builtin b, args := xs, argTypes := ts }) (h : wpList P ops Q (o :: rest) a W) : wpList P ops Q (o :: rest) a W := h
end
def mx (a b : Int) : Int := if a < b then b else a
namespace Kd
section
variable {α : Type} {d : Kd α} {e base : Nat} {ok : Nat → Prop} {W w1 : World} {v : Value} {xs : List α}
theorem R_far1 (h : d.R e W base ok v xs) (hE : d.E = []) {g : Nat} (hne : some g ≠ v.ownBlock) : d.R e W base (fun k => ok k ∧ k ≠ g) v xs :=
  R_mono (R_tight hE h) (fun k hk => ⟨h.1 k hk.symm, fun e_ => hne (by rw [← e_]; exact hk)⟩)
end
end Kd
end Go.Proofs.YtpnmmpfidiegcaaW.PrintWords
namespace Go.Proofs.YtpnmmpfidiegcaaW.PrintWords
open Go.RowKit
namespace Kd
def V {α : Type} (d : Kd α) (_e : Nat) (W : World) (_base : Nat) (ok : Nat → Prop) (v : Value) (xs : List α) : Prop := ∃ A c, v = .slice A xs.length c ∧ xs.length ≤ c ∧ F d W ok A xs.length xs
end Kd
end Go.Proofs.YtpnmmpfidiegcaaW.PrintWords
end
section
namespace Go.Proofs.Ytpnmmpfidiegcaa.C
open Go.RowKit Go.Proofs.YtpnmmpfidiegcaaW.PrintWords Go.Proofs.YtpnmmpfidiegcaaW.PrintLast Go.Proofs.YtpnmmpfidiegcaaW.PrintMore
attribute [local go_sem] max2_int min2_int max_two min_two max_three min_three max_four min_four
set_option linter.unusedVariables false
set_option linter.unusedSimpArgs false
def errW : Option Int → Value
  | none => .nilIface
  | some c => .iface 0 (.int .i64 c)
theorem errW_none : errW none = .nilIface := rfl
theorem errW_some (c : Int) : errW (some c) = .iface 0 (.int .i64 c) := rfl
theorem info52 : (Try.prog.info? 52).map (fun i => (i.zero, i.size, i.bytes)) = some (some (.agg #[(.int .i64 0), (.int .i64 0), (.int .i64 0), (.int .i64 0), (.string ⟨#[]⟩)]), 5, 48) := by kernel_rfl
structure S52 where
  f0 : Int
  f1 : Int
  f2 : Int
  f3 : Int
  f4 : ByteArray
def z52 : S52 := ⟨(0 : Int), (0 : Int), (0 : Int), (0 : Int), (⟨#[]⟩ : ByteArray)⟩
def k52 : Kd S52 := Kd.iso (Kd.pair (Kd.int .i64) (Kd.pair (Kd.int .i64) (Kd.pair (Kd.int .i64) (Kd.pair (Kd.int .i64) Kd.string)))) (fun x : S52 => (x.f0, x.f1, x.f2, x.f3, x.f4))
theorem k52_open {w : World} {x : S52} {cs : List Value} (h : k52.K w x cs) : cs = [.int .i64 x.f0, .int .i64 x.f1, .int .i64 x.f2, .int .i64 x.f3, .string x.f4] := by
  obtain ⟨_, _, rfl, rfl, ⟨_, _, rfl, rfl, ⟨_, _, rfl, rfl, ⟨_, _, rfl, rfl, rfl⟩⟩⟩⟩ := h
  exact rfl
theorem k52_mk (w : World) (x : S52)  : k52.K w x [.int .i64 x.f0, .int .i64 x.f1, .int .i64 x.f2, .int .i64 x.f3, .string x.f4] := ⟨[.int .i64 x.f0], [.int .i64 x.f1, .int .i64 x.f2, .int .i64 x.f3, .string x.f4], rfl, rfl, ⟨[.int .i64 x.f1], [.int .i64 x.f2, .int .i64 x.f3, .string x.f4], rfl, rfl, ⟨[.int .i64 x.f2], [.int .i64 x.f3, .string x.f4], rfl, rfl, ⟨[.int .i64 x.f3], [.string x.f4], rfl, rfl, rfl⟩⟩⟩⟩
theorem k52_mkM (w : World) (base : Nat) (ok : Nat → Prop) (x : S52)  : k52.M w base ok x [.int .i64 x.f0, .int .i64 x.f1, .int .i64 x.f2, .int .i64 x.f3, .string x.f4] := ⟨[.int .i64 x.f0], [.int .i64 x.f1, .int .i64 x.f2, .int .i64 x.f3, .string x.f4], rfl, rfl, ⟨[.int .i64 x.f1], [.int .i64 x.f2, .int .i64 x.f3, .string x.f4], rfl, rfl, ⟨[.int .i64 x.f2], [.int .i64 x.f3, .string x.f4], rfl, rfl, ⟨[.int .i64 x.f3], [.string x.f4], rfl, rfl, rfl⟩⟩⟩⟩
def rd_T52 (xs : List S52) (i : Int) : S52 := xs.getD i.toNat z52
theorem at_T52 {w : World} {A : Option Addr} {n : Nat} {xs : List S52} (h : Kd.C k52 w A n xs) (i : Int) (h0 : 0 ≤ i) (h1 : i < n) : ∃ ad , A = some ad ∧ w.cell? (ad.add (i.toNat * 5)) = some (.int .i64 (rd_T52 xs i).f0) ∧ w.cell? ⟨(ad.add (i.toNat * 5)).block, (ad.add (i.toNat * 5)).off + 1, none⟩ = some (.int .i64 (rd_T52 xs i).f1) ∧ w.cell? ⟨(ad.add (i.toNat * 5)).block, (ad.add (i.toNat * 5)).off + 2, none⟩ = some (.int .i64 (rd_T52 xs i).f2) ∧ w.cell? ⟨(ad.add (i.toNat * 5)).block, (ad.add (i.toNat * 5)).off + 3, none⟩ = some (.int .i64 (rd_T52 xs i).f3) ∧ w.cell? ⟨(ad.add (i.toNat * 5)).block, (ad.add (i.toNat * 5)).off + 4, none⟩ = some (.string (rd_T52 xs i).f4) := by
  obtain ⟨ad, c, e, _, hK, hc0⟩ := Kd.C_get h z52 i h0 h1
  have hc : ∀ j u, c[j]? = some u → w.cell? (ad.add (i.toNat * 5 + j)) = some u := hc0
  obtain rfl := k52_open hK
  exact ⟨ad, e, hc 0 _ rfl, by rw [← add_field _ _ 1 (by omega)]; exact hc 1 _ rfl, by rw [← add_field _ _ 2 (by omega)]; exact hc 2 _ rfl, by rw [← add_field _ _ 3 (by omega)]; exact hc 3 _ rfl, by rw [← add_field _ _ 4 (by omega)]; exact hc 4 _ rfl⟩
end Go.Proofs.Ytpnmmpfidiegcaa.C
end
section
namespace Go.Proofs.Ytpnmmpfidiegcaa.C
open Go.RowKit Go.Proofs.YtpnmmpfidiegcaaW.PrintWords Go.Proofs.YtpnmmpfidiegcaaW.PrintLast Go.Proofs.YtpnmmpfidiegcaaW.PrintMore
set_option linter.unusedVariables false
set_option linter.unusedSimpArgs false
def endL : List UInt8 → Nat → Nat → Option Nat
  | [], _, _ => none
  | c :: cs, o, p => if c = 48 then (if o = 1 then some (p + 1) else endL cs (o - 1) (p + 1)) else if c = 49 then endL cs (o + 1) (p + 1) else none
end Go.Proofs.Ytpnmmpfidiegcaa.C
end
section
namespace Go.Proofs.Ytpnmmpfidiegcaa.Plain
open Go.Proofs.Ytpnmmpfidiegcaa.C (endL)
inductive Tr where
  | nil
  | cons (a b : Tr)
def Tr.enc : Tr → List UInt8
  | .nil => [48]
  | .cons a b => 49 :: (a.enc ++ b.enc)
def IsT (l : List UInt8) : Prop := ∃ t : Tr, l = t.enc
theorem endL_enc (t : Tr) : ∀ (r : List UInt8) (o p : Nat), 1 ≤ o → endL (t.enc ++ r) o p = if o = 1 then some (p + t.enc.length) else endL r (o - 1) (p + t.enc.length) := by
  induction t with
  | nil =>
    intro r o p ho
    simp [Tr.enc, endL]
  | cons a b iha ihb =>
    intro r o p ho
    have h1 : endL ((Tr.cons a b).enc ++ r) o p = endL (a.enc ++ (b.enc ++ r)) (o + 1) (p + 1) := by
      simp [Tr.enc, endL]
    rw [h1, iha _ _ _ (by omega), if_neg (by omega), Nat.add_sub_cancel, ihb _ _ _ ho]
    have : p + 1 + a.enc.length + b.enc.length = p + (Tr.cons a b).enc.length := by simp [Tr.enc]; omega
    rw [this]
theorem endL_tree {a : List UInt8} (h : IsT a) (r : List UInt8) (p : Nat) : endL (a ++ r) 1 p = some (p + a.length) := by
  obtain ⟨t, rfl⟩ := h
  rw [endL_enc t r 1 p (Nat.le_refl _), if_pos rfl]
theorem endL_forest : ∀ (l : List UInt8) (o p q : Nat), 1 ≤ o → endL l o p = some q → ∃ ts : List Tr, ts.length = o ∧ ∃ r, l = ts.flatMap Tr.enc ++ r ∧ q = p + (ts.flatMap Tr.enc).length := by
  intro l
  induction l with
  | nil => intro o p q _ h; simp [endL] at h
  | cons c cs ih =>
    intro o p q ho h
    simp only [endL] at h
    by_cases h48 : c = 48
    · subst h48
      rw [if_pos rfl] at h
      by_cases h1 : o = 1
      · subst h1
        rw [if_pos rfl] at h
        exact ⟨[.nil], rfl, cs, by simp [Tr.enc], by simp [Tr.enc]; simpa using h.symm⟩
      · rw [if_neg h1] at h
        obtain ⟨ts, hl, r, e, hq⟩ := ih _ _ _ (by omega) h
        refine ⟨.nil :: ts, by simp; omega, r, by simp [Tr.enc, e], ?_⟩
        rw [List.flatMap_cons, List.length_append]
        show q = p + (1 + _)
        omega
    · rw [if_neg h48] at h
      by_cases h49 : c = 49
      · subst h49
        rw [if_pos rfl] at h
        obtain ⟨ts, hl, r, e, hq⟩ := ih _ _ _ (by omega) h
        match ts, hl with
        | a :: b :: ts, hl =>
          refine ⟨.cons a b :: ts, by simp at hl ⊢; omega, r, by simp [Tr.enc, e], ?_⟩
          rw [List.flatMap_cons, List.flatMap_cons, List.length_append, List.length_append] at hq
          rw [List.flatMap_cons, List.length_append]
          simp only [Tr.enc, List.length_cons, List.length_append]
          omega
        | [a], hl => simp at hl; omega
        | [], hl => simp at hl
      · rw [if_neg h49] at h; cases h
theorem endL_some {l : List UInt8} {p q : Nat} (h : endL l 1 p = some q) : ∃ a r, IsT a ∧ l = a ++ r ∧ q = p + a.length := by
  obtain ⟨ts, hl, r, e, hq⟩ := endL_forest l 1 p q (Nat.le_refl _) h
  match ts, hl with
  | [t], _ => exact ⟨t.enc, r, ⟨t, rfl⟩, by simpa using e, by simpa using hq⟩
theorem isT_iff {l : List UInt8} : IsT l ↔ endL l 1 0 = some l.length := by
  constructor
  · intro h
    have := endL_tree h [] 0
    simpa using this
  · intro h
    obtain ⟨a, r, ha, e, hq⟩ := endL_some h
    have : r = [] := by
      have := congrArg List.length e
      simp at this
      exact List.length_eq_zero_iff.1 (by omega)
    subst this
    simpa [e] using ha
def num : Nat → List UInt8
  | 0 => [48]
  | n + 1 => 49 :: 48 :: num n
end Go.Proofs.Ytpnmmpfidiegcaa.Plain
end
section
namespace Go.Proofs.Ytpnmmpfidiegcaa.Plain
def Tr.size : Tr → Nat
  | .nil => 1
  | .cons a b => 1 + a.size + b.size
def Tr.hd : Tr → Tr
  | .nil => .nil
  | .cons a _ => a
def Tr.tl : Tr → Tr
  | .nil => .nil
  | .cons _ b => b
def Tr.isNil : Tr → Bool
  | .nil => true
  | .cons _ _ => false
theorem Tr.enc_length : ∀ t : Tr, t.enc.length = t.size
  | .nil => rfl
  | .cons a b => by simp [Tr.enc, Tr.size, enc_length a, enc_length b]; omega
theorem Tr.size_pos : ∀ t : Tr, 1 ≤ t.size
  | .nil => Nat.le_refl _
  | .cons a b => by simp [Tr.size]; omega
def stk : List UInt8 → List Tr
  | [] => []
  | c :: l => if c = 48 then .nil :: stk l else match stk l with
    | a :: b :: s => .cons a b :: s
    | _ => []
theorem stk_48 (l : List UInt8) : stk (48 :: l) = .nil :: stk l := by rw [stk, if_pos rfl]
theorem stk_49 {l : List UInt8} {a b : Tr} {s : List Tr} (h : stk l = a :: b :: s) : stk (49 :: l) = .cons a b :: s := by rw [stk, if_neg (by decide), h]
def dec (l : List UInt8) : Tr := (stk l).headD .nil
theorem stk_enc : ∀ (t : Tr) (r : List UInt8), stk (t.enc ++ r) = t :: stk r
  | .nil, r => by simp [Tr.enc, stk]
  | .cons a b, r => by
    have : stk ((Tr.cons a b).enc ++ r) = stk (49 :: (a.enc ++ (b.enc ++ r))) := by simp [Tr.enc]
    rw [this, stk, if_neg (by decide), stk_enc a, stk_enc b]
theorem dec_enc (t : Tr) : dec t.enc = t := by
  have := stk_enc t []
  rw [List.append_nil] at this
  rw [dec, this]; rfl
theorem Tr.enc_inj {a b : Tr} (h : a.enc = b.enc) : a = b := by rw [← dec_enc a, ← dec_enc b, h]
theorem enc_dec {l : List UInt8} (h : IsT l) : (dec l).enc = l := by
  obtain ⟨t, rfl⟩ := h
  rw [dec_enc]
def Good : List UInt8 → Prop
  | [] => True
  | c :: l => (c = 48 ∨ c = 49 ∧ 2 ≤ (stk l).length) ∧ Good l
theorem good_enc : ∀ (t : Tr) (r : List UInt8), Good r → Good (t.enc ++ r)
  | .nil, r, h => ⟨.inl rfl, h⟩
  | .cons a b, r, h => by
    have e : (Tr.cons a b).enc ++ r = 49 :: (a.enc ++ (b.enc ++ r)) := by simp [Tr.enc]
    rw [e]
    exact ⟨.inr ⟨rfl, by rw [stk_enc, stk_enc]; simp⟩, good_enc a _ (good_enc b _ h)⟩
theorem good_isT {l : List UInt8} (h : IsT l) : Good l := by
  obtain ⟨t, rfl⟩ := h
  have := good_enc t [] trivial
  rwa [List.append_nil] at this
theorem good_drop : ∀ (l : List UInt8) (i : Nat) (h : i < l.length), Good l → (l[i] = 48 ∨ l[i] = 49 ∧ 2 ≤ (stk (l.drop (i + 1))).length)
  | c :: l, 0, _, g => g.1
  | c :: l, i + 1, h, g => good_drop l i (by simpa using h) g.2
theorem stk_isT {l : List UInt8} (h : IsT l) : stk l = [dec l] := by
  obtain ⟨t, rfl⟩ := h
  have := stk_enc t []
  rw [List.append_nil] at this
  rw [dec_enc, this]; rfl
theorem stk_size : ∀ l : List UInt8, ((stk l).map Tr.size).sum ≤ l.length
  | [] => Nat.le_refl _
  | c :: l => by
    have ih := stk_size l
    rw [stk]
    split
    · simp [Tr.size]; omega
    · split
      · rename_i a b s e
        rw [e] at ih
        simp [Tr.size] at ih ⊢; omega
      · simp
end Go.Proofs.Ytpnmmpfidiegcaa.Plain
end
section
namespace Go.Proofs.Ytpnmmpfidiegcaa.C
open Go.RowKit Go.Proofs.YtpnmmpfidiegcaaW.PrintWords Go.Proofs.YtpnmmpfidiegcaaW.PrintLast Go.Proofs.YtpnmmpfidiegcaaW.PrintMore
open Go.Proofs.Ytpnmmpfidiegcaa.Plain (Tr)
set_option linter.unusedVariables false
set_option linter.unusedSimpArgs false
def Nd (w : World) : Tr → Value → Prop
  | .nil, v => v = .pointer none
  | .cons a b, v => ∃ g va vb, v = .pointer (some ⟨g, 0, none⟩) ∧ w.heap[g]? = some (.cells #[va, vb, .int .i64 ((1 + a.size + b.size : Nat) : Int)] 59 (0, 0)) ∧ Nd w a va ∧ Nd w b vb
def NK (w w' : World) : Prop := ∀ (g : Nat) (cs : Array Value), w.heap[g]? = some (.cells cs 59 (0, 0)) → w'.heap[g]? = some (.cells cs 59 (0, 0))
theorem NK.refl (w : World) : NK w w := fun _ _ h => h
theorem NK.trans {a b c : World} (h : NK a b) (k : NK b c) : NK a c := fun g cs e => k g cs (h g cs e)
theorem NK.below {w w' : World} (h : Below w.heap.size w w') : NK w w' := fun g cs e => (h.block g (blk_lt e)).trans e
theorem NK.alloc (w : World) (o : Obj) : NK w (w.alloc o) := NK.below (below_alloc (Below.refl _ _) o)
theorem NK.drew (w : World) : NK w w.drew := fun _ _ h => h
theorem NK.grown {w w' : World} {base n size e : Nat} {v : Value} {xs : List Value} (h : w.grownBy w' v.ownBlock) (ho : w.ownsRow base e size v n xs) (hne : e ≠ 59) : NK w w' := by
  intro g cs hg
  refine blk_grown hg h fun hk => ?_
  obtain ⟨cells, hc⟩ := own_typed ho g hk.symm
  rw [hg] at hc
  injection hc with hc
  injection hc with _ ht
  exact hne ht.symm
theorem NK.set {w : World} {g t : Nat} {cs : Array Value} (hg : w.heap[g]? = some (.cells cs t (0, 0))) (hne : t ≠ 59) (i : Nat) (u : Value) : NK w (w.setCell ⟨g, i, none⟩ u) := by
  intro g' cs' h'
  refine blk_far h' (fun he => ?_) u
  subst he
  rw [hg] at h'
  injection h' with h'
  injection h' with _ ht
  exact hne ht
theorem Nd.keep {w w' : World} (h : NK w w') : ∀ (t : Tr) (v : Value), Nd w t v → Nd w' t v
  | .nil, _, e => e
  | .cons a b, v, ⟨g, va, vb, e, hg, ha, hb⟩ => ⟨g, va, vb, e, h g _ hg, keep h a va ha, keep h b vb hb⟩
theorem Nd.same {w : World} : ∀ {t u : Tr} {v : Value}, Nd w t v → Nd w u v → t = u
  | .nil, .nil, _, _, _ => rfl
  | .nil, .cons _ _, v, h, ⟨_, _, _, e, _⟩ => by rw [show v = _ from h] at e; cases e
  | .cons _ _, .nil, v, ⟨_, _, _, e, _⟩, h => by rw [show v = _ from h] at e; cases e
  | .cons a b, .cons c d, v, ⟨g, va, vb, e, hg, ha, hb⟩, ⟨g', vc, vd, e', hg', hc, hd⟩ => by
    rw [e] at e'
    injection e' with e'
    injection e' with e'
    injection e' with e'
    subst e'
    rw [hg] at hg'
    injection hg' with hg'
    injection hg' with hg'
    injection hg' with hg'
    injection hg' with h1 hg'
    injection hg' with h2 hg'
    subst h1 h2
    rw [Nd.same ha hc, Nd.same hb hd]
theorem Nd.ptr {w : World} {t : Tr} {v : Value} (h : Nd w t v) : ∃ p, v = .pointer p := by
  cases t with
  | nil => exact ⟨_, h⟩
  | cons a b => obtain ⟨g, va, vb, rfl, _⟩ := h; exact ⟨_, rfl⟩
set_option maxHeartbeats 1000000 in
theorem Size_calls (t : Tr) (v : Value) (w : World) (h : Nd w t v) : Calls Try.prog 39 #[v] w fun e w' => e = .returned (.int .i64 t.size) ∧ w = w' := by
  cases t with
  | nil =>
    obtain rfl : v = .pointer none := h
    go_enter Try.func39, Try.ntmps39
    go_wp2
    go_ret
    exact ⟨rfl, rfl⟩
  | cons a b =>
    obtain ⟨g, va, vb, rfl, hg, _, _⟩ := h
    have c2 := (blk_cell hg 2).trans rfl
    clear hg
    go_enter Try.func39, Try.ntmps39
    go_wp2
    go_ret
    exact ⟨rfl, rfl⟩
set_option maxHeartbeats 1000000 in
theorem Cons_calls (a b : Tr) (va vb : Value) (w : World) (ha : Nd w a va) (hb : Nd w b vb) (za : a.size ≤ 1000000000000) (zb : b.size ≤ 1000000000000) :
    Calls Try.prog 10 #[va, vb] w fun e w' => ∃ u, e = .returned u ∧ Nd w' (.cons a b) u ∧ Below w.heap.size w w' := by
  obtain ⟨pa, rfl⟩ := Nd.ptr ha
  obtain ⟨pb, rfl⟩ := Nd.ptr hb
  have HA := Aside0.mk ha
  have HB := Aside0.mk hb
  clear ha hb
  go_enter Try.func10, Try.ntmps10
  go_wp2_with fail
  refine (Size_calls a (.pointer pa) _ HA.out).mono ?_
  rintro e w' ⟨rfl, rfl⟩
  go_wp2_with fail
  refine (Size_calls b (.pointer pb) _ HB.out).mono ?_
  rintro e w' ⟨rfl, rfl⟩
  go_wp2
  go_ret
  refine ⟨_, rfl, ⟨_, .pointer pa, .pointer pb, rfl, ?_, Nd.keep (NK.alloc _ _) _ _ HA.out, Nd.keep (NK.alloc _ _) _ _ HB.out⟩, (Below.refl _ _).alloc (Nat.le_refl _) _⟩
  rw [blk_new, show ((1 + a.size + b.size : Nat) : Int) = 1 + (a.size : Int) + b.size from by omega]
end Go.Proofs.Ytpnmmpfidiegcaa.C
end
section
namespace Go.Proofs.Ytpnmmpfidiegcaa.Plain
theorem good_cat : ∀ l : List UInt8, Good l → (stk l).flatMap Tr.enc = l
  | [], _ => rfl
  | c :: l, h => by
    have ih := good_cat l h.2
    rcases h.1 with rfl | ⟨rfl, h2⟩
    · rw [stk_48, List.flatMap_cons, ih]; rfl
    · obtain ⟨a, b, s, e⟩ : ∃ a b s, stk l = a :: b :: s := by
        cases h1 : stk l with
        | nil => rw [h1] at h2; simp at h2
        | cons a l' => cases l' with
          | nil => rw [h1] at h2; simp at h2
          | cons b s => exact ⟨a, b, s, rfl⟩
      rw [e] at ih
      rw [stk_49 e, List.flatMap_cons]
      rw [List.flatMap_cons, List.flatMap_cons] at ih
      simp only [Tr.enc, List.cons_append, List.append_assoc]
      rw [ih]
theorem isT_stk {l : List UInt8} : IsT l ↔ Good l ∧ (stk l).length = 1 := by
  constructor
  · intro h
    exact ⟨good_isT h, by rw [stk_isT h]; rfl⟩
  · rintro ⟨h, h1⟩
    obtain ⟨t, e⟩ := List.length_eq_one_iff.1 h1
    have := good_cat l h
    rw [e, List.flatMap_cons] at this
    exact ⟨t, by simpa using this.symm⟩
end Go.Proofs.Ytpnmmpfidiegcaa.Plain
end
