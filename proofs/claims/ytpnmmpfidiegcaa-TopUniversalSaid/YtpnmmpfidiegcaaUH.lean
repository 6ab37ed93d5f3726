/- Texts of this claim, together: what the functions return, and what they say in plain words. -/
import Derived.Test.YtpnmmpfidiegcaaUC
import Derived.Test.YtpnmmpfidiegcaaUG
import Derived.BigQuiet
import Derived.Deep.QuietTactic
section
namespace Go.Proofs.Ytpnmmpfidiegcaa.C
open Go.RowKit Go.Proofs.YtpnmmpfidiegcaaW.PrintWords Go.Proofs.YtpnmmpfidiegcaaW.PrintLast Go.Proofs.YtpnmmpfidiegcaaW.PrintMore
open Go.Proofs.Ytpnmmpfidiegcaa.Plain (totN tot_init reg_tot after_regs Goes goes_of_after Tr dec Rg upd exec Right Reg bl IsT OKP after init runM ValidT)
set_option linter.unusedVariables false
set_option linter.unusedSimpArgs false
def nils (n : Nat) : List Value := List.replicate n (.pointer none)
theorem made_nils (n : Nat) : madeCells #[.pointer none] n = (nils n).toArray := by
  apply Array.ext'
  apply List.ext_getElem
  · simp [madeCells, nils]
  · intro i h1 h2
    simp [madeCells, nils, Nat.mod_one]
theorem nils_at {n i : Nat} (h : i < n) : (nils n)[i]? = some (.pointer none) := by simp [nils, h]
theorem make_nodes (w : World) (n : Nat) (hn : n ≤ 1000000) : ∃ w1, (Instr.makeSlice 50 (.int .i64 (n : Int)) (.int .i64 (n : Int))).run Try.prog w = .ok (.slice (some ⟨w.heap.size, 0, none⟩) n n) w1 ∧
    w1.heap[w.heap.size]? = some (.cells (nils n).toArray 25 (0, 0)) ∧ Below w.heap.size w w1 ∧ w1.heap.size = w.heap.size + 1 := by
  refine ⟨w.alloc (.cells (madeCells #[.pointer none] n) 25), run_make_row' (P := Try.prog) 50 25 (.pointer none) 8 Try.underlying50 infoNp rfl .i64 .i64 n (by omega) (by omega) w, ?_, below_alloc (Below.refl _ _) _, by simp⟩
  rw [blk_new, made_nils]
def SmallR (r : Rg) : Prop := ∀ i, (r i).size ≤ 2000000
theorem SmallR.upd {r : Rg} (h : SmallR r) (a : Nat) {t : Tr} (ht : t.size ≤ 2000000) : SmallR (upd r a t) := fun i => by
  unfold Plain.upd
  split
  · exact ht
  · exact h i
theorem dec_size {l : List UInt8} (h : IsT l) : (dec l).size = l.length := by rw [← Tr.enc_length, Plain.enc_dec h]
theorem exec_small {x : S52} {i n : Int} (hx : Right x i n) {r : Rg} (h : SmallR r) {q : Int × Rg} (e : exec x r = some q) : SmallR q.2 := by
  unfold exec at e
  split at e
  · rename_i h0
    cases e
    refine h.upd _ ?_
    rcases hx with hx | hx | hx | hx
    · rw [dec_size hx.2.2.2.2.2, Plain.bl_len]; exact hx.2.2.2.2.1
    all_goals omega
  split at e
  · cases e; exact h.upd _ (h _)
  split at e
  · split at e
    · cases e
    · cases e; exact h.upd _ (by simp only [Tr.size]; omega)
  split at e
  · cases e
    refine h.upd _ (Nat.le_trans ?_ (h x.f2.toNat))
    cases r x.f2.toNat with
    | nil => exact Nat.le_refl _
    | cons a b => simp only [Tr.hd, Tr.size]; omega
  split at e
  · cases e
    refine h.upd _ (Nat.le_trans ?_ (h x.f2.toNat))
    cases r x.f2.toNat with
    | nil => exact Nat.le_refl _
    | cons a b => simp only [Tr.tl, Tr.size]; omega
  · cases e; exact h
theorem exec_in {x : S52} {i n : Nat} (hx : Right x i n) {r : Rg} {q : Int × Rg} (e : exec x r = some q) (hi : i < n := by omega) : 0 ≤ (i : Int) + q.1 ∧ (i : Int) + q.1 ≤ n := by
  unfold exec at e
  unfold Right at hx
  split at e
  · cases e; constructor <;> dsimp only <;> omega
  split at e
  · cases e; constructor <;> dsimp only <;> omega
  split at e
  · split at e
    · cases e
    · cases e; constructor <;> dsimp only <;> omega
  split at e
  · cases e; constructor <;> dsimp only <;> omega
  split at e
  · cases e; constructor <;> dsimp only <;> omega
  · have : -(i : Int) ≤ x.f2 ∧ x.f2 ≤ (n : Int) - i := by omega
    cases e
    constructor <;> dsimp only <;> split <;> omega
theorem reg_cell {w : World} {rb : Nat} {xs : List Value} {i : Nat} {v : Value} (h : w.heap[rb]? = some (.cells xs.toArray 25 (0, 0))) (hv : xs[i]? = some v) : w.cell? ⟨rb, i, none⟩ = some v := by
  rw [blk_cell h i]; simpa using hv
theorem reg_int {n : Int} (h : Reg n) : ∃ i : Nat, n = i ∧ i < 32 := ⟨n.toNat, by have := h.1; omega, by have := h.1; have := h.2; omega⟩
def RegsAt (w : World) (rb : Nat) (r : Rg) : Prop := ∃ ys : List Value, w.heap[rb]? = some (.cells ys.toArray 62 (0, 0)) ∧ ys.length = 32 ∧ ∀ i, i < 32 → ∃ q, ys[i]? = some (.pointer q) ∧ Nd w (r i) (.pointer q)
theorem RegsAt.cell {w : World} {rb : Nat} {r : Rg} (h : RegsAt w rb r) (i : Nat) (hi : i < 32) : ∃ q, w.cell? ⟨rb, i, none⟩ = some (.pointer q) ∧ Nd w (r i) (.pointer q) ∧ w.frozen? ⟨rb, i, none⟩ = false := by
  obtain ⟨ys, h1, h2, h3⟩ := h
  obtain ⟨q, e, hn⟩ := h3 i hi
  exact ⟨q, by rw [blk_cell h1 i]; simpa using e, hn, blk_frozen h1 i⟩
theorem RegsAt.below {w w' : World} {rb : Nat} {r : Rg} (h : RegsAt w rb r) (hb : Below w.heap.size w w') : RegsAt w' rb r := by
  obtain ⟨ys, h1, h2, h3⟩ := h
  refine ⟨ys, (hb.block _ (blk_lt h1)).trans h1, h2, fun i hi => ?_⟩
  obtain ⟨q, e, hn⟩ := h3 i hi
  exact ⟨q, e, Nd.keep (NK.below hb) _ _ hn⟩
theorem RegsAt.nk {w : World} {rb : Nat} {r : Rg} (h : RegsAt w rb r) (i : Nat) (u : Value) : NK w (w.setCell ⟨rb, i, none⟩ u) := by
  obtain ⟨ys, h1, h2, h3⟩ := h
  exact NK.set h1 (by decide) i u
theorem RegsAt.put {w : World} {rb : Nat} {r : Rg} (h : RegsAt w rb r) {t : Tr} {q : Option Addr} (i : Nat) (hi : i < 32) (hn : Nd w t (.pointer q)) : RegsAt (w.setCell ⟨rb, i, none⟩ (.pointer q)) rb (upd r i t) := by
  have k := h.nk i (.pointer q)
  obtain ⟨ys, h1, h2, h3⟩ := h
  refine ⟨ys.set i (.pointer q), (blk_set h1 i _).trans (by simp), by rw [List.length_set]; exact h2, fun j hj => ?_⟩
  unfold Plain.upd
  by_cases e : j = i
  · subst e
    exact ⟨q, by rw [List.getElem?_set_self (by omega)], by rw [if_pos rfl]; exact Nd.keep k _ _ hn⟩
  · obtain ⟨q', e', hn'⟩ := h3 j hj
    exact ⟨q', by rw [List.getElem?_set_ne (by omega)]; exact e', by rw [if_neg e]; exact Nd.keep k _ _ hn'⟩
theorem upd_same {r : Rg} {i : Nat} {t : Tr} (h : r i = t) : upd r i t = r := by
  funext j
  unfold Plain.upd
  split
  · rename_i e; rw [e, h]
  · rfl
def SetsTo (w : World) (hb : Nat) (p : List S52) (i : Nat) : Prop := ∃ xs : List Value, w.heap[hb]? = some (.cells xs.toArray 25 (0, 0)) ∧ xs.length = p.length ∧ (∀ j, j < p.length → ∃ q, xs[j]? = some (.pointer q)) ∧ ∀ j (h : j < p.length), j < i → p[j].f0 = 0 → ∃ v, xs[j]? = some v ∧ Nd w (dec (bl p[j].f4)) v
theorem SetsTo.below {w w' : World} {hb i : Nat} {p : List S52} (h : SetsTo w hb p i) (hbl : Below w.heap.size w w') : SetsTo w' hb p i := by
  obtain ⟨xs, g1, g2, g3, g4⟩ := h
  refine ⟨xs, (hbl.block _ (blk_lt g1)).trans g1, g2, g3, fun j hj hji h0 => ?_⟩
  obtain ⟨v, e, hn⟩ := g4 j hj hji h0
  exact ⟨v, e, Nd.keep (NK.below hbl) _ _ hn⟩
theorem SetsTo.put {w : World} {hb rb i : Nat} {p : List S52} {r : Rg} (h : SetsTo w hb p i) (hr : RegsAt w rb r) (j : Nat) (u : Value) : SetsTo (w.setCell ⟨rb, j, none⟩ u) hb p i := by
  have k := hr.nk j u
  obtain ⟨xs, g1, g2, g3, g4⟩ := h
  obtain ⟨ys, h1, _⟩ := hr
  have hne : hb ≠ rb := fun e => by
    subst e
    rw [g1] at h1
    injection h1 with h1
    injection h1 with _ h1
    exact absurd h1 (by decide)
  refine ⟨xs, blk_far g1 (p := ⟨rb, j, none⟩) hne u, g2, g3, fun j' hj hji h0 => ?_⟩
  obtain ⟨v, e, hn⟩ := g4 j' hj hji h0
  exact ⟨v, e, Nd.keep k _ _ hn⟩
theorem step_done {w0 wq V : World} {rb hb i ia : Nat} {p : List S52} {r : Rg} {t : Tr} {q : Option Addr} (hr : RegsAt wq rb r) (hs : SetsTo wq hb p i) (hb0 : Below w0.heap.size w0 wq) (hv : Below wq.heap.size wq V) (hrb : w0.heap.size ≤ rb) (hia : ia < 32) (hn : Nd V t (.pointer q)) :
    RegsAt (V.setCell ⟨rb, ia, none⟩ (.pointer q)) rb (upd r ia t) ∧ SetsTo (V.setCell ⟨rb, ia, none⟩ (.pointer q)) hb p i ∧ Below w0.heap.size w0 (V.setCell ⟨rb, ia, none⟩ (.pointer q)) :=
  ⟨(hr.below hv).put ia hia hn, (hs.below hv).put (hr.below hv) ia _, (below_then hb0 hb0.size hv).setCell (p := ⟨rb, ia, none⟩) hrb _⟩
theorem Size_same (t : Tr) (v : Value) (w : World) (h : Nd w t v) : Calls Try.prog 39 #[v] w fun e w' => e = .returned (.int .i64 t.size) ∧ w' = w := by
  refine (Size_calls t v w h).mono ?_
  rintro e w' ⟨rfl, rfl⟩
  exact ⟨rfl, rfl⟩
theorem exec_cons (ia : Int) (ib ic : Nat) (f4 : ByteArray) (r : Rg) : exec ⟨2, ia, (ib : Int), (ic : Int), f4⟩ r = if 2000000 < 1 + (r ib).size + (r ic).size then none else some (1, upd r ia.toNat (.cons (r ib) (r ic))) := by
  unfold exec
  rw [if_neg (by dsimp only; decide), if_neg (by dsimp only; decide), if_pos rfl]
  simp only [Int.toNat_natCast]
theorem Size_nat (t : Tr) (v : Value) (w : World) (h : Nd w t v) {s : Nat} (hs : t.size = s) : Calls Try.prog 39 #[v] w fun e w' => e = .returned (.int .i64 (s : Int)) ∧ w' = w := by
  rw [← hs]
  exact Size_same t v w h
theorem q_next {p : List S52} {Q : Int × Rg × Nat × Bool} {k n a : Nat} {r r' : Rg} {d : Int} (hn : n < k) (hne : a < p.length) {xi : S52} (hg : p.getD (a : Int).toNat ⟨0, 0, 0, 0, ⟨#[]⟩⟩ = xi) (hx : exec xi r = some (d, r'))
    (hQ : Q = ((after p (k - n) a r).1, (after p (k - n) a r).2.1, (after p (k - n) a r).2.2.1 + n, (after p (k - n) a r).2.2.2)) {a' : Nat} (ha' : (a' : Int) = (a : Int) + d) :
    Q = ((after p (k - (n + 1)) a' r').1, (after p (k - (n + 1)) a' r').2.1, (after p (k - (n + 1)) a' r').2.2.1 + (n + 1), (after p (k - (n + 1)) a' r').2.2.2) := by
  obtain ⟨j, hj⟩ : ∃ j, k - n = j + 1 := ⟨k - n - 1, by omega⟩
  rw [hj, after, if_neg (by omega), hg, hx] at hQ
  rw [show k - (n + 1) = j from by omega, ha', hQ]
  simp only [Nat.add_assoc, Nat.add_comm 1 n]
theorem q_stop {p : List S52} {Q : Int × Rg × Nat × Bool} {k n a : Nat} {r : Rg} (hn : n < k) (hne : a < p.length) {xi : S52} (hg : p.getD (a : Int).toNat ⟨0, 0, 0, 0, ⟨#[]⟩⟩ = xi) (hx : exec xi r = none)
    (hQ : Q = ((after p (k - n) a r).1, (after p (k - n) a r).2.1, (after p (k - n) a r).2.2.1 + n, (after p (k - n) a r).2.2.2)) : Q.2.2.2 = false := by
  obtain ⟨j, hj⟩ : ∃ j, k - n = j + 1 := ⟨k - n - 1, by omega⟩
  rw [hj, after, if_neg (by omega), hg, hx] at hQ
  rw [hQ]
def Tracks (p : List S52) (t : Tr) (n a : Nat) (r : Rg) (mo : Int) : Prop := after p n 0 (init t) = ((a : Int), r, n, true) ∧ ∀ j, j ≤ n → (totN (after p j 0 (init t)).2.1 32 : Int) ≤ mo
theorem trk_step {p : List S52} {t : Tr} {n a a' : Nat} {r r' : Rg} {d : Int} (hne : a < p.length) {xi : S52} (hg : p.getD (a : Int).toNat ⟨0, 0, 0, 0, ⟨#[]⟩⟩ = xi) (hx : exec xi r = some (d, r')) (h : after p n 0 (init t) = ((a : Int), r, n, true)) (ha' : (a' : Int) = (a : Int) + d) :
    after p (n + 1) 0 (init t) = ((a' : Int), r', n + 1, true) := by
  have g := goes_of_after p n 0 (init t) (by rw [h]) (by rw [h]) 1
  rw [h] at g
  rw [g, after_regs p 0 (a : Int) r (by omega) (by rw [hg]; exact hx)]
  show ((a : Int) + d, r', 0 + 1 + n, true) = _
  rw [ha', Nat.add_comm 1 n]
theorem trk_next {p : List S52} {t : Tr} {n a a' : Nat} {r r' : Rg} {mo mo' al' : Int} (h : Tracks p t n a r mo) (h2 : after p (n + 1) 0 (init t) = ((a' : Int), r', n + 1, true)) (hal : al' = (totN r' 32 : Int)) (h3 : mo ≤ mo') (h4 : al' ≤ mo') : al' = (totN r' 32 : Int) ∧ Tracks p t (n + 1) a' r' mo' := by
  refine ⟨hal, h2, fun j hj => ?_⟩
  rcases Nat.lt_or_ge n j with h5 | h5
  · obtain rfl : j = n + 1 := by omega
    rw [h2]
    show (totN r' 32 : Int) ≤ mo'
    omega
  · have := h.2 j h5
    omega
theorem totN_far (r : Rg) (a : Nat) (v : Tr) : ∀ m, m ≤ a → totN (upd r a v) m = totN r m
  | 0, _ => rfl
  | m + 1, h => by
    rw [totN, totN, totN_far r a v m (by omega)]
    unfold Plain.upd
    rw [if_neg (by omega)]
theorem totN_upd (r : Rg) (a : Nat) (v : Tr) : ∀ m, a < m → totN (upd r a v) m + (r a).size = totN r m + v.size
  | 0, h => absurd h (Nat.not_lt_zero a)
  | m + 1, h => by
    rw [totN, totN]
    by_cases e : a = m
    · subst e
      rw [totN_far r a v a (Nat.le_refl _)]
      unfold Plain.upd
      rw [if_pos rfl]
      omega
    · have ih := totN_upd r a v m (by omega)
      have e2 : upd r a v m = r m := by unfold Plain.upd; rw [if_neg (by omega)]
      rw [e2]
      omega
theorem small_tot {r : Rg} (h : SmallR r) : ∀ m, totN r m ≤ m * 2000000
  | 0 => Nat.le_refl _
  | m + 1 => by
    have h1 := small_tot h m
    have h2 := h m
    rw [totN, Nat.succ_mul]
    omega
theorem tot_expr {r : Rg} {ia : Nat} {t : Tr} (hr : SmallR r) (hu : SmallR (upd r ia t)) (hia : ia < 32) {al : Int} (h : al = (totN r 32 : Int)) : wrap64 (al + wrap64 ((t.size : Int) - ((r ia).size : Int))) = (totN (upd r ia t) 32 : Int) := by
  have h1 := totN_upd r ia t 32 hia
  have h2 := small_tot hr 32
  have h3 := small_tot hu 32
  have h4 := hr ia
  have ht := hu ia
  unfold Plain.upd at ht
  rw [if_pos rfl] at ht
  generalize totN r 32 = A at *
  generalize totN (upd r ia t) 32 = C at *
  generalize t.size = x at *
  generalize (r ia).size = y at *
  unfold wrap64
  omega
theorem tot_same {r : Rg} {ia : Nat} {t : Tr} (hr : SmallR r) (hu : upd r ia t = r) (hia : ia < 32) {al : Int} (h : al = (totN r 32 : Int)) : wrap64 (al + wrap64 ((t.size : Int) - ((r ia).size : Int))) = (totN r 32 : Int) := by
  have := tot_expr (t := t) hr (by rw [hu]; exact hr) hia h
  rwa [hu] at this
theorem al_start {t : Tr} (hz : t.size ≤ 2000000) : wrap64 (wrap64 ((t.size : Int) + 32) - 1) = (totN (init t) 32 : Int) := by
  rw [tot_init]
  unfold wrap64
  push_cast
  omega
def Followed (w : World) (p : List S52) (t : Tr) (k : Nat) (q : Tr × Nat × Int) (e : Ending) (w' : World) : Prop := Below w.heap.size w w' ∧
  ((q.2.2 = 0 ∧ ∃ v mo, e = .returned (.tuple #[v, .int .i64 (q.2.1 : Nat), .int .i64 0, .int .i64 mo]) ∧ Nd w' q.1 v ∧ (mo ≤ 200000 → Plain.Calm p k 0 (init t))) ∨ (q.2.2 = 7 ∧ ∃ (n mo : Int), e = .returned (.tuple #[.pointer none, .int .i64 n, .int .i64 1, .int .i64 mo]) ∧ (mo ≤ 200000 → Plain.Calm p k 0 (init t))) ∨ (q.2.2 = 3 ∧ ∃ (n : Int), e = .returned (.tuple #[.pointer none, .int .i64 n, .int .i64 2, .int .i64 2000000])))
theorem after_end (p : List S52) {a : Int} {r : Rg} {n : Nat} {r' : Rg} (h : after p n a r = ((p.length : Int), r', n, true)) (j : Nat) (hj : n ≤ j) : (after p j a r).2.1 = r' := by
  have g := goes_of_after p n a r (by rw [h]) (by rw [h]) (j - n)
  rw [show n + (j - n) = j from by omega, h] at g
  rw [g]
  show (after p (j - n) (p.length : Int) r').2.1 = r'
  cases j - n with
  | zero => rfl
  | succ m => rw [after, if_pos rfl]
theorem calm_end {p : List S52} {t : Tr} {n : Nat} {r : Rg} {mo : Int} {k : Nat} (h : Tracks p t n p.length r mo) (hm : mo ≤ 200000) : Plain.Calm p k 0 (init t) := fun j _ => by
  rcases Nat.lt_or_ge n j with h1 | h1
  · rw [after_end p h.1 j (by omega)]
    have := h.2 n (Nat.le_refl _)
    rw [h.1] at this
    have h2 : (totN r 32 : Int) ≤ mo := this
    omega
  · have := h.2 j h1
    omega
theorem calm_on {p : List S52} {t : Tr} {n a : Nat} {r : Rg} {mo : Int} (h : Tracks p t n a r mo) (hm : mo ≤ 200000) : Plain.Calm p n 0 (init t) := fun j hj => by
  have := h.2 j hj
  omega
set_option maxHeartbeats 8000000 in
set_option maxRecDepth 100000 in
theorem follow_go2 (A : Option Addr) (c : Nat) (p : List S52) (t : Tr) (x : Value) (k : Nat) (w : World) (hC : Kd.C k52 w A p.length p) (hp : OKP p) (hx : Nd w t x) (hz : t.size ≤ 2000000) (hk : k ≤ 1000000000) :
    Calls Try.prog 41 #[.slice A p.length c, x, .int .i64 k] w (Followed w p t k (runM p t k)) := by
  have h4 : p.length ≤ 4000 := hp.1
  obtain ⟨px, rfl⟩ := Nd.ptr hx
  have hb0 := blk_new w (.cells #[.pointer none, .pointer none, .pointer none, .pointer none, .pointer none, .pointer none, .pointer none, .pointer none, .pointer none, .pointer none, .pointer none, .pointer none, .pointer none, .pointer none, .pointer none, .pointer none, .pointer none, .pointer none, .pointer none, .pointer none, .pointer none, .pointer none, .pointer none, .pointer none, .pointer none, .pointer none, .pointer none, .pointer none, .pointer none, .pointer none, .pointer none, .pointer none] 62 (0, 0))
  have hbl0 := below_alloc (Below.refl w.heap.size w) (.cells #[.pointer none, .pointer none, .pointer none, .pointer none, .pointer none, .pointer none, .pointer none, .pointer none, .pointer none, .pointer none, .pointer none, .pointer none, .pointer none, .pointer none, .pointer none, .pointer none, .pointer none, .pointer none, .pointer none, .pointer none, .pointer none, .pointer none, .pointer none, .pointer none, .pointer none, .pointer none, .pointer none, .pointer none, .pointer none, .pointer none, .pointer none, .pointer none] 62 (0, 0))
  obtain ⟨w1, hmk, hb1, hbl, hsz⟩ := make_nodes (w.alloc (.cells #[.pointer none, .pointer none, .pointer none, .pointer none, .pointer none, .pointer none, .pointer none, .pointer none, .pointer none, .pointer none, .pointer none, .pointer none, .pointer none, .pointer none, .pointer none, .pointer none, .pointer none, .pointer none, .pointer none, .pointer none, .pointer none, .pointer none, .pointer none, .pointer none, .pointer none, .pointer none, .pointer none, .pointer none, .pointer none, .pointer none, .pointer none, .pointer none] 62 (0, 0))) p.length (by omega)
  have HRB := Aside0.mk ((hbl.block _ (blk_lt hb0)).trans hb0)
  have HHB := Aside0.mk hb1
  have HBW := Aside0.mk (below_then hbl0 hbl0.size hbl)
  have hs1 : (w.alloc (.cells #[.pointer none, .pointer none, .pointer none, .pointer none, .pointer none, .pointer none, .pointer none, .pointer none, .pointer none, .pointer none, .pointer none, .pointer none, .pointer none, .pointer none, .pointer none, .pointer none, .pointer none, .pointer none, .pointer none, .pointer none, .pointer none, .pointer none, .pointer none, .pointer none, .pointer none, .pointer none, .pointer none, .pointer none, .pointer none, .pointer none, .pointer none, .pointer none] 62 (0, 0))).heap.size = w.heap.size + 1 := by simp
  rw [hs1] at hmk HHB hsz
  have HSZ := Aside0.mk hsz
  have HC := Aside0.mk hC
  have HP := Aside0.mk hp
  have HX := Aside0.mk (Nd.keep (NK.below HBW.out) _ _ hx)
  clear hC hp hx hb0 hbl0 hb1 hbl hsz hs1
  go_enter Try.func41, Try.ntmps41
  go_wp2
  clear hmk
  go_loopg [12] (p.length + 1) (fun kq v12 wr => ∃ i : Nat, v12 = .int .i64 i ∧ i ≤ p.length ∧ Aside0 (kq = p.length - i + 1) ∧ Aside0 (SetsTo wr (w.heap.size + 1) p i) ∧ Aside0 (wr.heap[w.heap.size]? = some (.cells #[.pointer none, .pointer none, .pointer none, .pointer none, .pointer none, .pointer none, .pointer none, .pointer none, .pointer none, .pointer none, .pointer none, .pointer none, .pointer none, .pointer none, .pointer none, .pointer none, .pointer none, .pointer none, .pointer none, .pointer none, .pointer none, .pointer none, .pointer none, .pointer none, .pointer none, .pointer none, .pointer none, .pointer none, .pointer none, .pointer none, .pointer none, .pointer none] 62 (0, 0))) ∧ Aside0 (Nd wr t (.pointer px)) ∧ Aside0 (Below w.heap.size w wr))
  case atStart =>
    exact ⟨0, rfl, Nat.zero_le _, ⟨by omega⟩, ⟨nils p.length, HHB.out, by simp [nils], fun j hj => ⟨none, nils_at hj⟩, fun j _ h => absurd h (Nat.not_lt_zero j)⟩, HRB, HX, HBW⟩
  case round =>
    clear HRB HX HHB HBW
    obtain ⟨i, rfl, hi, HI, HL, HRB, HX, HB⟩ := hrel
    by_cases hlt : i < p.length
    · obtain ⟨k2, rfl⟩ : ∃ k2, gk = k2 + 1 := ⟨gk - 1, by have := HI.out; omega⟩
      have hlt1 : (i : Int) < (p.length : Int) := by omega
      have hlt0 : (0 : Int) ≤ (i : Int) := by omega
      obtain ⟨ad, rfl, i0, i1, i2, i3, i4⟩ := at_T52 HC.out (i : Int) hlt0 hlt1
      replace i0 := pw_cell_below HB.out i0
      replace i4 := pw_cell_below HB.out i4
      have hR := HP.out.2.2 i hlt
      have hrd : rd_T52 p (i : Int) = p[i] := by unfold rd_T52; simp [hlt]
      rw [hrd] at i0 i4 hR
      rw [Int.toNat_natCast] at i0 i4
      clear i1 i2 i3 hrd
      by_cases h0 : p[i].f0 = 0
      · have t0 : (p[i].f0 == 0) = true := beq_iff_eq.2 h0
        have HT : Aside0 (GrowOk p[i].f4 2000000 ∧ p[i].f4.size ≤ 100000000) := ⟨by
          rcases hR with hx | hx | hx | hx
          · exact ⟨⟨by have := hx.2.2.2.2.1; omega, hx.2.2.2.2.2⟩, by have := hx.2.2.2.2.1; omega⟩
          all_goals omega⟩
        have H0 := Aside0.mk h0
        clear hR h0
        go_wp2_with (go_at_call 5; (with_reducible refine (grow_yes p[i].f4 2000000 _ HT.out.1 HT.out.2).mono ?_); rintro e w2 ⟨u, rfl, hu, hb2⟩; obtain ⟨pu, rfl⟩ := Nd.ptr hu; have HU := Aside0.mk hu; have HB2 := Aside0.mk hb2; obtain ⟨xs, g1, g2, g3, g4⟩ := HL.out; obtain ⟨q, hq⟩ := g3 i hlt; have g1' := (hb2.block _ (blk_lt g1)).trans g1; have ct : w2.cell? ⟨w.heap.size + 1, i, none⟩ = some (.pointer q) := reg_cell g1' hq; have ft : w2.frozen? ⟨w.heap.size + 1, i, none⟩ = false := blk_frozen g1' i; have HG1 := Aside0.mk g1'; have HG2 := Aside0.mk g2; have HG3 := Aside0.mk g3; have HG4 := Aside0.mk g4; clear hu hb2 g1 g1' g2 g3 g4 hq HL)
        go_roundg k2
        case measure => omega
        case rel =>
          have k1 : NK w2 (w2.setCell ⟨w.heap.size + 1, i, none⟩ (.pointer pu)) := NK.set HG1.out (by decide) i _
          have kk := NK.trans (NK.below HB2.out) k1
          have hne : w.heap.size ≠ w.heap.size + 1 := by omega
          refine ⟨i + 1, by go_num, by omega, ⟨by have := HI.out; omega⟩, ⟨xs.set i (.pointer pu), (blk_set HG1.out i _).trans (by simp), by rw [List.length_set]; exact HG2.out, fun j hj => ?_, fun j hj hji hj0 => ?_⟩, ⟨blk_far ((HB2.out.block _ (blk_lt HRB.out)).trans HRB.out) (p := ⟨w.heap.size + 1, i, none⟩) hne _⟩, ⟨Nd.keep kk _ _ HX.out⟩, ⟨((below_then HB.out HB.out.size HB2.out)).setCell (p := ⟨w.heap.size + 1, i, none⟩) (by show w.heap.size ≤ w.heap.size + 1; omega) _⟩⟩
          · by_cases h : j = i
            · subst h
              exact ⟨pu, by rw [List.getElem?_set_self (by rw [HG2.out]; exact hj)]⟩
            · rw [List.getElem?_set_ne (by omega)]
              exact HG3.out j hj
          · by_cases h : j = i
            · subst h
              exact ⟨.pointer pu, by rw [List.getElem?_set_self (by rw [HG2.out]; exact hj)], Nd.keep k1 _ _ HU.out⟩
            · rw [List.getElem?_set_ne (by omega)]
              obtain ⟨v, hv, hn⟩ := HG4.out j hj (by omega) hj0
              exact ⟨v, hv, Nd.keep kk _ _ hn⟩
      · have t0 : (p[i].f0 == 0) = false := beq_eq_false_iff_ne.2 h0
        have H0 := Aside0.mk h0
        clear h0 hR i4
        go_wp2
        go_roundg k2
        case measure => omega
        case rel =>
          obtain ⟨xs, g1, g2, g3, g4⟩ := HL.out
          refine ⟨i + 1, by go_num, by omega, ⟨by have := HI.out; omega⟩, ⟨xs, g1, g2, g3, fun j hj hji hj0 => ?_⟩, HRB, HX, HB⟩
          rcases Nat.lt_or_ge j i with h | h
          · exact g4 j hj h hj0
          · obtain rfl : j = i := by omega
            exact absurd hj0 H0.out
    · obtain rfl : i = p.length := by omega
      have r0 := (blk_cell HRB.out 0).trans rfl
      have rf0 := blk_frozen HRB.out 0
      obtain ⟨Q, hQ⟩ : ∃ Q, Q = after p k 0 (init t) := ⟨_, rfl⟩
      have HQR : Aside0 (runM p t k = if Q.2.2.2 = true then (if Q.1 = (p.length : Int) then (Q.2.1 0, Q.2.2.1, 0) else (.nil, 0, 7)) else (.nil, 0, 3)) := ⟨by rw [hQ]; rfl⟩
      have HQ := Aside0.mk hQ
      have hz0 : SmallR (init t) := fun i => by
        unfold init
        split
        · exact hz
        · decide
      have HZ0 := Aside0.mk hz0
      have HTZ := Aside0.mk hz
      clear hQ hz0 hlt hz
      go_wp2_with (go_at_call 39; (with_reducible refine (Size_calls t _ _ (Nd.keep (NK.set HRB.out (by decide) 0 (.pointer px)) _ _ HX.out)).mono ?_); rintro e wq ⟨rfl, rfl⟩)
      go_loopg [13, 14, 15, 16] (k + 1) (fun kq v13 v14 v15 v16 wq => ∃ (n a : Nat) (r : Rg) (al mo : Int), v13 = .int .i64 a ∧ v14 = .int .i64 al ∧ v15 = .int .i64 mo ∧ v16 = .int .i64 n ∧ n ≤ k ∧ Aside0 (kq = k - n + 1 ∧ a ≤ p.length) ∧ Aside0 (Q = ((after p (k - n) a r).1, (after p (k - n) a r).2.1, (after p (k - n) a r).2.2.1 + n, (after p (k - n) a r).2.2.2)) ∧ Aside0 (SmallR r) ∧ Aside0 (RegsAt wq w.heap.size r) ∧ Aside0 (SetsTo wq (w.heap.size + 1) p p.length) ∧ Aside0 (Below w.heap.size w wq) ∧ Aside0 (al = (totN r 32 : Int) ∧ Tracks p t n a r mo))
      case atStart =>
        have hrb : wr.heap[w.heap.size]? = some (.cells (nils 32).toArray 62 (0, 0)) := HRB.out
        have hreg : RegsAt wr w.heap.size (fun _ => .nil) := ⟨nils 32, hrb, by simp [nils], fun i hi => ⟨none, nils_at hi, rfl⟩⟩
        have hin : upd (fun _ => Tr.nil) 0 t = init t := by
          funext i
          unfold Plain.upd Plain.init
          rfl
        exact ⟨0, 0, init t, _, _, rfl, rfl, rfl, rfl, Nat.zero_le _, ⟨by omega, Nat.zero_le _⟩, ⟨HQ.out⟩, HZ0, ⟨by rw [← hin]; exact hreg.put 0 (by omega) HX.out⟩, ⟨HL.out.put hreg 0 _⟩, ⟨HB.out.setCell (p := ⟨w.heap.size, 0, none⟩) (Nat.le_refl _) _⟩, ⟨al_start HTZ.out, rfl, fun j hj => by obtain rfl : j = 0 := (by omega); exact Int.le_of_eq (al_start HTZ.out).symm⟩⟩
      case round =>
        clear HRB HL HX HB HZ0 HQ HI
        obtain ⟨n, a, r, al, mo, rfl, rfl, rfl, rfl, hn, HI, HQ, HZ, HR, HS, HB, HTR⟩ := hrel
        obtain ⟨k2, rfl⟩ : ∃ k2, gk = k2 + 1 := ⟨gk - 1, by have := HI.out; omega⟩
        by_cases he : a = p.length
        · have te : ((a : Int) == (p.length : Int)) = true := by rw [he]; simp
          have hq := HQ.out
          have hst : after p (k - n) (a : Int) r = ((a : Int), r, 0, true) := by
            cases k - n with
            | zero => rfl
            | succ j => rw [after, if_pos (by omega)]
          rw [hst] at hq
          obtain ⟨q0, r0, hn0, _⟩ := HR.out.cell 0 (by omega)
          have HN0 := Aside0.mk hn0
          have hfin := HQR.out
          rw [hq, if_pos rfl, if_pos (by show (a : Int) = _; omega)] at hfin
          have HF := Aside0.mk hfin
          have HEQ := Aside0.mk he
          clear hq hst hn0 hfin he
          go_wp2
          refine bodyPost_ret (v := .tuple #[.pointer q0, .int .i64 n, .int .i64 0, .int .i64 mo]) (by simp [results, Try.results41, go_sem]) rfl ?_
          rw [HF.out]
          exact ⟨HB.out, .inl ⟨rfl, .pointer q0, mo, by simp, HN0.out, fun hm => by have h := HTR.out.2; rw [HEQ.out] at h; exact calm_end h hm⟩⟩
        · have te : ((a : Int) == (p.length : Int)) = false := beq_eq_false_iff_ne.2 (by omega)
          by_cases hnk : n = k
          · have tk : ((n : Int) == (k : Int)) = true := by rw [hnk]; simp
            have hq := HQ.out
            rw [hnk, Nat.sub_self, show after p 0 (a : Int) r = ((a : Int), r, 0, true) from rfl] at hq
            have hfin := HQR.out
            rw [hq] at hfin
            have hfin2 : runM p t k = (.nil, 0, 7) := by
              rw [hfin, if_pos rfl, if_neg (by show ¬ ((a : Int) = (p.length : Int)); omega)]
            have HF := Aside0.mk hfin2
            have HEQ := Aside0.mk hnk
            clear hq hfin hfin2 he hnk
            go_wp2
            refine bodyPost_ret (v := .tuple #[.pointer none, .int .i64 n, .int .i64 1, .int .i64 mo]) (by simp [results, Try.results41, go_sem]) rfl ?_
            rw [HF.out]
            exact ⟨HB.out, .inr (.inl ⟨rfl, n, mo, rfl, fun hm => by have h := HTR.out.2; rw [HEQ.out] at h; exact calm_on h hm⟩)⟩
          · have tk : ((n : Int) == (k : Int)) = false := beq_eq_false_iff_ne.2 (by omega)
            have hap : a < p.length := by have := HI.out; omega
            have hnk' : n < k := by omega
            have hg : p.getD ((a : Int).toNat) ⟨0, 0, 0, 0, ⟨#[]⟩⟩ = p[a] := by simp [hap]
            have hR := HP.out.2.2 a hap
            have hrd : rd_T52 p (a : Int) = p[a] := by unfold rd_T52; simp [hap]
            have a1 : (a : Int) < (p.length : Int) := by omega
            have a0 : (0 : Int) ≤ (a : Int) := by omega
            obtain ⟨ad, rfl, i0, i1, i2, i3, i4⟩ := at_T52 HC.out (a : Int) a0 a1
            rw [hrd] at hR
            rw [hrd, Int.toNat_natCast] at i0 i1 i2 i3 i4
            replace i0 := pw_cell_below HB.out i0
            replace i1 := pw_cell_below HB.out i1
            replace i2 := pw_cell_below HB.out i2
            replace i3 := pw_cell_below HB.out i3
            replace i4 := pw_cell_below HB.out i4
            have hset := HS.out
            have hsmall := fun q (e : exec p[a] r = some q) => exec_small hR HZ.out e
            clear hrd
            obtain ⟨xs, g1, g2, g3, g4⟩ := hset
            have g4a := g4 a hap hap
            obtain ⟨qs, eqs⟩ := g3 a hap
            have cs : wr.cell? ⟨w.heap.size + 1, a, none⟩ = some (.pointer qs) := reg_cell g1 eqs
            clear g1 g2 g3 g4
            generalize p[a] = xi at *
            obtain ⟨f0, f1, f2, f3, f4⟩ := xi
            dsimp only at i0 i1 i2 i3 i4 g4a
            have HXB := Aside0.mk (below_alloc (Below.refl wr.heap.size wr) (.cells #[.int .i64 f0, .int .i64 f1, .int .i64 f2, .int .i64 f3, .string f4] 52 (0, 0)))
            have HXX := Aside0.mk (blk_new wr (.cells #[.int .i64 f0, .int .i64 f1, .int .i64 f2, .int .i64 f3, .string f4] 52 (0, 0)))
            rcases hR with ⟨h0, hA, h2, h3, hT⟩ | ⟨h0, hA, h2, h3, hT⟩ | ⟨h0, hA, h2, h3, hT⟩ | ⟨h0, hA, h2a, h2b, h3, hT⟩
            case inl =>
              dsimp only at h0 hA h2 h3 hT
              obtain ⟨ia, ha, ha2⟩ := reg_int hA
              subst h0 ha
              have hx : exec ⟨0, (ia : Int), f2, f3, f4⟩ r = some (1, upd r ia (dec (bl f4))) := by unfold exec; rw [if_pos rfl]; rfl
              have HSM := Aside0.mk (hsmall _ hx)
              obtain ⟨a', ha'⟩ : ∃ a' : Nat, (a' : Int) = (a : Int) + 1 := ⟨a + 1, by omega⟩
              have HQ2 := Aside0.mk (q_next hnk' hap hg hx HQ.out ha'); have HT2 := Aside0.mk (trk_step hap hg hx HTR.out.2.1 ha')
              have HA' : Aside0 ((a' : Int) = (a : Int) + 1 ∧ a' ≤ p.length) := ⟨ha', by omega⟩
              obtain ⟨v, ev, hnv⟩ := g4a rfl
              rw [eqs] at ev
              obtain rfl := Option.some.inj ev
              have HY := Aside0.mk (Nd.keep (NK.below HXB.out) _ _ hnv)
              replace cs := pw_cell_below HXB.out cs
              generalize dec (bl f4) = ty at *
              clear h2 h3 hT hsmall g4a eqs ev hnv hx ha' hA he hnk hg
              go_wp2
              clear cs
              have x1 := (blk_cell HXX.out 1).trans rfl
              obtain ⟨qa, ca, hna, fa⟩ := (HR.out.below HXB.out).cell ia (by omega)
              have HNA := Aside0.mk hna
              clear hna
              go_quiet ((go_at_call 39; first | exact Calls.quiet_of_same (Size_same _ _ _ (Nd.keep (NK.below (pw_below_drewN (Below.refl _ _) _)) _ _ HY.out)) | exact Calls.quiet_of_same (Size_same _ _ _ (Nd.keep (NK.below (pw_below_drewN (Below.refl _ _) _)) _ _ HNA.out))))
              have HBN := Aside0.mk (pw_below_drewN HXB.out nq)
              replace HY := Aside0.mk (Nd.keep (NK.below (pw_below_drewN (Below.refl _ _) nq)) _ _ HY.out)
              replace x1 := pw_cell_below (pw_below_drewN (Below.refl _ _) nq) x1
              obtain ⟨qv, cv, _, fv⟩ := (HR.out.below HBN.out).cell ia (by omega)
              clear ca
              generalize World.drewN _ _ = V at *
              go_wp2
              all_goals (
                go_roundg k2
                case measure => omega
                case rel =>
                  obtain ⟨d1, d2, d3⟩ := step_done HR.out HS.out HB.out HBN.out (Nat.le_refl _) ha2 HY.out
                  exact ⟨n + 1, a', _, _, _, by rw [HA'.out.1], rfl, rfl, by go_num, by omega, ⟨by have := HI.out.1; omega, HA'.out.2⟩, HQ2, HSM, ⟨d1⟩, ⟨d2⟩, ⟨d3⟩, ⟨trk_next HTR.out.2 HT2.out (by first | exact tot_same HZ.out HUS.out ha2 HTR.out.1 | exact tot_expr HZ.out HSM.out ha2 HTR.out.1 | (simp only [Int.toNat_natCast, i64_w]; exact tot_expr HZ.out (by have hs := HSM.out; simp only [Int.toNat_natCast] at hs; exact hs) ha2 HTR.out.1)) (by first | exact Int.le_refl _ | exact h | exact Int.le_of_lt h | (simp only [i64_w]; first | exact Int.le_refl _ | exact h | exact Int.le_of_lt h)) (by first | exact Int.le_refl _ | exact h | exact Int.le_of_lt h | (simp only [i64_w]; first | exact Int.le_refl _ | exact h | exact Int.le_of_lt h))⟩⟩)
            case inr.inl =>
              dsimp only at h0 hA h2 h3 hT g4a
              obtain ⟨ia, ha, ha2⟩ := reg_int hA
              obtain ⟨ib, hb, hb2⟩ := reg_int h2
              subst ha hb
              clear h2
              rcases h0 with h0 | h0 | h0
              · subst h0
                have hx : exec ⟨1, (ia : Int), (ib : Int), f3, f4⟩ r = some (1, upd r ia (r ib)) := by simp [exec]
                have HSM := Aside0.mk (hsmall _ hx)
                obtain ⟨a', ha'⟩ : ∃ a' : Nat, (a' : Int) = (a : Int) + 1 := ⟨a + 1, by omega⟩
                have HQ2 := Aside0.mk (q_next hnk' hap hg hx HQ.out ha'); have HT2 := Aside0.mk (trk_step hap hg hx HTR.out.2.1 ha')
                have HA' : Aside0 ((a' : Int) = (a : Int) + 1 ∧ a' ≤ p.length) := ⟨ha', by omega⟩
                obtain ⟨qb, cb, hnb, _⟩ := HR.out.cell ib (by omega)
                replace cb := pw_cell_below HXB.out cb
                replace hnb := Nd.keep (NK.below HXB.out) _ _ hnb
                have HY := Aside0.mk hnb
                clear h3 hT hsmall g4a hx ha' hA he hnk hg cs hnb eqs
                go_wp2
                clear cb
                have x1 := (blk_cell HXX.out 1).trans rfl
                obtain ⟨qa, ca, hna, fa⟩ := (HR.out.below HXB.out).cell ia (by omega)
                have HNA := Aside0.mk hna
                clear hna
                go_quiet ((go_at_call 39; first | exact Calls.quiet_of_same (Size_same _ _ _ (Nd.keep (NK.below (pw_below_drewN (Below.refl _ _) _)) _ _ HY.out)) | exact Calls.quiet_of_same (Size_same _ _ _ (Nd.keep (NK.below (pw_below_drewN (Below.refl _ _) _)) _ _ HNA.out))))
                have HBN := Aside0.mk (pw_below_drewN HXB.out nq)
                replace HY := Aside0.mk (Nd.keep (NK.below (pw_below_drewN (Below.refl _ _) nq)) _ _ HY.out)
                replace x1 := pw_cell_below (pw_below_drewN (Below.refl _ _) nq) x1
                obtain ⟨qv, cv, _, fv⟩ := (HR.out.below HBN.out).cell ia (by omega)
                clear ca
                generalize World.drewN _ _ = V at *
                go_wp2
                all_goals (
                  go_roundg k2
                  case measure => omega
                  case rel =>
                    obtain ⟨d1, d2, d3⟩ := step_done HR.out HS.out HB.out HBN.out (Nat.le_refl _) ha2 HY.out
                    exact ⟨n + 1, a', _, _, _, by rw [HA'.out.1], rfl, rfl, by go_num, by omega, ⟨by have := HI.out.1; omega, HA'.out.2⟩, HQ2, HSM, ⟨d1⟩, ⟨d2⟩, ⟨d3⟩, ⟨trk_next HTR.out.2 HT2.out (by first | exact tot_same HZ.out HUS.out ha2 HTR.out.1 | exact tot_expr HZ.out HSM.out ha2 HTR.out.1 | (simp only [Int.toNat_natCast, i64_w]; exact tot_expr HZ.out (by have hs := HSM.out; simp only [Int.toNat_natCast] at hs; exact hs) ha2 HTR.out.1)) (by first | exact Int.le_refl _ | exact h | exact Int.le_of_lt h | (simp only [i64_w]; first | exact Int.le_refl _ | exact h | exact Int.le_of_lt h)) (by first | exact Int.le_refl _ | exact h | exact Int.le_of_lt h | (simp only [i64_w]; first | exact Int.le_refl _ | exact h | exact Int.le_of_lt h))⟩⟩)
              · subst h0
                obtain ⟨qb, cb, hnb, _⟩ := HR.out.cell ib (by omega)
                replace cb := pw_cell_below HXB.out cb
                replace hnb := Nd.keep (NK.below HXB.out) _ _ hnb
                cases hr : r ib with
                | nil =>
                  have hx : exec ⟨3, (ia : Int), (ib : Int), f3, f4⟩ r = some (1, upd r ia .nil) := by simp [exec, hr, Tr.hd]
                  have HSM := Aside0.mk (hsmall _ hx)
                  obtain ⟨a', ha'⟩ : ∃ a' : Nat, (a' : Int) = (a : Int) + 1 := ⟨a + 1, by omega⟩
                  have HQ2 := Aside0.mk (q_next hnk' hap hg hx HQ.out ha'); have HT2 := Aside0.mk (trk_step hap hg hx HTR.out.2.1 ha')
                  have HA' : Aside0 ((a' : Int) = (a : Int) + 1 ∧ a' ≤ p.length) := ⟨ha', by omega⟩
                  rw [hr] at hnb
                  obtain rfl : qb = none := Value.pointer.inj hnb
                  have HY := Aside0.mk hnb
                  clear h3 hT hsmall g4a hx ha' hA he hnk hg cs hnb eqs hr
                  go_wp2
                  clear cb
                  have x1 := (blk_cell HXX.out 1).trans rfl
                  obtain ⟨qa, ca, hna, fa⟩ := (HR.out.below HXB.out).cell ia (by omega)
                  have HNA := Aside0.mk hna
                  clear hna
                  go_quiet ((go_at_call 39; first | exact Calls.quiet_of_same (Size_same _ _ _ (Nd.keep (NK.below (pw_below_drewN (Below.refl _ _) _)) _ _ HY.out)) | exact Calls.quiet_of_same (Size_same _ _ _ (Nd.keep (NK.below (pw_below_drewN (Below.refl _ _) _)) _ _ HNA.out))))
                  have HBN := Aside0.mk (pw_below_drewN HXB.out nq)
                  replace HY := Aside0.mk (Nd.keep (NK.below (pw_below_drewN (Below.refl _ _) nq)) _ _ HY.out)
                  replace x1 := pw_cell_below (pw_below_drewN (Below.refl _ _) nq) x1
                  obtain ⟨qv, cv, _, fv⟩ := (HR.out.below HBN.out).cell ia (by omega)
                  clear ca
                  generalize World.drewN _ _ = V at *
                  go_wp2
                  all_goals (
                    go_roundg k2
                    case measure => omega
                    case rel =>
                      obtain ⟨d1, d2, d3⟩ := step_done HR.out HS.out HB.out HBN.out (Nat.le_refl _) ha2 HY.out
                      exact ⟨n + 1, a', _, _, _, by rw [HA'.out.1], rfl, rfl, by go_num, by omega, ⟨by have := HI.out.1; omega, HA'.out.2⟩, HQ2, HSM, ⟨d1⟩, ⟨d2⟩, ⟨d3⟩, ⟨trk_next HTR.out.2 HT2.out (by first | exact tot_same HZ.out HUS.out ha2 HTR.out.1 | exact tot_expr HZ.out HSM.out ha2 HTR.out.1 | (simp only [Int.toNat_natCast, i64_w]; exact tot_expr HZ.out (by have hs := HSM.out; simp only [Int.toNat_natCast] at hs; exact hs) ha2 HTR.out.1)) (by first | exact Int.le_refl _ | exact h | exact Int.le_of_lt h | (simp only [i64_w]; first | exact Int.le_refl _ | exact h | exact Int.le_of_lt h)) (by first | exact Int.le_refl _ | exact h | exact Int.le_of_lt h | (simp only [i64_w]; first | exact Int.le_refl _ | exact h | exact Int.le_of_lt h))⟩⟩)
                | cons ta tb =>
                  have hx : exec ⟨3, (ia : Int), (ib : Int), f3, f4⟩ r = some (1, upd r ia ta) := by simp [exec, hr, Tr.hd]
                  have HSM := Aside0.mk (hsmall _ hx)
                  obtain ⟨a', ha'⟩ : ∃ a' : Nat, (a' : Int) = (a : Int) + 1 := ⟨a + 1, by omega⟩
                  have HQ2 := Aside0.mk (q_next hnk' hap hg hx HQ.out ha'); have HT2 := Aside0.mk (trk_step hap hg hx HTR.out.2.1 ha')
                  have HA' : Aside0 ((a' : Int) = (a : Int) + 1 ∧ a' ≤ p.length) := ⟨ha', by omega⟩
                  rw [hr] at hnb
                  obtain ⟨g, va, vb, eq, hgc, hva, hvb⟩ := hnb
                  obtain rfl := Value.pointer.inj eq
                  obtain ⟨pa, rfl⟩ := Nd.ptr hva
                  obtain ⟨pb, rfl⟩ := Nd.ptr hvb
                  have HY := Aside0.mk hva
                  have cg := (blk_cell hgc 0).trans rfl
                  clear h3 hT hsmall g4a hx ha' hA he hnk hg cs hva hvb hgc eqs hr eq
                  go_wp2
                  clear cb cg
                  have x1 := (blk_cell HXX.out 1).trans rfl
                  obtain ⟨qa, ca, hna, fa⟩ := (HR.out.below HXB.out).cell ia (by omega)
                  have HNA := Aside0.mk hna
                  clear hna
                  go_quiet ((go_at_call 39; first | exact Calls.quiet_of_same (Size_same _ _ _ (Nd.keep (NK.below (pw_below_drewN (Below.refl _ _) _)) _ _ HY.out)) | exact Calls.quiet_of_same (Size_same _ _ _ (Nd.keep (NK.below (pw_below_drewN (Below.refl _ _) _)) _ _ HNA.out))))
                  have HBN := Aside0.mk (pw_below_drewN HXB.out nq)
                  replace HY := Aside0.mk (Nd.keep (NK.below (pw_below_drewN (Below.refl _ _) nq)) _ _ HY.out)
                  replace x1 := pw_cell_below (pw_below_drewN (Below.refl _ _) nq) x1
                  obtain ⟨qv, cv, _, fv⟩ := (HR.out.below HBN.out).cell ia (by omega)
                  clear ca
                  generalize World.drewN _ _ = V at *
                  go_wp2
                  all_goals (
                    go_roundg k2
                    case measure => omega
                    case rel =>
                      obtain ⟨d1, d2, d3⟩ := step_done HR.out HS.out HB.out HBN.out (Nat.le_refl _) ha2 HY.out
                      exact ⟨n + 1, a', _, _, _, by rw [HA'.out.1], rfl, rfl, by go_num, by omega, ⟨by have := HI.out.1; omega, HA'.out.2⟩, HQ2, HSM, ⟨d1⟩, ⟨d2⟩, ⟨d3⟩, ⟨trk_next HTR.out.2 HT2.out (by first | exact tot_same HZ.out HUS.out ha2 HTR.out.1 | exact tot_expr HZ.out HSM.out ha2 HTR.out.1 | (simp only [Int.toNat_natCast, i64_w]; exact tot_expr HZ.out (by have hs := HSM.out; simp only [Int.toNat_natCast] at hs; exact hs) ha2 HTR.out.1)) (by first | exact Int.le_refl _ | exact h | exact Int.le_of_lt h | (simp only [i64_w]; first | exact Int.le_refl _ | exact h | exact Int.le_of_lt h)) (by first | exact Int.le_refl _ | exact h | exact Int.le_of_lt h | (simp only [i64_w]; first | exact Int.le_refl _ | exact h | exact Int.le_of_lt h))⟩⟩)
              · subst h0
                obtain ⟨qb, cb, hnb, _⟩ := HR.out.cell ib (by omega)
                replace cb := pw_cell_below HXB.out cb
                replace hnb := Nd.keep (NK.below HXB.out) _ _ hnb
                cases hr : r ib with
                | nil =>
                  have hx : exec ⟨4, (ia : Int), (ib : Int), f3, f4⟩ r = some (1, upd r ia .nil) := by simp [exec, hr, Tr.tl]
                  have HSM := Aside0.mk (hsmall _ hx)
                  obtain ⟨a', ha'⟩ : ∃ a' : Nat, (a' : Int) = (a : Int) + 1 := ⟨a + 1, by omega⟩
                  have HQ2 := Aside0.mk (q_next hnk' hap hg hx HQ.out ha'); have HT2 := Aside0.mk (trk_step hap hg hx HTR.out.2.1 ha')
                  have HA' : Aside0 ((a' : Int) = (a : Int) + 1 ∧ a' ≤ p.length) := ⟨ha', by omega⟩
                  rw [hr] at hnb
                  obtain rfl : qb = none := Value.pointer.inj hnb
                  have HY := Aside0.mk hnb
                  clear h3 hT hsmall g4a hx ha' hA he hnk hg cs hnb eqs hr
                  go_wp2
                  clear cb
                  have x1 := (blk_cell HXX.out 1).trans rfl
                  obtain ⟨qa, ca, hna, fa⟩ := (HR.out.below HXB.out).cell ia (by omega)
                  have HNA := Aside0.mk hna
                  clear hna
                  go_quiet ((go_at_call 39; first | exact Calls.quiet_of_same (Size_same _ _ _ (Nd.keep (NK.below (pw_below_drewN (Below.refl _ _) _)) _ _ HY.out)) | exact Calls.quiet_of_same (Size_same _ _ _ (Nd.keep (NK.below (pw_below_drewN (Below.refl _ _) _)) _ _ HNA.out))))
                  have HBN := Aside0.mk (pw_below_drewN HXB.out nq)
                  replace HY := Aside0.mk (Nd.keep (NK.below (pw_below_drewN (Below.refl _ _) nq)) _ _ HY.out)
                  replace x1 := pw_cell_below (pw_below_drewN (Below.refl _ _) nq) x1
                  obtain ⟨qv, cv, _, fv⟩ := (HR.out.below HBN.out).cell ia (by omega)
                  clear ca
                  generalize World.drewN _ _ = V at *
                  go_wp2
                  all_goals (
                    go_roundg k2
                    case measure => omega
                    case rel =>
                      obtain ⟨d1, d2, d3⟩ := step_done HR.out HS.out HB.out HBN.out (Nat.le_refl _) ha2 HY.out
                      exact ⟨n + 1, a', _, _, _, by rw [HA'.out.1], rfl, rfl, by go_num, by omega, ⟨by have := HI.out.1; omega, HA'.out.2⟩, HQ2, HSM, ⟨d1⟩, ⟨d2⟩, ⟨d3⟩, ⟨trk_next HTR.out.2 HT2.out (by first | exact tot_same HZ.out HUS.out ha2 HTR.out.1 | exact tot_expr HZ.out HSM.out ha2 HTR.out.1 | (simp only [Int.toNat_natCast, i64_w]; exact tot_expr HZ.out (by have hs := HSM.out; simp only [Int.toNat_natCast] at hs; exact hs) ha2 HTR.out.1)) (by first | exact Int.le_refl _ | exact h | exact Int.le_of_lt h | (simp only [i64_w]; first | exact Int.le_refl _ | exact h | exact Int.le_of_lt h)) (by first | exact Int.le_refl _ | exact h | exact Int.le_of_lt h | (simp only [i64_w]; first | exact Int.le_refl _ | exact h | exact Int.le_of_lt h))⟩⟩)
                | cons ta tb =>
                  have hx : exec ⟨4, (ia : Int), (ib : Int), f3, f4⟩ r = some (1, upd r ia tb) := by simp [exec, hr, Tr.tl]
                  have HSM := Aside0.mk (hsmall _ hx)
                  obtain ⟨a', ha'⟩ : ∃ a' : Nat, (a' : Int) = (a : Int) + 1 := ⟨a + 1, by omega⟩
                  have HQ2 := Aside0.mk (q_next hnk' hap hg hx HQ.out ha'); have HT2 := Aside0.mk (trk_step hap hg hx HTR.out.2.1 ha')
                  have HA' : Aside0 ((a' : Int) = (a : Int) + 1 ∧ a' ≤ p.length) := ⟨ha', by omega⟩
                  rw [hr] at hnb
                  obtain ⟨g, va, vb, eq, hgc, hva, hvb⟩ := hnb
                  obtain rfl := Value.pointer.inj eq
                  obtain ⟨pa, rfl⟩ := Nd.ptr hva
                  obtain ⟨pb, rfl⟩ := Nd.ptr hvb
                  have HY := Aside0.mk hvb
                  have cg := (blk_cell hgc 1).trans rfl
                  clear h3 hT hsmall g4a hx ha' hA he hnk hg cs hva hvb hgc eqs hr eq
                  go_wp2
                  clear cb cg
                  have x1 := (blk_cell HXX.out 1).trans rfl
                  obtain ⟨qa, ca, hna, fa⟩ := (HR.out.below HXB.out).cell ia (by omega)
                  have HNA := Aside0.mk hna
                  clear hna
                  go_quiet ((go_at_call 39; first | exact Calls.quiet_of_same (Size_same _ _ _ (Nd.keep (NK.below (pw_below_drewN (Below.refl _ _) _)) _ _ HY.out)) | exact Calls.quiet_of_same (Size_same _ _ _ (Nd.keep (NK.below (pw_below_drewN (Below.refl _ _) _)) _ _ HNA.out))))
                  have HBN := Aside0.mk (pw_below_drewN HXB.out nq)
                  replace HY := Aside0.mk (Nd.keep (NK.below (pw_below_drewN (Below.refl _ _) nq)) _ _ HY.out)
                  replace x1 := pw_cell_below (pw_below_drewN (Below.refl _ _) nq) x1
                  obtain ⟨qv, cv, _, fv⟩ := (HR.out.below HBN.out).cell ia (by omega)
                  clear ca
                  generalize World.drewN _ _ = V at *
                  go_wp2
                  all_goals (
                    go_roundg k2
                    case measure => omega
                    case rel =>
                      obtain ⟨d1, d2, d3⟩ := step_done HR.out HS.out HB.out HBN.out (Nat.le_refl _) ha2 HY.out
                      exact ⟨n + 1, a', _, _, _, by rw [HA'.out.1], rfl, rfl, by go_num, by omega, ⟨by have := HI.out.1; omega, HA'.out.2⟩, HQ2, HSM, ⟨d1⟩, ⟨d2⟩, ⟨d3⟩, ⟨trk_next HTR.out.2 HT2.out (by first | exact tot_same HZ.out HUS.out ha2 HTR.out.1 | exact tot_expr HZ.out HSM.out ha2 HTR.out.1 | (simp only [Int.toNat_natCast, i64_w]; exact tot_expr HZ.out (by have hs := HSM.out; simp only [Int.toNat_natCast] at hs; exact hs) ha2 HTR.out.1)) (by first | exact Int.le_refl _ | exact h | exact Int.le_of_lt h | (simp only [i64_w]; first | exact Int.le_refl _ | exact h | exact Int.le_of_lt h)) (by first | exact Int.le_refl _ | exact h | exact Int.le_of_lt h | (simp only [i64_w]; first | exact Int.le_refl _ | exact h | exact Int.le_of_lt h))⟩⟩)
            case inr.inr.inr =>
              dsimp only at h0 hA h2a h2b h3 hT g4a
              obtain ⟨ia, ha, ha2⟩ := reg_int hA
              subst h0 ha
              obtain ⟨qj, cj, hnj, _⟩ := HR.out.cell ia (by omega)
              replace cj := pw_cell_below HXB.out cj
              replace hnj := Nd.keep (NK.below HXB.out) _ _ hnj
              cases hr : r ia with
              | nil =>
                have hx : exec ⟨5, (ia : Int), f2, f3, f4⟩ r = some (1, r) := by simp [exec, hr, Tr.isNil]
                have hus := upd_same hr
                have HSM := Aside0.mk (hsmall _ hx)
                obtain ⟨a', ha'⟩ : ∃ a' : Nat, (a' : Int) = (a : Int) + 1 := ⟨a + 1, by omega⟩
                have HQ2 := Aside0.mk (q_next hnk' hap hg hx HQ.out ha'); have HT2 := Aside0.mk (trk_step hap hg hx HTR.out.2.1 ha')
                have HA' : Aside0 ((a' : Int) = (a : Int) + 1 ∧ a' ≤ p.length) := ⟨ha', by omega⟩
                rw [hr] at hnj
                obtain rfl : qj = none := Value.pointer.inj hnj
                have HY := Aside0.mk hnj
                have HUS := Aside0.mk hus
                clear hus h2a h2b
                clear h3 hT hsmall g4a hx ha' hA he hnk hg cs hnj eqs hr
                go_wp2
                clear cj
                have x1 := (blk_cell HXX.out 1).trans rfl
                obtain ⟨qa, ca, hna, fa⟩ := (HR.out.below HXB.out).cell ia (by omega)
                have HNA := Aside0.mk hna
                clear hna
                go_quiet ((go_at_call 39; first | exact Calls.quiet_of_same (Size_same _ _ _ (Nd.keep (NK.below (pw_below_drewN (Below.refl _ _) _)) _ _ HY.out)) | exact Calls.quiet_of_same (Size_same _ _ _ (Nd.keep (NK.below (pw_below_drewN (Below.refl _ _) _)) _ _ HNA.out))))
                have HBN := Aside0.mk (pw_below_drewN HXB.out nq)
                replace HY := Aside0.mk (Nd.keep (NK.below (pw_below_drewN (Below.refl _ _) nq)) _ _ HY.out)
                replace x1 := pw_cell_below (pw_below_drewN (Below.refl _ _) nq) x1
                obtain ⟨qv, cv, _, fv⟩ := (HR.out.below HBN.out).cell ia (by omega)
                clear ca
                generalize World.drewN _ _ = V at *
                go_wp2
                all_goals (
                  go_roundg k2
                  case measure => omega
                  case rel =>
                    obtain ⟨d1, d2, d3⟩ := step_done HR.out HS.out HB.out HBN.out (Nat.le_refl _) ha2 HY.out
                    rw [HUS.out] at d1
                    exact ⟨n + 1, a', _, _, _, by rw [HA'.out.1], rfl, rfl, by go_num, by omega, ⟨by have := HI.out.1; omega, HA'.out.2⟩, HQ2, HSM, ⟨d1⟩, ⟨d2⟩, ⟨d3⟩, ⟨trk_next HTR.out.2 HT2.out (by first | exact tot_same HZ.out HUS.out ha2 HTR.out.1 | exact tot_expr HZ.out HSM.out ha2 HTR.out.1 | (simp only [Int.toNat_natCast, i64_w]; exact tot_expr HZ.out (by have hs := HSM.out; simp only [Int.toNat_natCast] at hs; exact hs) ha2 HTR.out.1)) (by first | exact Int.le_refl _ | exact h | exact Int.le_of_lt h | (simp only [i64_w]; first | exact Int.le_refl _ | exact h | exact Int.le_of_lt h)) (by first | exact Int.le_refl _ | exact h | exact Int.le_of_lt h | (simp only [i64_w]; first | exact Int.le_refl _ | exact h | exact Int.le_of_lt h))⟩⟩)
              | cons ta tb =>
                have hx : exec ⟨5, (ia : Int), f2, f3, f4⟩ r = some (f2, r) := by simp [exec, hr, Tr.isNil]
                have hus := upd_same hr
                have HSM := Aside0.mk (hsmall _ hx)
                obtain ⟨a', ha'⟩ : ∃ a' : Nat, (a' : Int) = (a : Int) + f2 := ⟨((a : Int) + f2).toNat, by omega⟩
                have HQ2 := Aside0.mk (q_next hnk' hap hg hx HQ.out ha'); have HT2 := Aside0.mk (trk_step hap hg hx HTR.out.2.1 ha')
                have HA' : Aside0 ((a' : Int) = (a : Int) + f2 ∧ a' ≤ p.length) := ⟨ha', by omega⟩
                rw [hr] at hnj
                obtain ⟨g, va, vb, eq, hgc, hva, hvb⟩ := id hnj
                obtain rfl := Value.pointer.inj eq
                have HY := Aside0.mk hnj
                have HUS := Aside0.mk hus
                clear hus hva hvb hgc eq
                clear h3 hT hsmall g4a hx ha' hA he hnk hg cs hnj eqs hr
                go_wp2
                clear cj
                have x1 := (blk_cell HXX.out 1).trans rfl
                obtain ⟨qa, ca, hna, fa⟩ := (HR.out.below HXB.out).cell ia (by omega)
                have HNA := Aside0.mk hna
                clear hna
                go_quiet ((go_at_call 39; first | exact Calls.quiet_of_same (Size_same _ _ _ (Nd.keep (NK.below (pw_below_drewN (Below.refl _ _) _)) _ _ HY.out)) | exact Calls.quiet_of_same (Size_same _ _ _ (Nd.keep (NK.below (pw_below_drewN (Below.refl _ _) _)) _ _ HNA.out))))
                have HBN := Aside0.mk (pw_below_drewN HXB.out nq)
                replace HY := Aside0.mk (Nd.keep (NK.below (pw_below_drewN (Below.refl _ _) nq)) _ _ HY.out)
                replace x1 := pw_cell_below (pw_below_drewN (Below.refl _ _) nq) x1
                obtain ⟨qv, cv, _, fv⟩ := (HR.out.below HBN.out).cell ia (by omega)
                clear ca
                generalize World.drewN _ _ = V at *
                go_wp2
                all_goals (
                  go_roundg k2
                  case measure => omega
                  case rel =>
                    obtain ⟨d1, d2, d3⟩ := step_done HR.out HS.out HB.out HBN.out (Nat.le_refl _) ha2 HY.out
                    rw [HUS.out] at d1
                    exact ⟨n + 1, a', _, _, _, by have := HA'.out.1; first | rw [this]; go_num | (go_num; omega), rfl, rfl, by go_num, by omega, ⟨by have := HI.out.1; omega, HA'.out.2⟩, HQ2, HSM, ⟨d1⟩, ⟨d2⟩, ⟨d3⟩, ⟨trk_next HTR.out.2 HT2.out (by first | exact tot_same HZ.out HUS.out ha2 HTR.out.1 | exact tot_expr HZ.out HSM.out ha2 HTR.out.1 | (simp only [Int.toNat_natCast, i64_w]; exact tot_expr HZ.out (by have hs := HSM.out; simp only [Int.toNat_natCast] at hs; exact hs) ha2 HTR.out.1)) (by first | exact Int.le_refl _ | exact h | exact Int.le_of_lt h | (simp only [i64_w]; first | exact Int.le_refl _ | exact h | exact Int.le_of_lt h)) (by first | exact Int.le_refl _ | exact h | exact Int.le_of_lt h | (simp only [i64_w]; first | exact Int.le_refl _ | exact h | exact Int.le_of_lt h))⟩⟩)
            case inr.inr.inl =>
              dsimp only at h0 hA h2 h3 hT g4a
              obtain ⟨ia, ha, ha2⟩ := reg_int hA
              obtain ⟨ib, hb, hb2⟩ := reg_int h2
              obtain ⟨ic, hc, hc2⟩ := reg_int h3
              subst h0 ha hb hc
              obtain ⟨qb, cb, hnb, _⟩ := HR.out.cell ib (by omega)
              replace cb := pw_cell_below HXB.out cb
              replace hnb := Nd.keep (NK.below HXB.out) _ _ hnb
              obtain ⟨qc, cc, hnc, _⟩ := HR.out.cell ic (by omega)
              replace cc := pw_cell_below HXB.out cc
              replace hnc := Nd.keep (NK.below HXB.out) _ _ hnc
              have HNB := Aside0.mk hnb
              have HNC := Aside0.mk hnc
              obtain ⟨sb, hsb⟩ : ∃ sb, (r ib).size = sb := ⟨_, rfl⟩
              obtain ⟨sc, hsc⟩ : ∃ sc, (r ic).size = sc := ⟨_, rfl⟩
              have zb : sb ≤ 2000000 := by rw [← hsb]; exact HZ.out ib
              have zc : sc ≤ 2000000 := by rw [← hsc]; exact HZ.out ic
              have HSB := Aside0.mk hsb
              have HSC := Aside0.mk hsc
              clear hsb hsc
              clear h2 h3 hT hnb hnc g4a hA cs eqs
              go_wp2
              have x1 := (blk_cell HXX.out 1).trans rfl
              have x2 := (blk_cell HXX.out 2).trans rfl
              have x3 := (blk_cell HXX.out 3).trans rfl
              go_quiet ((go_at_call 39; first | exact Calls.quiet_of_same (Size_nat _ _ _ (Nd.keep (NK.below (pw_below_drewN (Below.refl _ _) _)) _ _ HNB.out) HSB.out) | exact Calls.quiet_of_same (Size_nat _ _ _ (Nd.keep (NK.below (pw_below_drewN (Below.refl _ _) _)) _ _ HNC.out) HSC.out)))
              replace HXB := Aside0.mk (pw_below_drewN HXB.out nq)
              replace HNB := Aside0.mk (Nd.keep (NK.below (pw_below_drewN (Below.refl _ _) nq)) _ _ HNB.out)
              replace HNC := Aside0.mk (Nd.keep (NK.below (pw_below_drewN (Below.refl _ _) nq)) _ _ HNC.out)
              replace x1 := pw_cell_below (pw_below_drewN (Below.refl _ _) nq) x1
              replace x2 := pw_cell_below (pw_below_drewN (Below.refl _ _) nq) x2
              replace x3 := pw_cell_below (pw_below_drewN (Below.refl _ _) nq) x3
              replace cb := pw_cell_below (pw_below_drewN (Below.refl _ _) nq) cb
              replace cc := pw_cell_below (pw_below_drewN (Below.refl _ _) nq) cc
              generalize World.drewN _ _ = W1 at *
              have hex := exec_cons (ia : Int) ib ic f4 r
              rw [HSB.out, HSC.out] at hex
              have HZB := Aside0.mk (show (r ib).size ≤ 1000000000000 by rw [HSB.out]; omega)
              have HZC := Aside0.mk (show (r ic).size ≤ 1000000000000 by rw [HSC.out]; omega)
              have HK := Aside0.mk hk
              clear hk
              generalize hbq : decide ((2000000 : Int) ≤ (sb : Int) + (sc : Int)) = bq
              by_cases hl : 2000000 ≤ sb + sc
              · obtain rfl : bq = true := by rw [← hbq]; exact decide_eq_true (by omega)
                rw [if_pos (by omega)] at hex
                have hst := q_stop hnk' hap hg hex HQ.out
                have hfin := HQR.out
                rw [if_neg (by rw [hst]; decide)] at hfin
                have HF := Aside0.mk hfin
                clear hex hst hfin hl hbq zb zc hsmall hg he hnk
                go_wp2
                refine bodyPost_ret (v := .tuple #[.pointer none, .int .i64 n, .int .i64 2, .int .i64 2000000]) (by simp [results, Try.results41, go_sem]) rfl ?_
                rw [HF.out]
                exact ⟨below_then HB.out HB.out.size HXB.out, .inr (.inr ⟨rfl, n, rfl⟩)⟩
              · obtain rfl : bq = false := by rw [← hbq]; exact decide_eq_false (by omega)
                rw [if_neg (by omega)] at hex
                have hx := hex
                have HSM := Aside0.mk (hsmall _ hx)
                obtain ⟨a', ha'⟩ : ∃ a' : Nat, (a' : Int) = (a : Int) + 1 := ⟨a + 1, by omega⟩
                have HQ2 := Aside0.mk (q_next hnk' hap hg hx HQ.out ha'); have HT2 := Aside0.mk (trk_step hap hg hx HTR.out.2.1 ha')
                have HA' : Aside0 ((a' : Int) = (a : Int) + 1 ∧ a' ≤ p.length) := ⟨ha', by omega⟩
                clear hex hx hl hbq zb zc hsmall hg he hnk ha'
                go_wp2
                have jb1 : (ib : Int) < 32 := by omega
                have jb2 : (0 : Int) ≤ (ib : Int) := by omega
                have jc1 : (ic : Int) < 32 := by omega
                have jc2 : (0 : Int) ≤ (ic : Int) := by omega
                have y2 := pw_cell_below (below_drew (Below.refl _ _)) x2
                have y3 := pw_cell_below (below_drew (Below.refl _ _)) x3
                have yb := pw_cell_below (below_drew (Below.refl _ _)) cb
                have yc := pw_cell_below (below_drew (Below.refl _ _)) cc
                have y1 := pw_cell_below (below_drew (Below.refl _ _)) x1
                go_region_law (go_simp; go_at_call 10; (first | (with_reducible refine (Cons_calls (r ib) (r ic) _ _ _ HNB.out HNC.out HZB.out HZC.out).mono ?_) | (with_reducible refine (Cons_calls (r ib) (r ic) _ _ _ (Nd.keep (NK.drew _) _ _ HNB.out) (Nd.keep (NK.drew _) _ _ HNC.out) HZB.out HZC.out).mono ?_) | (with_reducible refine (Cons_calls (r ib) (r ic) _ _ _ (Nd.keep (NK.below (pw_below_drewN (Below.refl _ _) _)) _ _ HNB.out) (Nd.keep (NK.below (pw_below_drewN (Below.refl _ _) _)) _ _ HNC.out) HZB.out HZC.out).mono ?_)); rintro e w2 ⟨u, rfl, hu, hb2⟩; obtain ⟨pu, rfl⟩ := Nd.ptr hu; have HY := Aside0.mk hu; have HB2 := Aside0.mk hb2; clear hu hb2)
                all_goals (
                  replace HXB := Aside0.mk (below_then HXB.out HXB.out.size (Below.trans (below_drew (Below.refl _ _)) HB2.out))
                  replace x1 := pw_cell_below HB2.out y1
                  clear y1 y2 y3 yb yc x2 x3 cb cc jb1 jb2 jc1 jc2 HNB HNC HZB HZC
                  have hk := HK.out
                  have ja1 : (ia : Int) < 32 := by omega
                  have ja2 : (0 : Int) ≤ (ia : Int) := by omega
                  go_wp2
                  obtain ⟨qa, ca, hna, fa⟩ := (HR.out.below HXB.out).cell ia (by omega)
                  have HNA := Aside0.mk hna
                  clear hna
                  go_quiet ((go_at_call 39; first | exact Calls.quiet_of_same (Size_same _ _ _ (Nd.keep (NK.below (pw_below_drewN (Below.refl _ _) _)) _ _ HY.out)) | exact Calls.quiet_of_same (Size_same _ _ _ (Nd.keep (NK.below (pw_below_drewN (Below.refl _ _) _)) _ _ HNA.out))))
                  have HBN := Aside0.mk (pw_below_drewN HXB.out nq)
                  replace HY := Aside0.mk (Nd.keep (NK.below (pw_below_drewN (Below.refl _ _) nq)) _ _ HY.out)
                  replace x1 := pw_cell_below (pw_below_drewN (Below.refl _ _) nq) x1
                  obtain ⟨qv, cv, _, fv⟩ := (HR.out.below HBN.out).cell ia (by omega)
                  clear ca
                  generalize World.drewN _ _ = V at *
                  go_wp2
                  all_goals (
                    go_roundg k2
                    case measure => omega
                    case rel =>
                      obtain ⟨d1, d2, d3⟩ := step_done HR.out HS.out HB.out HBN.out (Nat.le_refl _) ha2 HY.out
                      exact ⟨n + 1, a', _, _, _, by rw [HA'.out.1], rfl, rfl, by go_num, by omega, ⟨by have := HI.out.1; omega, HA'.out.2⟩, HQ2, HSM, ⟨d1⟩, ⟨d2⟩, ⟨d3⟩, ⟨trk_next HTR.out.2 HT2.out (by first | exact tot_same HZ.out HUS.out ha2 HTR.out.1 | exact tot_expr HZ.out HSM.out ha2 HTR.out.1 | (simp only [Int.toNat_natCast, i64_w]; exact tot_expr HZ.out (by have hs := HSM.out; simp only [Int.toNat_natCast] at hs; exact hs) ha2 HTR.out.1)) (by first | exact Int.le_refl _ | exact h | exact Int.le_of_lt h | (simp only [i64_w]; first | exact Int.le_refl _ | exact h | exact Int.le_of_lt h)) (by first | exact Int.le_refl _ | exact h | exact Int.le_of_lt h | (simp only [i64_w]; first | exact Int.le_refl _ | exact h | exact Int.le_of_lt h))⟩⟩))
end Go.Proofs.Ytpnmmpfidiegcaa.C
end
