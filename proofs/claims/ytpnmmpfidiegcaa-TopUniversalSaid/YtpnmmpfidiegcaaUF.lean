/- Texts of this claim, together: what the functions return, and what they say in plain words. -/
import Derived.Test.YtpnmmpfidiegcaaUE
section
namespace Go.Proofs.Ytpnmmpfidiegcaa.Plain
open Go.Proofs.Ytpnmmpfidiegcaa.C
set_option linter.unusedVariables false
set_option linter.unusedSimpArgs false
set_option maxRecDepth 100000
theorem lt_u {a : Nat} (h : a < 129) : a < univ.length := by rw [univ_length]; exact h
theorem lt15 {l : List Tr} (h : l.length = 15) {i : Nat} (hi : i < 15) : i < l.length := by rw [h]; exact hi
theorem lst_tl (L : List Tr) (j : Nat) : (lstT (L.drop j)).tl = lstT (L.drop (j + 1)) := by
  induction L generalizing j with
  | nil => simp [lstT, Tr.tl]
  | cons x L ih =>
    cases j with
    | zero => rfl
    | succ j => rw [List.drop_succ_cons, List.drop_succ_cons]; exact ih j
theorem lst_hd (L : List Tr) (j : Nat) : (lstT (L.drop j)).hd = L.getD j .nil := by
  induction L generalizing j with
  | nil => simp [lstT, Tr.hd]
  | cons x L ih =>
    cases j with
    | zero => rfl
    | succ j => rw [List.drop_succ_cons, List.getD_cons_succ]; exact ih j
theorem numT_tl (n : Nat) : (numT n).tl = numT (n - 1) := by cases n <;> rfl
def FetchAt (b d : Nat) : Prop := b + 7 < 129 ∧ univ.getD b zq = ⟨1, 11, 4, 0, ⟨#[]⟩⟩ ∧ univ.getD (b + 1) zq = ⟨5, 10, 2, 0, ⟨#[]⟩⟩ ∧ univ.getD (b + 2) zq = ⟨5, 14, 4, 0, ⟨#[]⟩⟩ ∧ univ.getD (b + 3) zq = ⟨4, 11, 11, 0, ⟨#[]⟩⟩ ∧ univ.getD (b + 4) zq = ⟨4, 10, 10, 0, ⟨#[]⟩⟩ ∧ univ.getD (b + 5) zq = ⟨5, 14, -4, 0, ⟨#[]⟩⟩ ∧ univ.getD (b + 6) zq = ⟨3, (d : Int), 11, 0, ⟨#[]⟩⟩
theorem fetch_goes {b d : Nat} (hat : FetchAt b d) (hd : d < 15) (n : Nat) (L : List Tr) (o w r p c a f v t l u h : Tr) :
    Goes univ ((n * (1 + 3) + 2) + (0 + 1) + 1) (b : Int) (rgOf [o, w, r, p, lstT L, c, a, f, v, t, numT n, l, u, h, tYes]) ((b + 7 : Nat) : Int) (rgOf ([o, w, r, p, lstT L, c, a, f, v, t, .nil, lstT (L.drop n), u, h, tYes].set d (L.getD n .nil))) := by
  obtain ⟨hb, h0, h1, h2, h3, h4, h5, h6⟩ := hat
  refine g_move 11 4 (lt_u (by omega)) h0 (by simp) ?_
  show Goes _ ((n * (1 + 3) + 2) + (0 + 1)) _ (rgOf [o, w, r, p, lstT L, c, a, f, v, t, numT n, lstT L, u, h, tYes]) _ _
  refine (count_goes (P := univ) (b := b + 1) (m := 1) (n := n) (fun j x => [o, w, r, p, lstT L, c, a, f, v, t, x, lstT (L.drop j), u, h, tYes]) (by rw [univ_length]; omega) h1 h2 h4 h5 (fun _ _ => rfl) (fun _ _ => rfl) (fun _ _ _ => rfl) (fun _ _ => by simp) ?_).trans ?_
  · intro j x hj
    refine g_tail 11 11 (lt_u (by omega)) h3 (by simp) ?_
    show Goes _ _ _ (rgOf [o, w, r, p, lstT L, c, a, f, v, t, x, (lstT (L.drop j)).tl, u, h, tYes]) _ _
    rw [lst_tl]
    exact Goes.refl _ _ _
  · refine g_head d 11 (lt_u (by omega)) h6 (by simp; omega) ?_
    rw [show ([o, w, r, p, lstT L, c, a, f, v, t, .nil, lstT (L.drop n), u, h, tYes] : List Tr).getD 11 .nil = lstT (L.drop n) from rfl, lst_hd]
    exact Goes.refl _ _ _
theorem fetch19 : FetchAt 19 8 := ⟨by decide, rfl, rfl, rfl, rfl, rfl, rfl, rfl⟩
theorem fetch30 : FetchAt 30 9 := ⟨by decide, rfl, rfl, rfl, rfl, rfl, rfl, rfl⟩
theorem fetch38 : FetchAt 38 8 := ⟨by decide, rfl, rfl, rfl, rfl, rfl, rfl, rfl⟩
theorem fetch50 : FetchAt 50 8 := ⟨by decide, rfl, rfl, rfl, rfl, rfl, rfl, rfl⟩
theorem fetch62 : FetchAt 62 8 := ⟨by decide, rfl, rfl, rfl, rfl, rfl, rfl, rfl⟩
theorem fetch73 : FetchAt 73 8 := ⟨by decide, rfl, rfl, rfl, rfl, rfl, rfl, rfl⟩
def rpad (L : List Tr) : Nat → List Tr
  | 0 => []
  | j + 1 => L.getD j .nil :: rpad L j
def glue (L : List Tr) (k : Nat) (v : Tr) (j : Nat) : List Tr := (List.range' j (k - j)).map (L.getD · .nil) ++ v :: L.drop (k + 1)
theorem glue_end (L : List Tr) (k : Nat) (v : Tr) : glue L k v k = v :: L.drop (k + 1) := by unfold glue; rw [Nat.sub_self]; rfl
theorem glue_step (L : List Tr) (k : Nat) (v : Tr) (j : Nat) (h : j < k) : glue L k v j = L.getD j .nil :: glue L k v (j + 1) := by
  unfold glue
  obtain ⟨d, hd⟩ : ∃ d, k - j = d + 1 := ⟨k - j - 1, by omega⟩
  rw [hd, List.range'_succ, show k - (j + 1) = d from by omega]
  rfl
def hF (h : Tr) (L : List Tr) : Nat → Tr
  | 0 => h
  | j + 1 => L.getD j .nil
theorem store2 (k : Nat) (L : List Tr) (o w r p c a f v t : Tr) (hz : ∀ j, j ≤ k → (lstT (glue L k v j)).size ≤ 2000000) : ∀ (j : Nat), j ≤ k → ∀ h : Tr, ∃ h', Goes univ (j * 5 + 2) ((97 : Nat) : Int) (rgOf [o, w, r, p, lstT L, c, a, f, v, t, .nil, lstT (glue L k v j), lstT (rpad L j), h, tYes]) ((103 : Nat) : Int) (rgOf [o, w, r, p, lstT L, c, a, f, v, t, .nil, lstT (glue L k v 0), .nil, h', tYes])
  | 0, _, h => by
    refine ⟨h, ?_⟩
    show Goes univ (0 + 1 + 1) _ _ _ _
    refine g_no 12 _ (lt_u (by decide)) rfl rfl ?_
    show Goes _ _ ((98 : Nat) : Int) (rgOf [o, w, r, p, lstT L, c, a, f, v, t, .nil, lstT (glue L k v 0), .nil, h, tYes]) _ _
    refine g_yes 14 103 _ (lt_u (by decide)) rfl rfl (by decide) ?_
    show Goes _ _ ((103 : Nat) : Int) (rgOf [o, w, r, p, lstT L, c, a, f, v, t, .nil, lstT (glue L k v 0), .nil, h, tYes]) _ _
    exact Goes.refl _ _ _
  | j + 1, hj, h => by
    obtain ⟨h', g⟩ := store2 k L o w r p c a f v t hz j (by omega) (L.getD j .nil)
    refine ⟨h', ?_⟩
    have hs := hz j (by omega)
    have e := glue_step L k v j (by omega)
    rw [show (j + 1) * 5 + 2 = (j * 5 + 2) + 1 + 1 + 1 + 1 + 1 from by omega]
    show Goes univ _ _ (rgOf [o, w, r, p, lstT L, c, a, f, v, t, .nil, lstT (glue L k v (j + 1)), .cons (L.getD j .nil) (lstT (rpad L j)), h, tYes]) _ _
    refine g_yes 12 99 _ (lt_u (by decide)) rfl rfl (by decide) ?_
    show Goes _ _ ((99 : Nat) : Int) (rgOf [o, w, r, p, lstT L, c, a, f, v, t, .nil, lstT (glue L k v (j + 1)), .cons (L.getD j .nil) (lstT (rpad L j)), h, tYes]) _ _
    refine g_head 13 12 (lt_u (by decide)) rfl (lt15 rfl (by decide)) ?_
    show Goes _ _ ((100 : Nat) : Int) (rgOf [o, w, r, p, lstT L, c, a, f, v, t, .nil, lstT (glue L k v (j + 1)), .cons (L.getD j .nil) (lstT (rpad L j)), L.getD j .nil, tYes]) _ _
    refine g_cons 11 13 11 (lt_u (by decide)) rfl (lt15 rfl (by decide)) (by rw [e] at hs; exact hs) ?_
    show Goes _ _ ((101 : Nat) : Int) (rgOf [o, w, r, p, lstT L, c, a, f, v, t, .nil, .cons (L.getD j .nil) (lstT (glue L k v (j + 1))), .cons (L.getD j .nil) (lstT (rpad L j)), L.getD j .nil, tYes]) _ _
    refine g_tail 12 12 (lt_u (by decide)) rfl (lt15 rfl (by decide)) ?_
    show Goes _ _ ((102 : Nat) : Int) (rgOf [o, w, r, p, lstT L, c, a, f, v, t, .nil, .cons (L.getD j .nil) (lstT (glue L k v (j + 1))), lstT (rpad L j), L.getD j .nil, tYes]) _ _
    refine g_yes 14 97 _ (lt_u (by decide)) rfl rfl (by decide) ?_
    show Goes _ _ ((97 : Nat) : Int) (rgOf [o, w, r, p, lstT L, c, a, f, v, t, .nil, .cons (L.getD j .nil) (lstT (glue L k v (j + 1))), lstT (rpad L j), L.getD j .nil, tYes]) _ _
    rw [e] at g
    exact g
theorem store_goes (k : Nat) (L : List Tr) (o w r p c a v t i l u h : Tr) (hz : ∀ j, j ≤ k → (lstT (glue L k v j)).size ≤ 2000000) (hy : ∀ j, j ≤ k → (lstT (rpad L j)).size ≤ 2000000) :
    ∃ h', Goes univ (((k * (3 + 3) + 2) + (((k * 5 + 2) + (0 + 1)) + 1 + 1)) + 1 + 1 + 1) ((85 : Nat) : Int) (rgOf [o, w, r, p, lstT L, c, a, numT k, v, t, i, l, u, h, tYes]) ((104 : Nat) : Int) (rgOf [o, w, r, p, lstT (glue L k v 0), c, a, numT k, v, t, .nil, lstT (glue L k v 0), .nil, h', tYes]) := by
  obtain ⟨h', g⟩ := store2 k L o w r p c a (numT k) v t hz k (Nat.le_refl _) (hF h L k)
  refine ⟨h', ?_⟩
  refine g_move 11 4 (lt_u (by decide)) rfl (lt15 rfl (by decide)) ?_
  show Goes _ _ ((86 : Nat) : Int) (rgOf [o, w, r, p, lstT L, c, a, numT k, v, t, i, lstT L, u, h, tYes]) _ _
  refine g_set 12 _ (lt_u (by decide)) rfl (lt15 rfl (by decide)) ?_
  show Goes _ _ ((87 : Nat) : Int) (rgOf [o, w, r, p, lstT L, c, a, numT k, v, t, i, lstT L, .nil, h, tYes]) _ _
  refine g_move 10 7 (lt_u (by decide)) rfl (lt15 rfl (by decide)) ?_
  show Goes _ _ ((88 : Nat) : Int) (rgOf [o, w, r, p, lstT L, c, a, numT k, v, t, numT k, lstT L, .nil, h, tYes]) _ _
  show Goes _ ((k * (3 + 3) + 2) + (((k * 5 + 2) + (0 + 1)) + 1 + 1)) ((88 : Nat) : Int) (rgOf [o, w, r, p, lstT L, c, a, numT k, v, t, numT k, lstT L, .nil, h, tYes]) _ _
  refine (count_goes (P := univ) (b := 88) (m := 3) (n := k) (fun j x => [o, w, r, p, lstT L, c, a, numT k, v, t, x, lstT (L.drop j), lstT (rpad L j), hF h L j, tYes]) (by rw [univ_length]; omega) rfl rfl rfl rfl (fun _ _ => rfl) (fun _ _ => rfl) (fun _ _ _ => rfl) (fun _ _ => by simp) ?_).trans ?_
  · intro j x hj
    have hs := hy (j + 1) (by omega)
    have e := lst_hd L j
    refine g_head 13 11 (lt_u (by decide)) rfl (lt15 rfl (by decide)) ?_
    show Goes _ _ ((91 : Nat) : Int) (rgOf [o, w, r, p, lstT L, c, a, numT k, v, t, x, lstT (L.drop j), lstT (rpad L j), (lstT (L.drop j)).hd, tYes]) _ _
    rw [lst_hd]
    show Goes _ _ ((91 : Nat) : Int) (rgOf [o, w, r, p, lstT L, c, a, numT k, v, t, x, lstT (L.drop j), lstT (rpad L j), L.getD j .nil, tYes]) _ _
    refine g_cons 12 13 12 (lt_u (by decide)) rfl (lt15 rfl (by decide)) (by exact hs) ?_
    show Goes _ _ ((92 : Nat) : Int) (rgOf [o, w, r, p, lstT L, c, a, numT k, v, t, x, lstT (L.drop j), lstT (rpad L (j + 1)), L.getD j .nil, tYes]) _ _
    refine g_tail 11 11 (lt_u (by decide)) rfl (lt15 rfl (by decide)) ?_
    show Goes _ _ ((93 : Nat) : Int) (rgOf [o, w, r, p, lstT L, c, a, numT k, v, t, x, (lstT (L.drop j)).tl, lstT (rpad L (j + 1)), L.getD j .nil, tYes]) _ _
    rw [lst_tl]
    exact Goes.refl _ _ _
  · have hs := hz k (Nat.le_refl _)
    rw [glue_end] at hs g
    show Goes _ _ ((95 : Nat) : Int) (rgOf [o, w, r, p, lstT L, c, a, numT k, v, t, .nil, lstT (L.drop k), lstT (rpad L k), hF h L k, tYes]) _ _
    refine g_tail 11 11 (lt_u (by decide)) rfl (lt15 rfl (by decide)) ?_
    show Goes _ _ ((96 : Nat) : Int) (rgOf [o, w, r, p, lstT L, c, a, numT k, v, t, .nil, (lstT (L.drop k)).tl, lstT (rpad L k), hF h L k, tYes]) _ _
    rw [lst_tl]
    show Goes _ _ ((96 : Nat) : Int) (rgOf [o, w, r, p, lstT L, c, a, numT k, v, t, .nil, lstT (L.drop (k + 1)), lstT (rpad L k), hF h L k, tYes]) _ _
    refine g_cons 11 8 11 (lt_u (by decide)) rfl (lt15 rfl (by decide)) (by exact hs) ?_
    show Goes _ _ ((97 : Nat) : Int) (rgOf [o, w, r, p, lstT L, c, a, numT k, v, t, .nil, lstT (v :: L.drop (k + 1)), lstT (rpad L k), hF h L k, tYes]) _ _
    show Goes _ ((k * 5 + 2) + (0 + 1)) ((97 : Nat) : Int) (rgOf [o, w, r, p, lstT L, c, a, numT k, v, t, .nil, lstT (v :: L.drop (k + 1)), lstT (rpad L k), hF h L k, tYes]) _ _
    refine g.trans ?_
    refine g_move 4 11 (lt_u (by decide)) rfl (lt15 rfl (by decide)) ?_
    show Goes _ _ ((104 : Nat) : Int) (rgOf [o, w, r, p, lstT (glue L k v 0), c, a, numT k, v, t, .nil, lstT (glue L k v 0), .nil, h', tYes]) _ _
    exact Goes.refl _ _ _
end Go.Proofs.Ytpnmmpfidiegcaa.Plain
end
section
namespace Go.Proofs.Ytpnmmpfidiegcaa.Plain
open Go.Proofs.Ytpnmmpfidiegcaa.C
set_option linter.unusedVariables false
set_option linter.unusedSimpArgs false
set_option maxRecDepth 100000
theorem numT_sz : ∀ n, (numT n).size = 2 * n + 1
  | 0 => rfl
  | n + 1 => by
    show 1 + 1 + (numT n).size = _
    rw [numT_sz n]; omega
def szL : List Tr → Nat
  | [] => 0
  | t :: l => 1 + t.size + szL l
theorem lstT_szL : ∀ l : List Tr, (lstT l).size = szL l + 1
  | [] => rfl
  | t :: l => by
    show 1 + t.size + (lstT l).size = 1 + t.size + szL l + 1
    rw [lstT_szL l]; omega
def totN (r : Rg) : Nat → Nat
  | 0 => 0
  | m + 1 => totN r m + (r m).size
theorem totN_left (r : Rg) : ∀ m, totN r (m + 1) = (r 0).size + totN (fun i => r (i + 1)) m
  | 0 => by simp [totN]
  | m + 1 => by rw [totN, totN_left r m, totN]; omega
theorem totN_le (r : Rg) {m n : Nat} (h : m ≤ n) : totN r m ≤ totN r n := by
  induction h with
  | refl => exact Nat.le_refl _
  | step _ ih => rw [totN]; omega
theorem reg_tot (r : Rg) {i n : Nat} (h : i < n) : (r i).size ≤ totN r n := by
  have := totN_le r (show i + 1 ≤ n from h)
  rw [totN] at this
  omega
theorem szL_tot : ∀ (l : List Tr) (m : Nat) (r : Rg), l.length ≤ m → (∀ i, l.getD i .nil = r i) → szL l ≤ m + totN r m
  | [], _, _, _, _ => Nat.zero_le _
  | t :: l, 0, _, h, _ => absurd h (by simp)
  | t :: l, m + 1, r, h, hr => by
    have ih := szL_tot l m (fun i => r (i + 1)) (by simpa using h) (fun i => by rw [← hr (i + 1), List.getD_cons_succ])
    have h0 := hr 0
    rw [List.getD_cons_zero] at h0
    rw [szL, totN_left, h0]
    omega
theorem rpad_tot (L : List Tr) (r : Rg) (hr : ∀ i, L.getD i .nil = r i) : ∀ j, szL (rpad L j) = j + totN r j
  | 0 => rfl
  | j + 1 => by rw [rpad, szL, rpad_tot L r hr j, totN, hr]; omega
theorem glue_at (L : List Tr) (k : Nat) (v : Tr) (i : Nat) : (glue L k v 0).getD i .nil = if i = k then v else L.getD i .nil := by
  unfold glue
  rw [Nat.sub_zero]
  simp only [List.getD_eq_getElem?_getD]
  rcases Nat.lt_trichotomy i k with h | h | h
  · rw [if_neg (by omega), List.getElem?_append_left (by simp; omega)]
    simp [h]
  · subst h
    rw [if_pos rfl, List.getElem?_append_right (by simp)]
    simp
  · rw [if_neg (by omega), List.getElem?_append_right (by simp; omega)]
    obtain ⟨d, rfl⟩ : ∃ d, i = k + 1 + d := ⟨i - k - 1, by omega⟩
    simp only [List.length_map, List.length_range']
    rw [show k + 1 + d - k = d + 1 from by omega, List.getElem?_cons_succ, List.getElem?_drop]
theorem glue_len (L : List Tr) (k : Nat) (v : Tr) : (glue L k v 0).length = k + 1 + (L.length - (k + 1)) := by
  unfold glue
  simp; omega
theorem glue_sz (L : List Tr) (k : Nat) (v : Tr) : ∀ j, j ≤ k → szL (glue L k v j) ≤ szL (glue L k v 0)
  | 0, _ => Nat.le_refl _
  | j + 1, h => by
    have ih := glue_sz L k v j (by omega)
    rw [glue_step L k v j (by omega), szL] at ih
    omega
theorem body_hd (x : Ins) : (bodyT x).hd = numT x.f1.toNat := by
  unfold bodyT
  split
  · rfl
  · split
    · rfl
    · split
      · split <;> rfl
      · rfl
def AtU (p : List Ins) (j : Nat) (L : List Tr) (s : Rg) : Prop := ∃ o c a f v t i l u h, s = rgOf [o, codeT p, lstT ((p.map itemT).drop j), numT j, lstT L, c, a, f, v, t, i, l, u, h, tYes]
theorem next_goes (R : List Tr) (m : Nat) (hm : m ≤ 4000) (j : Nat) (o w g c a f v t i l u h : Tr) : Goes univ (0 + 1 + 1 + 1 + 1) ((81 : Nat) : Int) (rgOf [o, w, lstT (R.drop j), numT m, g, c, a, f, v, t, i, l, u, h, tYes]) ((5 : Nat) : Int) (rgOf [o, w, lstT (R.drop (j + 1)), numT (m + 1), g, c, a, f, v, t, i, l, u, .nil, tYes]) := by
  refine g_tail 2 2 (lt_u (by decide)) rfl (lt15 rfl (by decide)) ?_
  show Goes _ _ ((82 : Nat) : Int) (rgOf [o, w, (lstT (R.drop j)).tl, numT m, g, c, a, f, v, t, i, l, u, h, tYes]) _ _
  rw [lst_tl]
  show Goes _ _ ((82 : Nat) : Int) (rgOf [o, w, lstT (R.drop (j + 1)), numT m, g, c, a, f, v, t, i, l, u, h, tYes]) _ _
  refine g_set 13 _ (lt_u (by decide)) rfl (lt15 rfl (by decide)) ?_
  show Goes _ _ ((83 : Nat) : Int) (rgOf [o, w, lstT (R.drop (j + 1)), numT m, g, c, a, f, v, t, i, l, u, .nil, tYes]) _ _
  refine g_cons 3 13 3 (lt_u (by decide)) rfl (lt15 rfl (by decide)) (by show 1 + 1 + (numT m).size ≤ _; rw [numT_sz]; omega) ?_
  show Goes _ _ ((84 : Nat) : Int) (rgOf [o, w, lstT (R.drop (j + 1)), numT (m + 1), g, c, a, f, v, t, i, l, u, .nil, tYes]) _ _
  refine g_yes 14 5 _ (lt_u (by decide)) rfl rfl (by decide) ?_
  show Goes _ _ ((5 : Nat) : Int) (rgOf [o, w, lstT (R.drop (j + 1)), numT (m + 1), g, c, a, f, v, t, i, l, u, .nil, tYes]) _ _
  exact Goes.refl _ _ _
theorem finish_goes {p : List Ins} (hp : p.length ≤ 4000) {j : Nat} (hj : j < p.length) {L : List Tr} {r r' : Rg} (hL : ∀ i, L.getD i .nil = r i) (hlen : L.length ≤ 32) (h1 : totN r 32 ≤ 200000) (h2 : totN r' 32 ≤ 200000) {k : Nat} (hk : k < 32) {v : Tr} (hr : r' = upd r k v) (o c a t i l u h : Tr) :
    ∃ n L' s', n ≤ 400 ∧ Goes univ n ((85 : Nat) : Int) (rgOf [o, codeT p, lstT ((p.map itemT).drop j), numT j, lstT L, c, a, numT k, v, t, i, l, u, h, tYes]) ((5 : Nat) : Int) s' ∧ AtU p (j + 1) L' s' ∧ L'.length ≤ 32 ∧ ∀ i, L'.getD i .nil = r' i := by
  have hg : ∀ i, (glue L k v 0).getD i .nil = r' i := fun i => by
    rw [glue_at, hr]
    unfold upd
    split
    · rfl
    · exact hL i
  have hgl : (glue L k v 0).length ≤ 32 := by rw [glue_len]; omega
  have hgs := szL_tot _ 32 r' hgl hg
  obtain ⟨h', g⟩ := store_goes k L o (codeT p) (lstT ((p.map itemT).drop j)) (numT j) c a v t i l u h (fun m hm => by
    have := glue_sz L k v m hm
    rw [lstT_szL]; omega) (fun m hm => by
    have h3 := rpad_tot L r hL m
    have h4 := totN_le r (show m ≤ 32 by omega)
    rw [lstT_szL]; omega)
  refine ⟨_, glue L k v 0, _, ?_, g.trans (?_ : Goes univ ((0 + 1 + 1 + 1 + 1) + 1) _ _ _ _), ⟨o, c, a, numT k, v, t, .nil, lstT (glue L k v 0), .nil, .nil, rfl⟩, hgl, hg⟩
  · omega
  · show Goes _ _ ((104 : Nat) : Int) (rgOf [o, codeT p, lstT ((p.map itemT).drop j), numT j, lstT (glue L k v 0), c, a, numT k, v, t, .nil, lstT (glue L k v 0), .nil, h', tYes]) _ _
    refine g_yes 14 81 _ (lt_u (by decide)) rfl rfl (by decide) ?_
    show Goes _ _ ((81 : Nat) : Int) (rgOf [o, codeT p, lstT ((p.map itemT).drop j), numT j, lstT (glue L k v 0), c, a, numT k, v, t, .nil, lstT (glue L k v 0), .nil, h', tYes]) _ _
    exact next_goes _ j (by omega) j _ _ _ _ _ _ _ _ _ _ _ _
theorem parts_goes (x : Ins) (R : List Tr) (o w p g c a f v t i l u h : Tr) : Goes univ (0 + 1 + 1 + 1 + 1 + 1 + 1) ((5 : Nat) : Int) (rgOf [o, w, .cons (itemT x) (lstT R), p, g, c, a, f, v, t, i, l, u, h, tYes]) ((13 : Nat) : Int) (rgOf [o, w, .cons (itemT x) (lstT R), p, g, numT x.f0.toNat, (bodyT x).tl, numT x.f1.toNat, v, t, i, l, u, itemT x, tYes]) := by
  have hb := body_hd x
  refine g_yes 2 8 _ (lt_u (by decide)) rfl rfl (by decide) ?_
  show Goes _ _ ((8 : Nat) : Int) (rgOf [o, w, .cons (itemT x) (lstT R), p, g, c, a, f, v, t, i, l, u, h, tYes]) _ _
  refine g_head 13 2 (lt_u (by decide)) rfl (lt15 rfl (by decide)) ?_
  show Goes _ _ ((9 : Nat) : Int) (rgOf [o, w, .cons (itemT x) (lstT R), p, g, c, a, f, v, t, i, l, u, itemT x, tYes]) _ _
  refine g_head 5 13 (lt_u (by decide)) rfl (lt15 rfl (by decide)) ?_
  show Goes _ _ ((10 : Nat) : Int) (rgOf [o, w, .cons (itemT x) (lstT R), p, g, numT x.f0.toNat, a, f, v, t, i, l, u, itemT x, tYes]) _ _
  refine g_tail 6 13 (lt_u (by decide)) rfl (lt15 rfl (by decide)) ?_
  show Goes _ _ ((11 : Nat) : Int) (rgOf [o, w, .cons (itemT x) (lstT R), p, g, numT x.f0.toNat, bodyT x, f, v, t, i, l, u, itemT x, tYes]) _ _
  refine g_head 7 6 (lt_u (by decide)) rfl (lt15 rfl (by decide)) ?_
  show Goes _ _ ((12 : Nat) : Int) (rgOf [o, w, .cons (itemT x) (lstT R), p, g, numT x.f0.toNat, bodyT x, (bodyT x).hd, v, t, i, l, u, itemT x, tYes]) _ _
  rw [hb]
  show Goes _ _ ((12 : Nat) : Int) (rgOf [o, w, .cons (itemT x) (lstT R), p, g, numT x.f0.toNat, bodyT x, numT x.f1.toNat, v, t, i, l, u, itemT x, tYes]) _ _
  refine g_tail 6 6 (lt_u (by decide)) rfl (lt15 rfl (by decide)) ?_
  show Goes _ _ ((13 : Nat) : Int) (rgOf [o, w, .cons (itemT x) (lstT R), p, g, numT x.f0.toNat, (bodyT x).tl, numT x.f1.toNat, v, t, i, l, u, itemT x, tYes]) _ _
  exact Goes.refl _ _ _
theorem kind0 (L : List Tr) (o w r p a f v t i l u h : Tr) : Goes univ (0 + 1 + 1 + 1) ((13 : Nat) : Int) (rgOf [o, w, r, p, lstT L, numT 0, a, f, v, t, i, l, u, h, tYes]) ((85 : Nat) : Int) (rgOf [o, w, r, p, lstT L, .nil, a, f, a, t, i, l, u, h, tYes]) := by
  refine g_no 5 _ (lt_u (by decide)) rfl rfl ?_
  show Goes _ _ ((14 : Nat) : Int) (rgOf [o, w, r, p, lstT L, numT 0, a, f, v, t, i, l, u, h, tYes]) _ _
  refine g_move 8 6 (lt_u (by decide)) rfl (lt15 rfl (by decide)) ?_
  show Goes _ _ ((15 : Nat) : Int) (rgOf [o, w, r, p, lstT L, numT 0, a, f, a, t, i, l, u, h, tYes]) _ _
  refine g_yes 14 85 _ (lt_u (by decide)) rfl rfl (by decide) ?_
  show Goes _ _ ((85 : Nat) : Int) (rgOf [o, w, r, p, lstT L, numT 0, a, f, a, t, i, l, u, h, tYes]) _ _
  exact Goes.refl _ _ _
theorem kind1 (L : List Tr) (m : Nat) (o w r p f v t i l u h : Tr) : Goes univ (((m * (1 + 3) + 2) + (0 + 1) + 1 + (0 + 1)) + 1 + 1 + 1 + 1) ((13 : Nat) : Int) (rgOf [o, w, r, p, lstT L, numT 1, numT m, f, v, t, i, l, u, h, tYes]) ((85 : Nat) : Int) (rgOf [o, w, r, p, lstT L, .nil, numT m, f, L.getD m .nil, t, .nil, lstT (L.drop m), u, h, tYes]) := by
  refine g_yes 5 16 _ (lt_u (by decide)) rfl rfl (by decide) ?_
  show Goes _ _ ((16 : Nat) : Int) (rgOf [o, w, r, p, lstT L, numT 1, numT m, f, v, t, i, l, u, h, tYes]) _ _
  refine g_tail 5 5 (lt_u (by decide)) rfl (lt15 rfl (by decide)) ?_
  show Goes _ _ ((17 : Nat) : Int) (rgOf [o, w, r, p, lstT L, numT 0, numT m, f, v, t, i, l, u, h, tYes]) _ _
  refine g_no 5 _ (lt_u (by decide)) rfl rfl ?_
  show Goes _ _ ((18 : Nat) : Int) (rgOf [o, w, r, p, lstT L, numT 0, numT m, f, v, t, i, l, u, h, tYes]) _ _
  refine g_move 10 6 (lt_u (by decide)) rfl (lt15 rfl (by decide)) ?_
  show Goes _ _ ((19 : Nat) : Int) (rgOf [o, w, r, p, lstT L, numT 0, numT m, f, v, t, numT m, l, u, h, tYes]) _ _
  show Goes _ (((m * (1 + 3) + 2) + (0 + 1) + 1) + (0 + 1)) _ _ _ _
  refine (fetch_goes fetch19 (by decide) m L _ _ _ _ _ _ _ _ _ _ _ _).trans ?_
  show Goes _ _ ((26 : Nat) : Int) (rgOf [o, w, r, p, lstT L, numT 0, numT m, f, L.getD m .nil, t, .nil, lstT (L.drop m), u, h, tYes]) _ _
  refine g_yes 14 85 _ (lt_u (by decide)) rfl rfl (by decide) ?_
  show Goes _ _ ((85 : Nat) : Int) (rgOf [o, w, r, p, lstT L, numT 0, numT m, f, L.getD m .nil, t, .nil, lstT (L.drop m), u, h, tYes]) _ _
  exact Goes.refl _ _ _
theorem kind2 (L : List Tr) (m n : Nat) (hz : (Tr.cons (L.getD m .nil) (L.getD n .nil)).size ≤ 2000000) (o w r p f v t i l u h : Tr) : Goes univ (((m * (1 + 3) + 2) + (0 + 1) + 1 + (((n * (1 + 3) + 2) + (0 + 1) + 1 + (0 + 1 + 1)) + 1)) + 1 + 1 + 1 + 1 + 1 + 1) ((13 : Nat) : Int) (rgOf [o, w, r, p, lstT L, numT 2, .cons (numT m) (numT n), f, v, t, i, l, u, h, tYes]) ((85 : Nat) : Int) (rgOf [o, w, r, p, lstT L, .nil, .cons (numT m) (numT n), f, .cons (L.getD m .nil) (L.getD n .nil), L.getD m .nil, .nil, lstT (L.drop n), u, h, tYes]) := by
  refine g_yes 5 16 _ (lt_u (by decide)) rfl rfl (by decide) ?_
  show Goes _ _ ((16 : Nat) : Int) (rgOf [o, w, r, p, lstT L, numT 2, .cons (numT m) (numT n), f, v, t, i, l, u, h, tYes]) _ _
  refine g_tail 5 5 (lt_u (by decide)) rfl (lt15 rfl (by decide)) ?_
  show Goes _ _ ((17 : Nat) : Int) (rgOf [o, w, r, p, lstT L, numT 1, .cons (numT m) (numT n), f, v, t, i, l, u, h, tYes]) _ _
  refine g_yes 5 27 _ (lt_u (by decide)) rfl rfl (by decide) ?_
  show Goes _ _ ((27 : Nat) : Int) (rgOf [o, w, r, p, lstT L, numT 1, .cons (numT m) (numT n), f, v, t, i, l, u, h, tYes]) _ _
  refine g_tail 5 5 (lt_u (by decide)) rfl (lt15 rfl (by decide)) ?_
  show Goes _ _ ((28 : Nat) : Int) (rgOf [o, w, r, p, lstT L, numT 0, .cons (numT m) (numT n), f, v, t, i, l, u, h, tYes]) _ _
  refine g_no 5 _ (lt_u (by decide)) rfl rfl ?_
  show Goes _ _ ((29 : Nat) : Int) (rgOf [o, w, r, p, lstT L, numT 0, .cons (numT m) (numT n), f, v, t, i, l, u, h, tYes]) _ _
  refine g_head 10 6 (lt_u (by decide)) rfl (lt15 rfl (by decide)) ?_
  show Goes _ _ ((30 : Nat) : Int) (rgOf [o, w, r, p, lstT L, numT 0, .cons (numT m) (numT n), f, v, t, numT m, l, u, h, tYes]) _ _
  show Goes _ (((m * (1 + 3) + 2) + (0 + 1) + 1) + (((n * (1 + 3) + 2) + (0 + 1) + 1 + (0 + 1 + 1)) + 1)) _ _ _ _
  refine (fetch_goes fetch30 (by decide) m L _ _ _ _ _ _ _ _ _ _ _ _).trans ?_
  show Goes _ _ ((37 : Nat) : Int) (rgOf [o, w, r, p, lstT L, numT 0, .cons (numT m) (numT n), f, v, L.getD m .nil, .nil, lstT (L.drop m), u, h, tYes]) _ _
  refine g_tail 10 6 (lt_u (by decide)) rfl (lt15 rfl (by decide)) ?_
  show Goes _ _ ((38 : Nat) : Int) (rgOf [o, w, r, p, lstT L, numT 0, .cons (numT m) (numT n), f, v, L.getD m .nil, numT n, lstT (L.drop m), u, h, tYes]) _ _
  show Goes _ (((n * (1 + 3) + 2) + (0 + 1) + 1) + (0 + 1 + 1)) _ _ _ _
  refine (fetch_goes fetch38 (by decide) n L _ _ _ _ _ _ _ _ _ _ _ _).trans ?_
  show Goes _ _ ((45 : Nat) : Int) (rgOf [o, w, r, p, lstT L, numT 0, .cons (numT m) (numT n), f, L.getD n .nil, L.getD m .nil, .nil, lstT (L.drop n), u, h, tYes]) _ _
  refine g_cons 8 9 8 (lt_u (by decide)) rfl (lt15 rfl (by decide)) (by exact hz) ?_
  show Goes _ _ ((46 : Nat) : Int) (rgOf [o, w, r, p, lstT L, numT 0, .cons (numT m) (numT n), f, (.cons (L.getD m .nil) (L.getD n .nil)), L.getD m .nil, .nil, lstT (L.drop n), u, h, tYes]) _ _
  refine g_yes 14 85 _ (lt_u (by decide)) rfl rfl (by decide) ?_
  show Goes _ _ ((85 : Nat) : Int) (rgOf [o, w, r, p, lstT L, numT 0, .cons (numT m) (numT n), f, (.cons (L.getD m .nil) (L.getD n .nil)), L.getD m .nil, .nil, lstT (L.drop n), u, h, tYes]) _ _
  exact Goes.refl _ _ _
theorem kind3 (L : List Tr) (m : Nat) (o w r p f v t i l u h : Tr) : Goes univ (((m * (1 + 3) + 2) + (0 + 1) + 1 + (0 + 1 + 1)) + 1 + 1 + 1 + 1 + 1 + 1 + 1 + 1) ((13 : Nat) : Int) (rgOf [o, w, r, p, lstT L, numT 3, numT m, f, v, t, i, l, u, h, tYes]) ((85 : Nat) : Int) (rgOf [o, w, r, p, lstT L, .nil, numT m, f, (L.getD m .nil).hd, t, .nil, lstT (L.drop m), u, h, tYes]) := by
  refine g_yes 5 16 _ (lt_u (by decide)) rfl rfl (by decide) ?_
  show Goes _ _ ((16 : Nat) : Int) (rgOf [o, w, r, p, lstT L, numT 3, numT m, f, v, t, i, l, u, h, tYes]) _ _
  refine g_tail 5 5 (lt_u (by decide)) rfl (lt15 rfl (by decide)) ?_
  show Goes _ _ ((17 : Nat) : Int) (rgOf [o, w, r, p, lstT L, numT 2, numT m, f, v, t, i, l, u, h, tYes]) _ _
  refine g_yes 5 27 _ (lt_u (by decide)) rfl rfl (by decide) ?_
  show Goes _ _ ((27 : Nat) : Int) (rgOf [o, w, r, p, lstT L, numT 2, numT m, f, v, t, i, l, u, h, tYes]) _ _
  refine g_tail 5 5 (lt_u (by decide)) rfl (lt15 rfl (by decide)) ?_
  show Goes _ _ ((28 : Nat) : Int) (rgOf [o, w, r, p, lstT L, numT 1, numT m, f, v, t, i, l, u, h, tYes]) _ _
  refine g_yes 5 47 _ (lt_u (by decide)) rfl rfl (by decide) ?_
  show Goes _ _ ((47 : Nat) : Int) (rgOf [o, w, r, p, lstT L, numT 1, numT m, f, v, t, i, l, u, h, tYes]) _ _
  refine g_tail 5 5 (lt_u (by decide)) rfl (lt15 rfl (by decide)) ?_
  show Goes _ _ ((48 : Nat) : Int) (rgOf [o, w, r, p, lstT L, numT 0, numT m, f, v, t, i, l, u, h, tYes]) _ _
  refine g_no 5 _ (lt_u (by decide)) rfl rfl ?_
  show Goes _ _ ((49 : Nat) : Int) (rgOf [o, w, r, p, lstT L, numT 0, numT m, f, v, t, i, l, u, h, tYes]) _ _
  refine g_move 10 6 (lt_u (by decide)) rfl (lt15 rfl (by decide)) ?_
  show Goes _ _ ((50 : Nat) : Int) (rgOf [o, w, r, p, lstT L, numT 0, numT m, f, v, t, numT m, l, u, h, tYes]) _ _
  show Goes _ (((m * (1 + 3) + 2) + (0 + 1) + 1) + (0 + 1 + 1)) _ _ _ _
  refine (fetch_goes fetch50 (by decide) m L _ _ _ _ _ _ _ _ _ _ _ _).trans ?_
  show Goes _ _ ((57 : Nat) : Int) (rgOf [o, w, r, p, lstT L, numT 0, numT m, f, L.getD m .nil, t, .nil, lstT (L.drop m), u, h, tYes]) _ _
  refine g_head 8 8 (lt_u (by decide)) rfl (lt15 rfl (by decide)) ?_
  show Goes _ _ ((58 : Nat) : Int) (rgOf [o, w, r, p, lstT L, numT 0, numT m, f, (L.getD m .nil).hd, t, .nil, lstT (L.drop m), u, h, tYes]) _ _
  refine g_yes 14 85 _ (lt_u (by decide)) rfl rfl (by decide) ?_
  show Goes _ _ ((85 : Nat) : Int) (rgOf [o, w, r, p, lstT L, numT 0, numT m, f, (L.getD m .nil).hd, t, .nil, lstT (L.drop m), u, h, tYes]) _ _
  exact Goes.refl _ _ _
theorem kind4 (L : List Tr) (m : Nat) (o w r p f v t i l u h : Tr) : Goes univ (((m * (1 + 3) + 2) + (0 + 1) + 1 + (0 + 1 + 1)) + 1 + 1 + 1 + 1 + 1 + 1 + 1 + 1 + 1 + 1) ((13 : Nat) : Int) (rgOf [o, w, r, p, lstT L, numT 4, numT m, f, v, t, i, l, u, h, tYes]) ((85 : Nat) : Int) (rgOf [o, w, r, p, lstT L, .nil, numT m, f, (L.getD m .nil).tl, t, .nil, lstT (L.drop m), u, h, tYes]) := by
  refine g_yes 5 16 _ (lt_u (by decide)) rfl rfl (by decide) ?_
  show Goes _ _ ((16 : Nat) : Int) (rgOf [o, w, r, p, lstT L, numT 4, numT m, f, v, t, i, l, u, h, tYes]) _ _
  refine g_tail 5 5 (lt_u (by decide)) rfl (lt15 rfl (by decide)) ?_
  show Goes _ _ ((17 : Nat) : Int) (rgOf [o, w, r, p, lstT L, numT 3, numT m, f, v, t, i, l, u, h, tYes]) _ _
  refine g_yes 5 27 _ (lt_u (by decide)) rfl rfl (by decide) ?_
  show Goes _ _ ((27 : Nat) : Int) (rgOf [o, w, r, p, lstT L, numT 3, numT m, f, v, t, i, l, u, h, tYes]) _ _
  refine g_tail 5 5 (lt_u (by decide)) rfl (lt15 rfl (by decide)) ?_
  show Goes _ _ ((28 : Nat) : Int) (rgOf [o, w, r, p, lstT L, numT 2, numT m, f, v, t, i, l, u, h, tYes]) _ _
  refine g_yes 5 47 _ (lt_u (by decide)) rfl rfl (by decide) ?_
  show Goes _ _ ((47 : Nat) : Int) (rgOf [o, w, r, p, lstT L, numT 2, numT m, f, v, t, i, l, u, h, tYes]) _ _
  refine g_tail 5 5 (lt_u (by decide)) rfl (lt15 rfl (by decide)) ?_
  show Goes _ _ ((48 : Nat) : Int) (rgOf [o, w, r, p, lstT L, numT 1, numT m, f, v, t, i, l, u, h, tYes]) _ _
  refine g_yes 5 59 _ (lt_u (by decide)) rfl rfl (by decide) ?_
  show Goes _ _ ((59 : Nat) : Int) (rgOf [o, w, r, p, lstT L, numT 1, numT m, f, v, t, i, l, u, h, tYes]) _ _
  refine g_tail 5 5 (lt_u (by decide)) rfl (lt15 rfl (by decide)) ?_
  show Goes _ _ ((60 : Nat) : Int) (rgOf [o, w, r, p, lstT L, numT 0, numT m, f, v, t, i, l, u, h, tYes]) _ _
  refine g_no 5 _ (lt_u (by decide)) rfl rfl ?_
  show Goes _ _ ((61 : Nat) : Int) (rgOf [o, w, r, p, lstT L, numT 0, numT m, f, v, t, i, l, u, h, tYes]) _ _
  refine g_move 10 6 (lt_u (by decide)) rfl (lt15 rfl (by decide)) ?_
  show Goes _ _ ((62 : Nat) : Int) (rgOf [o, w, r, p, lstT L, numT 0, numT m, f, v, t, numT m, l, u, h, tYes]) _ _
  show Goes _ (((m * (1 + 3) + 2) + (0 + 1) + 1) + (0 + 1 + 1)) _ _ _ _
  refine (fetch_goes fetch62 (by decide) m L _ _ _ _ _ _ _ _ _ _ _ _).trans ?_
  show Goes _ _ ((69 : Nat) : Int) (rgOf [o, w, r, p, lstT L, numT 0, numT m, f, L.getD m .nil, t, .nil, lstT (L.drop m), u, h, tYes]) _ _
  refine g_tail 8 8 (lt_u (by decide)) rfl (lt15 rfl (by decide)) ?_
  show Goes _ _ ((70 : Nat) : Int) (rgOf [o, w, r, p, lstT L, numT 0, numT m, f, (L.getD m .nil).tl, t, .nil, lstT (L.drop m), u, h, tYes]) _ _
  refine g_yes 14 85 _ (lt_u (by decide)) rfl rfl (by decide) ?_
  show Goes _ _ ((85 : Nat) : Int) (rgOf [o, w, r, p, lstT L, numT 0, numT m, f, (L.getD m .nil).tl, t, .nil, lstT (L.drop m), u, h, tYes]) _ _
  exact Goes.refl _ _ _
theorem kind5 (L : List Tr) (k : Nat) (o w r p a v t i l u h : Tr) : Goes univ (((k * (1 + 3) + 2) + (0 + 1) + 1 + 0) + 1 + 1 + 1 + 1 + 1 + 1 + 1 + 1 + 1 + 1 + 1) ((13 : Nat) : Int) (rgOf [o, w, r, p, lstT L, numT 5, a, numT k, v, t, i, l, u, h, tYes]) ((80 : Nat) : Int) (rgOf [o, w, r, p, lstT L, .nil, a, numT k, L.getD k .nil, t, .nil, lstT (L.drop k), u, h, tYes]) := by
  refine g_yes 5 16 _ (lt_u (by decide)) rfl rfl (by decide) ?_
  show Goes _ _ ((16 : Nat) : Int) (rgOf [o, w, r, p, lstT L, numT 5, a, numT k, v, t, i, l, u, h, tYes]) _ _
  refine g_tail 5 5 (lt_u (by decide)) rfl (lt15 rfl (by decide)) ?_
  show Goes _ _ ((17 : Nat) : Int) (rgOf [o, w, r, p, lstT L, numT 4, a, numT k, v, t, i, l, u, h, tYes]) _ _
  refine g_yes 5 27 _ (lt_u (by decide)) rfl rfl (by decide) ?_
  show Goes _ _ ((27 : Nat) : Int) (rgOf [o, w, r, p, lstT L, numT 4, a, numT k, v, t, i, l, u, h, tYes]) _ _
  refine g_tail 5 5 (lt_u (by decide)) rfl (lt15 rfl (by decide)) ?_
  show Goes _ _ ((28 : Nat) : Int) (rgOf [o, w, r, p, lstT L, numT 3, a, numT k, v, t, i, l, u, h, tYes]) _ _
  refine g_yes 5 47 _ (lt_u (by decide)) rfl rfl (by decide) ?_
  show Goes _ _ ((47 : Nat) : Int) (rgOf [o, w, r, p, lstT L, numT 3, a, numT k, v, t, i, l, u, h, tYes]) _ _
  refine g_tail 5 5 (lt_u (by decide)) rfl (lt15 rfl (by decide)) ?_
  show Goes _ _ ((48 : Nat) : Int) (rgOf [o, w, r, p, lstT L, numT 2, a, numT k, v, t, i, l, u, h, tYes]) _ _
  refine g_yes 5 59 _ (lt_u (by decide)) rfl rfl (by decide) ?_
  show Goes _ _ ((59 : Nat) : Int) (rgOf [o, w, r, p, lstT L, numT 2, a, numT k, v, t, i, l, u, h, tYes]) _ _
  refine g_tail 5 5 (lt_u (by decide)) rfl (lt15 rfl (by decide)) ?_
  show Goes _ _ ((60 : Nat) : Int) (rgOf [o, w, r, p, lstT L, numT 1, a, numT k, v, t, i, l, u, h, tYes]) _ _
  refine g_yes 5 71 _ (lt_u (by decide)) rfl rfl (by decide) ?_
  show Goes _ _ ((71 : Nat) : Int) (rgOf [o, w, r, p, lstT L, numT 1, a, numT k, v, t, i, l, u, h, tYes]) _ _
  refine g_tail 5 5 (lt_u (by decide)) rfl (lt15 rfl (by decide)) ?_
  show Goes _ _ ((72 : Nat) : Int) (rgOf [o, w, r, p, lstT L, numT 0, a, numT k, v, t, i, l, u, h, tYes]) _ _
  refine g_move 10 7 (lt_u (by decide)) rfl (lt15 rfl (by decide)) ?_
  show Goes _ _ ((73 : Nat) : Int) (rgOf [o, w, r, p, lstT L, numT 0, a, numT k, v, t, numT k, l, u, h, tYes]) _ _
  show Goes _ (((k * (1 + 3) + 2) + (0 + 1) + 1) + 0) _ _ _ _
  refine (fetch_goes fetch73 (by decide) k L _ _ _ _ _ _ _ _ _ _ _ _).trans ?_
  show Goes _ _ ((80 : Nat) : Int) (rgOf [o, w, r, p, lstT L, numT 0, a, numT k, L.getD k .nil, t, .nil, lstT (L.drop k), u, h, tYes]) _ _
  exact Goes.refl _ _ _
theorem ahead_goes (R : List Tr) (b m j : Nat) (hm : m + b ≤ 4000) (o w g c f v t i l u h : Tr) (hv : v.isNil = false) :
    ∃ h', Goes univ (((b * (3 + 3) + 2) + (0 + 1)) + 1 + 1 + 1 + 1) ((80 : Nat) : Int) (rgOf [o, w, lstT (R.drop j), numT m, g, c, .cons .nil (numT b), f, v, t, i, l, u, h, tYes]) ((5 : Nat) : Int) (rgOf [o, w, lstT (R.drop (j + b)), numT (m + b), g, c, .cons .nil (numT b), f, v, t, .nil, l, u, h', tYes]) := by
  refine ⟨hF .nil [] b, ?_⟩
  refine g_yes 8 105 _ (lt_u (by decide)) rfl hv (by decide) ?_
  show Goes _ _ ((105 : Nat) : Int) (rgOf [o, w, lstT (R.drop j), numT m, g, c, .cons .nil (numT b), f, v, t, i, l, u, h, tYes]) _ _
  refine g_head 13 6 (lt_u (by decide)) rfl (lt15 rfl (by decide)) ?_
  show Goes _ _ ((106 : Nat) : Int) (rgOf [o, w, lstT (R.drop j), numT m, g, c, .cons .nil (numT b), f, v, t, i, l, u, .nil, tYes]) _ _
  refine g_tail 10 6 (lt_u (by decide)) rfl (lt15 rfl (by decide)) ?_
  show Goes _ _ ((107 : Nat) : Int) (rgOf [o, w, lstT (R.drop j), numT m, g, c, .cons .nil (numT b), f, v, t, numT b, l, u, .nil, tYes]) _ _
  refine g_no 13 _ (lt_u (by decide)) rfl rfl ?_
  show Goes _ _ ((108 : Nat) : Int) (rgOf [o, w, lstT (R.drop j), numT m, g, c, .cons .nil (numT b), f, v, t, numT b, l, u, .nil, tYes]) _ _
  show Goes _ ((b * (3 + 3) + 2) + (0 + 1)) ((108 : Nat) : Int) _ _ _
  refine (count_goes (P := univ) (b := 108) (m := 3) (n := b) (fun n x => [o, w, lstT (R.drop (j + n)), numT (m + n), g, c, .cons .nil (numT b), f, v, t, x, l, u, hF .nil [] n, tYes]) (by rw [univ_length]; omega) rfl rfl rfl rfl (fun _ _ => rfl) (fun _ _ => rfl) (fun _ _ _ => rfl) (fun _ _ => by simp) ?_).trans ?_
  · intro n x hn
    refine g_tail 2 2 (lt_u (by decide)) rfl (lt15 rfl (by decide)) ?_
    show Goes _ _ ((111 : Nat) : Int) (rgOf [o, w, (lstT (R.drop (j + n))).tl, numT (m + n), g, c, .cons .nil (numT b), f, v, t, x, l, u, hF .nil [] n, tYes]) _ _
    rw [lst_tl]
    show Goes _ _ ((111 : Nat) : Int) (rgOf [o, w, lstT (R.drop (j + (n + 1))), numT (m + n), g, c, .cons .nil (numT b), f, v, t, x, l, u, hF .nil [] n, tYes]) _ _
    refine g_set 13 _ (lt_u (by decide)) rfl (lt15 rfl (by decide)) ?_
    show Goes _ _ ((112 : Nat) : Int) (rgOf [o, w, lstT (R.drop (j + (n + 1))), numT (m + n), g, c, .cons .nil (numT b), f, v, t, x, l, u, .nil, tYes]) _ _
    refine g_cons 3 13 3 (lt_u (by decide)) rfl (lt15 rfl (by decide)) (by show 1 + 1 + (numT (m + n)).size ≤ _; rw [numT_sz]; omega) ?_
    show Goes _ _ ((113 : Nat) : Int) (rgOf [o, w, lstT (R.drop (j + (n + 1))), numT (m + (n + 1)), g, c, .cons .nil (numT b), f, v, t, x, l, u, .nil, tYes]) _ _
    exact Goes.refl _ _ _
  · show Goes _ _ ((115 : Nat) : Int) (rgOf [o, w, lstT (R.drop (j + b)), numT (m + b), g, c, .cons .nil (numT b), f, v, t, .nil, l, u, hF .nil [] b, tYes]) _ _
    refine g_yes 14 5 _ (lt_u (by decide)) rfl rfl (by decide) ?_
    show Goes _ _ ((5 : Nat) : Int) (rgOf [o, w, lstT (R.drop (j + b)), numT (m + b), g, c, .cons .nil (numT b), f, v, t, .nil, l, u, hF .nil [] b, tYes]) _ _
    exact Goes.refl _ _ _
theorem back_goes (R : List Tr) (b m : Nat) (hb : b ≤ m) (rr : Tr) (o g c f v t i l u h : Tr) (hv : v.isNil = false) :
    Goes univ (((b * (1 + 3) + 2) + ((((m - b) * (1 + 3) + 2) + (0 + 1)) + 1 + 1)) + 1 + 1 + 1 + 1) ((80 : Nat) : Int) (rgOf [o, lstT R, rr, numT m, g, c, .cons (.cons .nil .nil) (numT b), f, v, t, i, l, u, h, tYes]) ((5 : Nat) : Int) (rgOf [o, lstT R, lstT (R.drop (m - b)), numT (m - b), g, c, .cons (.cons .nil .nil) (numT b), f, v, t, .nil, l, u, .cons .nil .nil, tYes]) := by
  refine g_yes 8 105 _ (lt_u (by decide)) rfl hv (by decide) ?_
  show Goes _ _ ((105 : Nat) : Int) (rgOf [o, lstT R, rr, numT m, g, c, .cons (.cons .nil .nil) (numT b), f, v, t, i, l, u, h, tYes]) _ _
  refine g_head 13 6 (lt_u (by decide)) rfl (lt15 rfl (by decide)) ?_
  show Goes _ _ ((106 : Nat) : Int) (rgOf [o, lstT R, rr, numT m, g, c, .cons (.cons .nil .nil) (numT b), f, v, t, i, l, u, .cons .nil .nil, tYes]) _ _
  refine g_tail 10 6 (lt_u (by decide)) rfl (lt15 rfl (by decide)) ?_
  show Goes _ _ ((107 : Nat) : Int) (rgOf [o, lstT R, rr, numT m, g, c, .cons (.cons .nil .nil) (numT b), f, v, t, numT b, l, u, .cons .nil .nil, tYes]) _ _
  refine g_yes 13 116 _ (lt_u (by decide)) rfl rfl (by decide) ?_
  show Goes _ _ ((116 : Nat) : Int) (rgOf [o, lstT R, rr, numT m, g, c, .cons (.cons .nil .nil) (numT b), f, v, t, numT b, l, u, .cons .nil .nil, tYes]) _ _
  show Goes _ ((b * (1 + 3) + 2) + ((((m - b) * (1 + 3) + 2) + (0 + 1)) + 1 + 1)) ((116 : Nat) : Int) _ _ _
  refine (count_goes (P := univ) (b := 116) (m := 1) (n := b) (fun n x => [o, lstT R, rr, numT (m - n), g, c, .cons (.cons .nil .nil) (numT b), f, v, t, x, l, u, .cons .nil .nil, tYes]) (by rw [univ_length]; omega) rfl rfl rfl rfl (fun _ _ => rfl) (fun _ _ => rfl) (fun _ _ _ => rfl) (fun _ _ => by simp) ?_).trans ?_
  · intro n x hn
    refine g_tail 3 3 (lt_u (by decide)) rfl (lt15 rfl (by decide)) ?_
    show Goes _ _ ((119 : Nat) : Int) (rgOf [o, lstT R, rr, (numT (m - n)).tl, g, c, .cons (.cons .nil .nil) (numT b), f, v, t, x, l, u, .cons .nil .nil, tYes]) _ _
    rw [numT_tl]
    exact Goes.refl _ _ _
  · show Goes _ _ ((121 : Nat) : Int) (rgOf [o, lstT R, rr, numT (m - b), g, c, .cons (.cons .nil .nil) (numT b), f, v, t, .nil, l, u, .cons .nil .nil, tYes]) _ _
    refine g_move 2 1 (lt_u (by decide)) rfl (lt15 rfl (by decide)) ?_
    show Goes _ _ ((122 : Nat) : Int) (rgOf [o, lstT R, lstT R, numT (m - b), g, c, .cons (.cons .nil .nil) (numT b), f, v, t, .nil, l, u, .cons .nil .nil, tYes]) _ _
    refine g_move 10 3 (lt_u (by decide)) rfl (lt15 rfl (by decide)) ?_
    show Goes _ _ ((123 : Nat) : Int) (rgOf [o, lstT R, lstT R, numT (m - b), g, c, .cons (.cons .nil .nil) (numT b), f, v, t, numT (m - b), l, u, .cons .nil .nil, tYes]) _ _
    show Goes _ (((m - b) * (1 + 3) + 2) + (0 + 1)) ((123 : Nat) : Int) _ _ _
    refine (count_goes (P := univ) (b := 123) (m := 1) (n := m - b) (fun n x => [o, lstT R, lstT (R.drop n), numT (m - b), g, c, .cons (.cons .nil .nil) (numT b), f, v, t, x, l, u, .cons .nil .nil, tYes]) (by rw [univ_length]; omega) rfl rfl rfl rfl (fun _ _ => rfl) (fun _ _ => rfl) (fun _ _ _ => rfl) (fun _ _ => by simp) ?_).trans ?_
    · intro n x hn
      refine g_tail 2 2 (lt_u (by decide)) rfl (lt15 rfl (by decide)) ?_
      show Goes _ _ ((126 : Nat) : Int) (rgOf [o, lstT R, (lstT (R.drop n)).tl, numT (m - b), g, c, .cons (.cons .nil .nil) (numT b), f, v, t, x, l, u, .cons .nil .nil, tYes]) _ _
      rw [lst_tl]
      exact Goes.refl _ _ _
    · show Goes _ _ ((128 : Nat) : Int) (rgOf [o, lstT R, lstT (R.drop (m - b)), numT (m - b), g, c, .cons (.cons .nil .nil) (numT b), f, v, t, .nil, l, u, .cons .nil .nil, tYes]) _ _
      refine g_yes 14 5 _ (lt_u (by decide)) rfl rfl (by decide) ?_
      show Goes _ _ ((5 : Nat) : Int) (rgOf [o, lstT R, lstT (R.drop (m - b)), numT (m - b), g, c, .cons (.cons .nil .nil) (numT b), f, v, t, .nil, l, u, .cons .nil .nil, tYes]) _ _
      exact Goes.refl _ _ _
end Go.Proofs.Ytpnmmpfidiegcaa.Plain
end
