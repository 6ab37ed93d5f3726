/- Texts of this claim, together: what the functions return, and what they say in plain words. -/
import Derived.Test.YtpnmmpfidiegcaaUF
section
namespace Go.Proofs.Ytpnmmpfidiegcaa.Plain
open Go.Proofs.Ytpnmmpfidiegcaa.C
set_option linter.unusedVariables false
set_option linter.unusedSimpArgs false
set_option maxRecDepth 100000
theorem step_u {p : List Ins} (hp : p.length ≤ 4000) {j : Nat} (hj : j < p.length) (hR : Right p[j] j p.length) {L : List Tr} {r r' : Rg} {d : Int} (hL : ∀ i, L.getD i .nil = r i) (hlen : L.length ≤ 32) (h1 : totN r 32 ≤ 200000) (h2 : totN r' 32 ≤ 200000)
    (hx : exec p[j] r = some (d, r')) {s : Rg} (hs : AtU p j L s) :
    ∃ n L' s' j', 1 ≤ n ∧ n ≤ 100 * (p.length + 40) ∧ Goes univ n ((5 : Nat) : Int) s ((5 : Nat) : Int) s' ∧ AtU p j' L' s' ∧ (j' : Int) = (j : Int) + d ∧ j' ≤ p.length ∧ L'.length ≤ 32 ∧ ∀ i, L'.getD i .nil = r' i := by
  obtain ⟨o, c, a, f, v, t, i, l, u, h, rfl⟩ := hs
  have hd : (p.map itemT).drop j = itemT p[j] :: (p.map itemT).drop (j + 1) := by
    rw [List.drop_eq_getElem_cons (by simpa using hj)]
    congr 1
    simp
  have hparts := parts_goes p[j] ((p.map itemT).drop (j + 1)) o (codeT p) (numT j) (lstT L) c a f v t i l u h
  have e1 : Tr.cons (itemT p[j]) (lstT ((p.map itemT).drop (j + 1))) = lstT ((p.map itemT).drop j) := by rw [hd]; rfl
  rw [e1] at hparts
  clear hd e1
  have hreg : ∀ i, i < 32 → (r i).size ≤ 200000 := fun i hi => by have := reg_tot r hi; omega
  have hreg' : ∀ i, i < 32 → (r' i).size ≤ 200000 := fun i hi => by have := reg_tot r' hi; omega
  generalize p[j] = x at hR hx hparts
  obtain ⟨f0, f1, f2, f3, f4⟩ := x
  have fin : ∀ (m B : Nat) (A w' t' i' l' u' h' : Tr) (k : Nat), k < 32 → r' = upd r k w' → numT f1.toNat = numT k → d = 1 → B + 406 ≤ 100 * (p.length + 40) → m ≤ B →
      Goes univ m ((13 : Nat) : Int) (rgOf [o, codeT p, lstT ((p.map itemT).drop j), numT j, lstT L, numT f0.toNat, (bodyT ⟨f0, f1, f2, f3, f4⟩).tl, numT f1.toNat, v, t, i, l, u, itemT ⟨f0, f1, f2, f3, f4⟩, tYes]) ((85 : Nat) : Int) (rgOf [o, codeT p, lstT ((p.map itemT).drop j), numT j, lstT L, .nil, A, numT k, w', t', i', l', u', h', tYes]) →
      ∃ n L' s' j', 1 ≤ n ∧ n ≤ 100 * (p.length + 40) ∧ Goes univ n ((5 : Nat) : Int) (rgOf [o, codeT p, lstT ((p.map itemT).drop j), numT j, lstT L, c, a, f, v, t, i, l, u, h, tYes]) ((5 : Nat) : Int) s' ∧ AtU p j' L' s' ∧ (j' : Int) = (j : Int) + d ∧ j' ≤ p.length ∧ L'.length ≤ 32 ∧ ∀ i, L'.getD i .nil = r' i := by
    intro m B A w' t' i' l' u' h' k hk hr' _ hd1 hB hm g
    obtain ⟨n, L', s', hn, g2, a2, l2, r2⟩ := finish_goes hp hj hL hlen h1 h2 hk hr' o .nil A t' i' l' u' h'
    exact ⟨_, L', s', j + 1, by omega, by omega, (hparts.trans g).trans g2, a2, by omega, by omega, l2, r2⟩
  unfold Right at hR
  rcases hR with ⟨h0, hA, hh2, hh3, hT⟩ | ⟨h0, hA, hB, hh3, hT⟩ | ⟨h0, hA, hB, hC, hT⟩ | ⟨h0, hA, hb1, hb2, hh3, hT⟩
  · dsimp only at h0 hA
    subst h0
    have hA' : 0 ≤ f1 ∧ f1 < 32 := hA
    have e : exec ⟨0, f1, f2, f3, f4⟩ r = some (1, upd r f1.toNat (dec (bl f4))) := rfl
    rw [e] at hx
    injection hx with hx
    injection hx with hd1 hr'
    exact fin _ 400 _ _ _ _ _ _ _ f1.toNat (by omega) hr'.symm rfl hd1.symm (by omega) (by omega) (kind0 L o (codeT p) _ _ _ _ v t i l u _)
  · dsimp only at h0 hA hB hh3
    have hA' : 0 ≤ f1 ∧ f1 < 32 := hA
    have hB' : 0 ≤ f2 ∧ f2 < 32 := hB
    have eb : ∀ q, (q = 1 ∨ q = 3 ∨ q = 4) → (bodyT ⟨q, f1, f2, f3, f4⟩).tl = numT f2.toNat := fun q hq => by
      unfold bodyT
      rw [if_neg (show ¬ q = 0 by omega), if_neg (show ¬ q = 2 by omega), if_neg (show ¬ q = 5 by omega)]
      rfl
    have ev : L.getD f2.toNat .nil = r f2.toNat := hL _
    rcases h0 with rfl | rfl | rfl
    · have e : exec ⟨1, f1, f2, f3, f4⟩ r = some (1, upd r f1.toNat (r f2.toNat)) := rfl
      rw [e] at hx
      injection hx with hx
      injection hx with hd1 hr'
      have g := kind1 L f2.toNat o (codeT p) (lstT ((p.map itemT).drop j)) (numT j) (numT f1.toNat) v t i l u (itemT ⟨1, f1, f2, f3, f4⟩)
      rw [← eb 1 (by omega), ev] at g
      exact fin _ 400 _ _ _ _ _ _ _ f1.toNat (by omega) hr'.symm rfl hd1.symm (by omega) (by omega) g
    · have e : exec ⟨3, f1, f2, f3, f4⟩ r = some (1, upd r f1.toNat (r f2.toNat).hd) := rfl
      rw [e] at hx
      injection hx with hx
      injection hx with hd1 hr'
      have g := kind3 L f2.toNat o (codeT p) (lstT ((p.map itemT).drop j)) (numT j) (numT f1.toNat) v t i l u (itemT ⟨3, f1, f2, f3, f4⟩)
      rw [← eb 3 (by omega), ev] at g
      exact fin _ 400 _ _ _ _ _ _ _ f1.toNat (by omega) hr'.symm rfl hd1.symm (by omega) (by omega) g
    · have e : exec ⟨4, f1, f2, f3, f4⟩ r = some (1, upd r f1.toNat (r f2.toNat).tl) := rfl
      rw [e] at hx
      injection hx with hx
      injection hx with hd1 hr'
      have g := kind4 L f2.toNat o (codeT p) (lstT ((p.map itemT).drop j)) (numT j) (numT f1.toNat) v t i l u (itemT ⟨4, f1, f2, f3, f4⟩)
      rw [← eb 4 (by omega), ev] at g
      exact fin _ 400 _ _ _ _ _ _ _ f1.toNat (by omega) hr'.symm rfl hd1.symm (by omega) (by omega) g
  · dsimp only at h0 hA hB hC
    subst h0
    have hA' : 0 ≤ f1 ∧ f1 < 32 := hA
    have hB' : 0 ≤ f2 ∧ f2 < 32 := hB
    have hC' : 0 ≤ f3 ∧ f3 < 32 := hC
    have e : exec ⟨2, f1, f2, f3, f4⟩ r = if 2000000 < 1 + (r f2.toNat).size + (r f3.toNat).size then none else some (1, upd r f1.toNat (.cons (r f2.toNat) (r f3.toNat))) := rfl
    rw [e] at hx
    split at hx
    · cases hx
    · rename_i hsz
      injection hx with hx
      injection hx with hd1 hr'
      have g := kind2 L f2.toNat f3.toNat (by rw [hL, hL]; show 1 + (r f2.toNat).size + (r f3.toNat).size ≤ _; omega) o (codeT p) (lstT ((p.map itemT).drop j)) (numT j) (numT f1.toNat) v t i l u (itemT ⟨2, f1, f2, f3, f4⟩)
      rw [hL, hL] at g
      exact fin _ 1000 _ _ _ _ _ _ _ f1.toNat (by omega) hr'.symm rfl hd1.symm (by omega) (by omega) g
  · dsimp only at h0 hA hb1 hb2 hh3
    subst h0
    have hA' : 0 ≤ f1 ∧ f1 < 32 := hA
    have e : exec ⟨5, f1, f2, f3, f4⟩ r = some (if (r f1.toNat).isNil = true then 1 else f2, r) := rfl
    rw [e] at hx
    injection hx with hx
    injection hx with hd1 hr'
    subst hr'
    have g := kind5 L f1.toNat o (codeT p) (lstT ((p.map itemT).drop j)) (numT j) (bodyT ⟨5, f1, f2, f3, f4⟩).tl v t i l u (itemT ⟨5, f1, f2, f3, f4⟩)
    rw [hL] at g
    have gg := hparts.trans g
    cases hn : (r f1.toNat).isNil with
    | true =>
      rw [hn, if_pos rfl] at hd1
      have gn := next_goes (p.map itemT) j (by omega) j o (codeT p) (lstT L) .nil (bodyT ⟨5, f1, f2, f3, f4⟩).tl (numT f1.toNat) (r f1.toNat) t .nil (lstT (L.drop f1.toNat)) u (itemT ⟨5, f1, f2, f3, f4⟩)
      have g8 : Goes univ (0 + 1) ((80 : Nat) : Int) (rgOf [o, codeT p, lstT ((p.map itemT).drop j), numT j, lstT L, .nil, (bodyT ⟨5, f1, f2, f3, f4⟩).tl, numT f1.toNat, r f1.toNat, t, .nil, lstT (L.drop f1.toNat), u, itemT ⟨5, f1, f2, f3, f4⟩, tYes]) ((81 : Nat) : Int) (rgOf [o, codeT p, lstT ((p.map itemT).drop j), numT j, lstT L, .nil, (bodyT ⟨5, f1, f2, f3, f4⟩).tl, numT f1.toNat, r f1.toNat, t, .nil, lstT (L.drop f1.toNat), u, itemT ⟨5, f1, f2, f3, f4⟩, tYes]) :=
        g_no 8 _ (lt_u (by decide)) rfl hn (Goes.refl _ _ _)
      exact ⟨_, L, _, j + 1, by omega, by omega, (gg.trans g8).trans gn, ⟨_, _, _, _, _, _, _, _, _, _, rfl⟩, by omega, by omega, hlen, hL⟩
    | false =>
      rw [hn, if_neg (by decide)] at hd1
      by_cases hneg : f2 < 0
      · have ea : (bodyT ⟨5, f1, f2, f3, f4⟩).tl = .cons (.cons .nil .nil) (numT (-f2).toNat) := by
          unfold bodyT
          rw [if_neg (show ¬ (5 : Int) = 0 by decide), if_neg (show ¬ (5 : Int) = 2 by decide), if_pos rfl]
          dsimp only
          rw [if_pos hneg]
          rfl
        rw [ea] at gg
        have hb : (-f2).toNat ≤ j := by omega
        have gb := back_goes (p.map itemT) (-f2).toNat j hb (lstT ((p.map itemT).drop j)) o (lstT L) .nil (numT f1.toNat) (r f1.toNat) t .nil (lstT (L.drop f1.toNat)) u (itemT ⟨5, f1, f2, f3, f4⟩) hn
        exact ⟨_, L, _, j - (-f2).toNat, by omega, by omega, gg.trans gb, ⟨_, _, _, _, _, _, _, _, _, _, rfl⟩, by omega, by omega, hlen, hL⟩
      · have ea : (bodyT ⟨5, f1, f2, f3, f4⟩).tl = .cons .nil (numT f2.toNat) := by
          unfold bodyT
          rw [if_neg (show ¬ (5 : Int) = 0 by decide), if_neg (show ¬ (5 : Int) = 2 by decide), if_pos rfl]
          dsimp only
          rw [if_neg hneg]
          rfl
        rw [ea] at gg
        obtain ⟨h', ga⟩ := ahead_goes (p.map itemT) f2.toNat j j (by omega) o (codeT p) (lstT L) .nil (numT f1.toNat) (r f1.toNat) t .nil (lstT (L.drop f1.toNat)) u (itemT ⟨5, f1, f2, f3, f4⟩) hn
        exact ⟨_, L, _, j + f2.toNat, by omega, by omega, gg.trans ga, ⟨_, _, _, _, _, _, _, _, _, _, rfl⟩, by omega, by omega, hlen, hL⟩
end Go.Proofs.Ytpnmmpfidiegcaa.Plain
end
section
namespace Go.Proofs.Ytpnmmpfidiegcaa.Plain
open Go.Proofs.Ytpnmmpfidiegcaa.C
set_option linter.unusedVariables false
set_option linter.unusedSimpArgs false
set_option maxRecDepth 100000
def Calm (p : List Ins) (k : Nat) (a : Int) (r : Rg) : Prop := ∀ j, j ≤ k → totN (after p j a r).2.1 32 ≤ 200000
theorem start_goes (C x : Tr) (hx : x.size ≤ 1000000) : ∃ s, Goes univ (0 + 1 + 1 + 1 + 1 + 1) ((0 : Nat) : Int) (init (.cons C x)) ((5 : Nat) : Int) s ∧ ∃ o c a f v t i l u h, s = rgOf [o, C, C, numT 0, lstT [x], c, a, f, v, t, i, l, u, h, tYes] := by
  rw [init_rgOf]
  refine ⟨_, ?_, .cons C x, .nil, .nil, .nil, x, .nil, .nil, .nil, .nil, .nil, rfl⟩
  show Goes _ _ _ (rgOf [.cons C x, .nil, .nil, .nil, .nil, .nil, .nil, .nil, .nil, .nil, .nil, .nil, .nil, .nil, .nil]) _ _
  refine g_head 1 0 (lt_u (by decide)) rfl (lt15 rfl (by decide)) ?_
  show Goes _ _ _ (rgOf [.cons C x, C, .nil, .nil, .nil, .nil, .nil, .nil, .nil, .nil, .nil, .nil, .nil, .nil, .nil]) _ _
  refine g_tail 8 0 (lt_u (by decide)) rfl (lt15 rfl (by decide)) ?_
  show Goes _ _ _ (rgOf [.cons C x, C, .nil, .nil, .nil, .nil, .nil, .nil, x, .nil, .nil, .nil, .nil, .nil, .nil]) _ _
  refine g_move 2 1 (lt_u (by decide)) rfl (lt15 rfl (by decide)) ?_
  show Goes _ _ _ (rgOf [.cons C x, C, C, .nil, .nil, .nil, .nil, .nil, x, .nil, .nil, .nil, .nil, .nil, .nil]) _ _
  refine g_cons 4 8 4 (lt_u (by decide)) rfl (lt15 rfl (by decide)) (by show 1 + x.size + 1 ≤ _; omega) ?_
  show Goes _ _ _ (rgOf [.cons C x, C, C, .nil, lstT [x], .nil, .nil, .nil, x, .nil, .nil, .nil, .nil, .nil, .nil]) _ _
  refine g_set 14 _ (lt_u (by decide)) rfl (lt15 rfl (by decide)) ?_
  exact Goes.refl _ _ _
theorem end_goes {p : List Ins} {L : List Tr} {s : Rg} (h : AtU p p.length L s) : ∃ s', Goes univ (0 + 1 + 1 + 1) ((5 : Nat) : Int) s ((129 : Nat) : Int) s' ∧ s' 0 = L.getD 0 .nil := by
  obtain ⟨o, c, a, f, v, t, i, l, u, h, rfl⟩ := h
  rw [List.drop_of_length_le (by simp)]
  refine ⟨rgOf [(lstT L).hd, codeT p, .nil, numT p.length, lstT L, c, a, f, v, t, i, l, u, h, tYes], ?_, ?_⟩
  · show Goes _ _ _ (rgOf [o, codeT p, .nil, numT p.length, lstT L, c, a, f, v, t, i, l, u, h, tYes]) _ _
    refine g_no 2 _ (lt_u (by decide)) rfl rfl ?_
    refine g_head 0 4 (lt_u (by decide)) rfl (lt15 rfl (by decide)) ?_
    show Goes _ _ _ (rgOf [(lstT L).hd, codeT p, .nil, numT p.length, lstT L, c, a, f, v, t, i, l, u, h, tYes]) _ _
    refine g_yes 14 129 _ (lt_u (by decide)) rfl rfl (by decide) ?_
    exact Goes.refl _ _ _
  · show (lstT L).hd = L.getD 0 .nil
    exact lst_hd L 0
theorem after_regs (p : List Ins) (j : Nat) (a : Int) (r : Rg) (ha : a ≠ (p.length : Int)) {q : Int × Rg} (hx : exec (p.getD a.toNat ⟨0, 0, 0, 0, ⟨#[]⟩⟩) r = some q) : after p (j + 1) a r = ((after p j (a + q.1) q.2).1, (after p j (a + q.1) q.2).2.1, (after p j (a + q.1) q.2).2.2.1 + 1, (after p j (a + q.1) q.2).2.2.2) := by
  rw [after, if_neg ha, hx]
theorem run_u {p : List Ins} (hp : OKP p) (hv : ∀ j (h : j < p.length), Right p[j] j p.length) : ∀ (k j : Nat) (r : Rg) (L : List Tr) (s : Rg), j ≤ p.length → (∀ i, L.getD i .nil = r i) → L.length ≤ 32 → Calm p k (j : Int) r → AtU p j L s → (after p k (j : Int) r).2.2.2 = true →
    ∃ n L' s' j', (after p k (j : Int) r).2.2.1 ≤ n ∧ n ≤ (after p k (j : Int) r).2.2.1 * (100 * (p.length + 40)) ∧ Goes univ n ((5 : Nat) : Int) s ((5 : Nat) : Int) s' ∧ AtU p j' L' s' ∧ (after p k (j : Int) r).1 = (j' : Int) ∧ j' ≤ p.length ∧ ∀ i, L'.getD i .nil = (after p k (j : Int) r).2.1 i
  | 0, j, r, L, s, hj, hL, hl, hc, hs, ho => ⟨0, L, s, j, Nat.le_refl _, by show 0 ≤ 0 * _; omega, Goes.refl _ _ _, hs, rfl, hj, hL⟩
  | k + 1, j, r, L, s, hj, hL, hl, hc, hs, ho => by
    by_cases he : (j : Int) = (p.length : Int)
    · have e : after p (k + 1) (j : Int) r = ((j : Int), r, 0, true) := by rw [after, if_pos he]
      rw [e]
      exact ⟨0, L, s, j, Nat.le_refl _, by show 0 ≤ 0 * _; omega, Goes.refl _ _ _, hs, rfl, hj, hL⟩
    · have hjl : j < p.length := by omega
      have hg : p.getD ((j : Int).toNat) ⟨0, 0, 0, 0, ⟨#[]⟩⟩ = p[j] := by simp [hjl]
      cases hx : exec (p.getD ((j : Int).toNat) ⟨0, 0, 0, 0, ⟨#[]⟩⟩) r with
      | none =>
        rw [after, if_neg he, hx] at ho
        cases ho
      | some q =>
        have e := fun m => after_regs p m (j : Int) r he hx
        obtain ⟨d, r'⟩ := q
        dsimp only at e
        have h1 : totN r 32 ≤ 200000 := hc 0 (Nat.zero_le _)
        have h2 : totN r' 32 ≤ 200000 := by
          have := hc 1 (by omega)
          rw [e 0] at this
          exact this
        rw [hg] at hx
        obtain ⟨n, L1, s1, j1, b1, b2, g1, a1, e1, c1, l1, r1⟩ := step_u hp.1 hjl (hv j hjl) hL hl h1 h2 hx hs
        rw [e k, ← e1] at ho
        have hc' : Calm p k (j1 : Int) r' := fun m hm => by
          have := hc (m + 1) (by omega)
          rw [e m, ← e1] at this
          exact this
        obtain ⟨n2, L2, s2, j2, b3, b4, g2, a2, e2, c2, r2⟩ := run_u hp hv k j1 r' L1 s1 c1 r1 l1 hc' a1 ho
        rw [e k, ← e1]
        refine ⟨n + n2, L2, s2, j2, ?_, ?_, g1.trans g2, a2, e2, c2, r2⟩
        · show (after p k (j1 : Int) r').2.2.1 + 1 ≤ _
          omega
        · show _ ≤ ((after p k (j1 : Int) r').2.2.1 + 1) * _
          rw [Nat.succ_mul]
          omega
theorem tot_init (x : Tr) : totN (init x) 32 = x.size + 31 := by
  have : ∀ m, totN (init x) (m + 1) = x.size + m := by
    intro m
    induction m with
    | zero => simp [totN, init]
    | succ m ih => rw [totN, ih]; simp [init, Tr.size]; omega
  exact this 31
theorem univ_ends {p : List Ins} (hp : OKP p) (hv : ∀ j (h : j < p.length), Right p[j] j p.length) {x y : Tr} {k n : Nat} (hc : Calm p k 0 (init x)) (hr : runM p x k = (y, n, 0)) (m : Nat) (hm : 100 * (p.length + 40) * (n + 1) ≤ m) :
    ∃ n', runM univ (.cons (codeT p) x) m = (y, n', 0) := by
  have h0 := hc 0 (Nat.zero_le _)
  have hx : x.size ≤ 1000000 := by
    have h1 : totN (init x) 32 ≤ 200000 := h0
    rw [tot_init] at h1
    omega
  obtain ⟨s, g0, o, c, a, f, v, t, i, l, u, h, rfl⟩ := start_goes (codeT p) x hx
  have hat : AtU p 0 [x] (rgOf [o, codeT p, codeT p, numT 0, lstT [x], c, a, f, v, t, i, l, u, h, tYes]) := ⟨o, c, a, f, v, t, i, l, u, h, rfl⟩
  have hL : ∀ i, [x].getD i .nil = init x i := fun i => by
    unfold init
    cases i with
    | zero => rfl
    | succ i => rw [if_neg (by omega)]; rfl
  unfold runM at hr
  dsimp only at hr
  split at hr
  · rename_i hok
    split at hr
    · rename_i hend
      obtain ⟨n1, L, s', j', b1, b2, g1, a1, e1, c1, r1⟩ := run_u hp hv k 0 (init x) [x] _ (Nat.zero_le _) hL (by simp) hc hat hok
      have hn : (after p k ((0 : Nat) : Int) (init x)).2.2.1 = n := congrArg (fun q => q.2.1) hr
      have hy : (after p k ((0 : Nat) : Int) (init x)).2.1 0 = y := congrArg (fun q => q.1) hr
      have hj : j' = p.length := by
        have : (after p k ((0 : Nat) : Int) (init x)).1 = (p.length : Int) := hend
        omega
      subst hj
      obtain ⟨s2, g2, e2⟩ := end_goes a1
      rw [hn] at b1 b2
      have g := (g0.trans g1).trans g2
      have hle : n * (100 * (p.length + 40)) + 8 ≤ m := by
        have : 100 * (p.length + 40) * (n + 1) = n * (100 * (p.length + 40)) + 100 * (p.length + 40) := by rw [Nat.mul_succ, Nat.mul_comm n]
        omega
      obtain ⟨w, hw⟩ : ∃ w, m = 0 + 1 + 1 + 1 + 1 + 1 + n1 + (0 + 1 + 1 + 1) + w := ⟨m - (0 + 1 + 1 + 1 + 1 + 1 + n1 + (0 + 1 + 1 + 1)), by omega⟩
      have hA := g w
      have hE : after univ w ((129 : Nat) : Int) s2 = (((129 : Nat) : Int), s2, 0, true) := by
        cases w with
        | zero => rfl
        | succ w => rw [after, if_pos (by rw [univ_length])]
      rw [hE, ← hw] at hA
      refine ⟨0 + (0 + 1 + 1 + 1 + 1 + 1 + n1 + (0 + 1 + 1 + 1)), ?_⟩
      unfold runM
      rw [show ((0 : Nat) : Int) = 0 from rfl] at hA
      rw [hA]
      dsimp only
      rw [if_pos rfl, if_pos (by rw [univ_length]), e2, r1, hy]
    · cases hr
  · cases hr
theorem after_cut (P : List Ins) : ∀ (m n : Nat) (a : Int) (r : Rg), m < n → (after P n a r).2.2.1 = n → (after P n a r).2.2.2 = true → (after P m a r).2.2.2 = true ∧ (after P m a r).1 ≠ (P.length : Int) ∧ (after P m a r).2.2.1 = m
  | m, 0, _, _, h, _, _ => absurd h (Nat.not_lt_zero m)
  | m, n + 1, a, r, h, h1, h2 => by
    rw [after] at h1 h2
    by_cases he : a = (P.length : Int)
    · rw [if_pos he] at h1
      exact absurd h1 (by simp)
    · rw [if_neg he] at h1 h2
      cases hx : exec (P.getD a.toNat ⟨0, 0, 0, 0, ⟨#[]⟩⟩) r with
      | none => rw [hx] at h2; cases h2
      | some q =>
        rw [hx] at h1 h2
        cases m with
        | zero => exact ⟨rfl, he, rfl⟩
        | succ m =>
          have h1' : (after P n (a + q.1) q.2).2.2.1 = n := by
            have : (after P n (a + q.1) q.2).2.2.1 + 1 = n + 1 := h1
            omega
          have ih := after_cut P m n (a + q.1) q.2 (by omega) h1' h2
          rw [after_regs P m a r he hx]
          exact ⟨ih.1, ih.2.1, by show _ + 1 = _; rw [ih.2.2]⟩
theorem goes_of_after (P : List Ins) : ∀ (n : Nat) (a : Int) (r : Rg), (after P n a r).2.2.1 = n → (after P n a r).2.2.2 = true → Goes P n a r (after P n a r).1 (after P n a r).2.1
  | 0, a, r, _, _ => Goes.refl _ _ _
  | n + 1, a, r, h1, h2 => by
    by_cases he : a = (P.length : Int)
    · rw [after, if_pos he] at h1
      exact absurd h1 (by simp)
    · cases hx : exec (P.getD a.toNat ⟨0, 0, 0, 0, ⟨#[]⟩⟩) r with
      | none => rw [after, if_neg he, hx] at h2; cases h2
      | some q =>
        rw [after_regs P n a r he hx] at h1 h2 ⊢
        have h1' : (after P n (a + q.1) q.2).2.2.1 = n := by
          have : (after P n (a + q.1) q.2).2.2.1 + 1 = n + 1 := h1
          omega
        have ih := goes_of_after P n (a + q.1) q.2 h1' h2
        rw [Nat.add_comm n 1]
        exact (Goes.step he hx).trans ih
theorem loop_again {P : List Ins} {a0 : Int} {r0 : Rg} {i k : Nat} (hik : i < k) (h1 : (after P k a0 r0).2.2.1 = k) (h2 : (after P k a0 r0).2.2.2 = true) (ha : (after P i a0 r0).1 = (after P k a0 r0).1) (hr : (after P i a0 r0).2.1 = (after P k a0 r0).2.1) :
    ∀ K, ∃ j, j < k ∧ (after P K a0 r0).1 = (after P j a0 r0).1 ∧ (after P K a0 r0).2.1 = (after P j a0 r0).2.1 ∧ (after P K a0 r0).2.2.1 = K ∧ (after P K a0 r0).2.2.2 = true := by
  intro K
  induction K with
  | zero => exact ⟨0, by omega, rfl, rfl, rfl, rfl⟩
  | succ K ih =>
    obtain ⟨j, hj, e1, e2, e3, e4⟩ := ih
    obtain ⟨c1, c2, c3⟩ := after_cut P j k a0 r0 hj h1 h2
    have gK := goes_of_after P K a0 r0 e3 e4 1
    have gj := goes_of_after P j a0 r0 c3 c1 1
    rw [e1, e2] at gK
    have hone : (after P 1 (after P j a0 r0).1 (after P j a0 r0).2.1).2.2.1 = 1 ∧ (after P 1 (after P j a0 r0).1 (after P j a0 r0).2.1).2.2.2 = true := by
      have hj1 : (after P (j + 1) a0 r0).2.2.2 = true ∧ (after P (j + 1) a0 r0).2.2.1 = j + 1 := by
        rcases Nat.lt_or_ge (j + 1) k with h | h
        · obtain ⟨d1, _, d3⟩ := after_cut P (j + 1) k a0 r0 h h1 h2
          exact ⟨d1, d3⟩
        · obtain rfl : k = j + 1 := by omega
          exact ⟨h2, h1⟩
      rw [gj] at hj1
      dsimp only at hj1
      exact ⟨by omega, hj1.1⟩
    have q1 : (after P (K + 1) a0 r0).1 = (after P (j + 1) a0 r0).1 := by rw [gK, gj]
    have q2 : (after P (K + 1) a0 r0).2.1 = (after P (j + 1) a0 r0).2.1 := by rw [gK, gj]
    have q3 : (after P (K + 1) a0 r0).2.2.1 = K + 1 := by rw [gK]; dsimp only; omega
    have q4 : (after P (K + 1) a0 r0).2.2.2 = true := by rw [gK]; exact hone.2
    rcases Nat.lt_or_ge (j + 1) k with h | h
    · exact ⟨j + 1, h, q1, q2, q3, q4⟩
    · obtain rfl : k = j + 1 := by omega
      exact ⟨i, hik, q1.trans ha.symm, q2.trans hr.symm, q3, q4⟩
theorem univ_lasts {p : List Ins} (hp : OKP p) (hv : ∀ j (h : j < p.length), Right p[j] j p.length) {x : Tr} {i k : Nat} (hk : k ≤ 300) (hc : Calm p 300 0 (init x)) (hik : i < k) (h1 : (after p k 0 (init x)).2.2.1 = k) (h2 : (after p k 0 (init x)).2.2.2 = true)
    (ha : (after p i 0 (init x)).1 = (after p k 0 (init x)).1) (hr : (after p i 0 (init x)).2.1 = (after p k 0 (init x)).2.1) (m : Nat) : (runM univ (.cons (codeT p) x) m).2.2 = 7 := by
  have h0 := hc 0 (Nat.zero_le _)
  have hx : x.size ≤ 1000000 := by
    have h1 : totN (init x) 32 ≤ 200000 := h0
    rw [tot_init] at h1
    omega
  have hl := loop_again hik h1 h2 ha hr
  have hcm : Calm p m 0 (init x) := fun j _ => by
    obtain ⟨j', hj', _, e2, _⟩ := hl j
    rw [e2]
    exact hc j' (by omega)
  obtain ⟨s, g0, o, c, a, f, v, t, i', l, u, h, rfl⟩ := start_goes (codeT p) x hx
  have hat : AtU p 0 [x] (rgOf [o, codeT p, codeT p, numT 0, lstT [x], c, a, f, v, t, i', l, u, h, tYes]) := ⟨o, c, a, f, v, t, i', l, u, h, rfl⟩
  have hL : ∀ i, [x].getD i .nil = init x i := fun i => by
    unfold init
    cases i with
    | zero => rfl
    | succ i => rw [if_neg (by omega)]; rfl
  obtain ⟨_, _, _, _, e3, e4⟩ := hl m
  obtain ⟨n1, L, s', j', b1, b2, g1, a1, _, c1, r1⟩ := run_u hp hv m 0 (init x) [x] _ (Nat.zero_le _) hL (by simp) hcm hat e4
  have hb : m ≤ n1 := by
    have : (after p m ((0 : Nat) : Int) (init x)).2.2.1 = m := e3
    omega
  have g := g0.trans g1
  have hA := g 0
  have hz : after univ 0 ((5 : Nat) : Int) s' = (((5 : Nat) : Int), s', 0, true) := rfl
  rw [hz, Nat.add_zero] at hA
  have hcut := after_cut univ m (0 + 1 + 1 + 1 + 1 + 1 + n1) ((0 : Nat) : Int) (init (.cons (codeT p) x)) (by omega) (by rw [hA]; dsimp only; omega) (by rw [hA])
  unfold runM
  dsimp only
  rw [show ((0 : Nat) : Int) = 0 from rfl] at hcut
  rw [if_pos hcut.1, if_neg hcut.2.1]
end Go.Proofs.Ytpnmmpfidiegcaa.Plain
end
