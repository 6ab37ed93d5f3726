/- Texts of this claim, together: what the functions return, and what they say in plain words. -/
import Derived.Test.YtpnmmpfidiegcaaUB
import Derived.StillTailTactics
import Derived.Deep.RegionLaw
import Derived.Laws.EntriesVeiled
import Derived.Lib.Repeat
section
namespace Go.Proofs.Ytpnmmpfidiegcaa.C
open Go.RowKit Go.Proofs.YtpnmmpfidiegcaaW.PrintWords Go.Proofs.YtpnmmpfidiegcaaW.PrintLast Go.Proofs.YtpnmmpfidiegcaaW.PrintMore
open Go.Proofs.Ytpnmmpfidiegcaa.Plain (Tr stk Good good_drop good_isT IsT dec stk_isT stk_size stk_48 stk_49 isT_stk)
set_option linter.unusedVariables false
set_option linter.unusedSimpArgs false
def Nds (w : World) : List Tr → List Value → Prop
  | [], xs => xs = []
  | t :: ts, xs => ∃ v ys, xs = v :: ys ∧ Nd w t v ∧ Nds w ts ys
theorem Nds.keep {w w' : World} (h : NK w w') : ∀ (ts : List Tr) (xs : List Value), Nds w ts xs → Nds w' ts xs
  | [], _, e => e
  | t :: ts, _, ⟨v, ys, e, a, b⟩ => ⟨v, ys, e, Nd.keep h t v a, keep h ts ys b⟩
theorem Nds.length {w : World} : ∀ {ts : List Tr} {xs : List Value}, Nds w ts xs → xs.length = ts.length
  | [], _, e => by rw [show _ = _ from e]; rfl
  | t :: ts, _, ⟨v, ys, e, a, b⟩ => by rw [e, List.length_cons, List.length_cons, Nds.length b]
theorem Nds.at_ {w : World} : ∀ {ts : List Tr} {xs : List Value} (i : Nat) (h : i < ts.length), Nds w ts xs → ∃ v, xs[i]? = some v ∧ Nd w ts[i] v
  | t :: ts, _, 0, _, ⟨v, ys, e, a, b⟩ => ⟨v, by rw [e]; rfl, a⟩
  | t :: ts, _, i + 1, h, ⟨v, ys, e, a, b⟩ => by
    obtain ⟨u, hu, hn⟩ := Nds.at_ i (by simpa using h) b
    exact ⟨u, by rw [e]; exact hu, hn⟩
theorem Nds.snoc {w : World} {t : Tr} {v : Value} (hv : Nd w t v) : ∀ {ts : List Tr} {xs : List Value}, Nds w ts xs → Nds w (ts ++ [t]) (xs ++ [v])
  | [], _, e => by rw [show _ = _ from e]; exact ⟨v, [], rfl, hv, rfl⟩
  | _ :: _, _, ⟨u, ys, e, a, b⟩ => ⟨u, ys ++ [v], by rw [e]; rfl, a, Nds.snoc hv b⟩
theorem Nds.append {w : World} {us : List Tr} {zs : List Value} (k : Nds w us zs) : ∀ {ts : List Tr} {xs : List Value}, Nds w ts xs → Nds w (ts ++ us) (xs ++ zs)
  | [], _, e => by rw [show _ = _ from e]; exact k
  | _ :: _, _, ⟨u, ys, e, a, b⟩ => ⟨u, ys ++ zs, by rw [e]; rfl, a, Nds.append k b⟩
theorem Nds.take {w : World} : ∀ {ts : List Tr} {xs : List Value} (n : Nat), Nds w ts xs → Nds w (ts.take n) (xs.take n)
  | _, _, 0, _ => rfl
  | [], _, n + 1, e => by rw [show _ = _ from e]; rfl
  | _ :: _, _, n + 1, ⟨u, ys, e, a, b⟩ => ⟨u, ys.take n, by rw [e]; rfl, a, Nds.take n b⟩
theorem Nds.last {w : World} {b : Tr} : ∀ {ts : List Tr} {xs : List Value}, Nds w (ts ++ [b]) xs → ∃ ys v, xs = ys ++ [v] ∧ Nds w ts ys ∧ Nd w b v
  | [], _, ⟨v, ys, e, a, b⟩ => ⟨[], v, by rw [e, show ys = [] from b]; rfl, rfl, a⟩
  | _ :: _, _, ⟨u, ys, e, a, b⟩ => by
    obtain ⟨zs, v, e1, h1, h2⟩ := Nds.last b
    exact ⟨u :: zs, v, by rw [e, e1]; rfl, ⟨u, zs, rfl, a, h1⟩, h2⟩
theorem Nds.last2 {w : World} {ts st : List Tr} {a b : Tr} {xs : List Value} (h : Nds w ts xs) (e : ts.reverse = a :: b :: st) : ∃ ys va vb, xs = ys ++ [vb, va] ∧ Nds w st.reverse ys ∧ Nd w a va ∧ Nd w b vb := by
  have e1 : ts = (st.reverse ++ [b]) ++ [a] := by rw [← List.reverse_reverse ts, e]; simp
  rw [e1] at h
  obtain ⟨ys, va, rfl, h1, h2⟩ := Nds.last h
  obtain ⟨zs, vb, rfl, h3, h4⟩ := Nds.last h1
  exact ⟨zs, va, vb, by simp, h3, h2, h4⟩
theorem infoNp : (Try.prog.info? 25).map (fun i => (i.zero, i.size, i.bytes)) = some (some (.pointer none), 1, 8) := by kernel_rfl
def GrowOk (s : ByteArray) (most : Int) : Prop := (s.size : Int) ≤ most ∧ IsT s.data.toList
def Grew (W : World) (s : ByteArray) (most : Int) (e : Ending) (w' : World) : Prop :=
  ∃ v b, e = .returned (.tuple #[v, .bool b]) ∧ Below W.heap.size W w' ∧ ((b = true ∧ GrowOk s most ∧ Nd w' (dec s.data.toList) v) ∨ (b = false ∧ ¬ GrowOk s most ∧ v = .pointer none))
theorem Grew.no {W w' : World} {s : ByteArray} {most : Int} (hb : Below W.heap.size W w') (h : ¬ GrowOk s most) : Grew W s most (.returned (.tuple #[.pointer none, .bool false])) w' := ⟨_, _, rfl, hb, .inr ⟨rfl, h, rfl⟩⟩
theorem Grew.yes {W w' : World} {s : ByteArray} {most : Int} {v : Value} (hb : Below W.heap.size W w') (h : GrowOk s most) (hn : Nd w' (dec s.data.toList) v) : Grew W s most (.returned (.tuple #[v, .bool true])) w' := ⟨_, _, rfl, hb, .inl ⟨rfl, h, hn⟩⟩
set_option maxHeartbeats 4000000 in
set_option maxRecDepth 100000 in
theorem grow_go (s : ByteArray) (most : Int) (w : World) (hz : (s.size : Int) ≤ most → s.size ≤ 100000000) :
    Calls Try.prog 5 #[.string s, .int .i64 most] w (Grew w s most) := by
  by_cases hlong : most < (s.size : Int)
  · have t1 : decide (most < (s.size : Int)) = true := decide_eq_true hlong
    have HNO : Aside0 (¬ GrowOk s most) := ⟨fun h => by have := h.1; omega⟩
    clear hz hlong
    go_enter Try.func5, Try.ntmps5
    go_wp2
    go_ret2
    exact Grew.no (Below.refl _ _) HNO.out
  have t0 : decide (most < (s.size : Int)) = false := decide_eq_false hlong
  have hz := hz (by omega)
  have HM : Aside0 ((s.size : Int) ≤ most) := ⟨by omega⟩
  have hl : s.data.toList.length = s.size := Array.length_toList
  have HL := Aside0.mk hl
  clear hl hlong
  go_enter Try.func5, Try.ntmps5
  go_wp2
  go_loopg [6, 7] (s.size + 1) (fun kq v3 v4 wr => ∃ (i : Int) (ts : List Tr) (xs : List Value), v4 = .int .i64 i ∧ Aside0 (-1 ≤ i ∧ i + 1 ≤ s.size ∧ (i + 1).toNat < kq ∧ xs.length + (i + 1).toNat ≤ s.size) ∧ Aside0 (ts.reverse = stk (s.data.toList.drop (i + 1).toNat) ∧ Plain.Good (s.data.toList.drop (i + 1).toNat)) ∧ Aside0 (Nds wr ts xs) ∧ Aside0 (wr.ownsRow w.heap.size 25 1 v3 xs.length xs) ∧ Aside0 (Below w.heap.size w wr))
  case atStart => exact ⟨_, [], [], rfl, ⟨by omega, by omega, by omega, by simp⟩, ⟨by rw [show ((s.size : Int) - 1 + 1).toNat = s.size from by omega, ← HL.out, List.drop_length]; exact ⟨rfl, trivial⟩⟩, ⟨rfl⟩, ⟨own_nil _ _ _ _⟩, ⟨Below.refl _ _⟩⟩
  case round =>
    obtain ⟨i, ts, xs, rfl, HI, HT, HN, HO, HB⟩ := hrel
    by_cases h0 : 0 ≤ i
    · obtain ⟨m, rfl⟩ := Int.eq_ofNat_of_zero_le h0
      have hm : m < s.size := by have := HI.out; omega
      have hd0 : s.data.toList.drop m = s.data.toList[m]'(by rw [HL.out]; exact hm) :: s.data.toList.drop (m + 1) := List.drop_eq_getElem_cons _
      have hcc : (s.data.toList[m]'(by rw [HL.out]; exact hm)) = s[m] := rfl
      rw [hcc] at hd0
      have hxl : xs.length = ts.length := Nds.length HN.out
      rw [show ((m : Int) + 1).toNat = m + 1 from by omega] at HT
      have hsl : (stk (s.data.toList.drop (m + 1))).length = xs.length := by rw [← HT.out.1, List.length_reverse, hxl]
      have hgd := HT.out.2
      have hno : ¬ (s[m] = 48 ∨ s[m] = 49 ∧ 2 ≤ xs.length) → ¬ GrowOk s most := fun h hok => by
        have := good_drop s.data.toList m (by rw [HL.out]; exact hm) (good_isT hok.2)
        rw [hcc, hsl] at this
        exact h this
      have HNO := Aside0.mk hno
      have hgm : (s[m] = 48 ∨ s[m] = 49 ∧ 2 ≤ xs.length) → Plain.Good (s.data.toList.drop m) := fun h => by
        rw [hd0]
        exact ⟨by rw [hsl]; exact h, hgd⟩
      have HGM := Aside0.mk hgm
      clear hcc hno hgm hgd
      obtain ⟨k2, rfl⟩ : ∃ k2, gk = k2 + 1 := ⟨gk - 1, by have := HI.out; omega⟩
      by_cases h48 : s[m] = 48
      · have t1 : ((s[m].toNat : Int) == 48) = true := by rw [h48]; rfl
        have HST : Aside0 (stk (s.data.toList.drop m) = .nil :: stk (s.data.toList.drop (m + 1)) ∧ Plain.Good (s.data.toList.drop m)) := ⟨by rw [hd0, h48, stk_48], HGM.out (.inl h48)⟩
        clear hd0 h48 hsl hxl HGM HNO
        obtain ⟨A, c, rfl⟩ := own_slice HO.out
        go_wp2_with (at_builtin; refine print_append_cells w.heap.size rfl (.tmp 24) (.tmp 25) 50 25 (.pointer none) 1 8 rfl Try.underlying50 infoNp rfl (by omega) (by omega) _ xs.length xs [.pointer none] rfl rfl rfl (by intro u hu; simp at hu; rw [hu]; rfl) HO.out HB.out HB.out.size ?c1 ?_)
        case c1 => have := HI.out; omega
        intro v1 w1 ho hb hgr _
        have HO1 := Aside0.mk ho
        have HB1 := Aside0.mk hb
        have HK := Aside0.mk (NK.grown hgr HO.out (by decide))
        clear ho hb hgr
        go_wp2
        go_roundg k2
        case measure => omega
        case rel =>
          have hi := HI.out
          refine ⟨(m : Int) - 1, ts ++ [.nil], xs ++ [.pointer none], rfl, ⟨by omega, by omega, by omega, by rw [List.length_append, List.length_singleton]; omega⟩, ⟨?_⟩, ⟨Nds.snoc (t := .nil) rfl (Nds.keep HK.out _ _ HN.out)⟩, ⟨by rw [List.length_append, List.length_singleton]; exact HO1.out⟩, HB1⟩
          rw [List.reverse_append, show ((m : Int) - 1 + 1).toNat = m from by omega]
          refine ⟨?_, HST.out.2⟩
          rw [HST.out.1, ← HT.out.1]; rfl
      · have t1 : ((s[m].toNat : Int) == 48) = false := by
          refine beq_eq_false_iff_ne.2 fun e => h48 ?_
          exact UInt8.toNat_inj.1 (by show s[m].toNat = 48; omega)
        by_cases h49 : s[m] = 49
        · have t2 : ((s[m].toNat : Int) == 49) = true := by rw [h49]; rfl
          by_cases h2 : 2 ≤ xs.length
          · obtain ⟨a, b, st, hst⟩ : ∃ a b st, stk (s.data.toList.drop (m + 1)) = a :: b :: st := by
              cases h1 : stk (s.data.toList.drop (m + 1)) with
              | nil => rw [h1] at hsl; simp at hsl; omega
              | cons a l => cases l with
                | nil => rw [h1] at hsl; simp at hsl; omega
                | cons b l => exact ⟨a, b, l, rfl⟩
            have HST : Aside0 (stk (s.data.toList.drop m) = .cons a b :: st ∧ Plain.Good (s.data.toList.drop m)) := ⟨by rw [hd0, h49, stk_49 hst], HGM.out (.inr ⟨h49, h2⟩)⟩
            have hsz := stk_size (s.data.toList.drop (m + 1))
            rw [hst, List.length_drop, HL.out, List.map_cons, List.map_cons, List.sum_cons, List.sum_cons] at hsz
            obtain ⟨ys, va, vb, rfl, hys, hva, hvb⟩ := Nds.last2 HN.out (HT.out.1.trans hst)
            have za : a.size ≤ 1000000000000 := by omega
            have zb : b.size ≤ 1000000000000 := by omega
            have HY := Aside0.mk hys
            have HVA := Aside0.mk hva
            have HVB := Aside0.mk hvb
            obtain ⟨nn, hnn⟩ : ∃ nn, nn = ys.length := ⟨_, rfl⟩
            have hlen : (ys ++ [vb, va]).length = nn + 2 := by simp [hnn]
            rw [hlen] at HO
            obtain ⟨g, cap, rfl, hgb, hgl⟩ := HO.out.form (by omega)
            have ca := HO.out.cells (g := g) rfl (nn + 1) va (by simp [hnn])
            have cb := HO.out.cells (g := g) rfl nn vb (by simp [hnn])
            rw [add_plain] at ca cb
            have hcap : nn + 2 ≤ cap := own_le HO.out
            have hcap1 : (nn : Int) ≤ (cap : Int) := by omega
            have hnl : nn ≤ 1000000000 := by have := HI.out; rw [hlen] at this; omega
            have HNN := Aside0.mk hnn
            have t3 : decide (1 < (nn : Int) + 2) = true := decide_eq_true (by omega)
            clear hnn hlen hsz hst h49 hd0 h48 hys hva hvb HT HN HNO HGM hsl hxl h2
            have e1 : IntKind.i64.wrap ((nn : Int) + 2 - 1) = (nn : Int) + 1 := by rw [i64_w]; unfold wrap64; omega
            have e2 : IntKind.i64.wrap (nn : Int) = (nn : Int) := by rw [i64_w]; unfold wrap64; omega
            have e3 : 0 ≤ (nn : Int) + 1 := by omega
            have e4 : (nn : Int) + 1 < (nn : Int) + 2 := by omega
            have e5 : ((nn : Int) + 1).toNat = nn + 1 := by omega
            have e6 : (nn : Int) < (nn : Int) + 2 := by omega
            go_wp2
            have HO2 : Aside0 (wr.ownsRow w.heap.size 25 1 (.slice (some ⟨g, 0, none⟩) nn cap) nn ys) := ⟨by
              have := own_take (m := nn) HO.out (by omega)
              rw [Nat.mul_one, List.take_append_of_le_length (by have := HNN.out; omega), List.take_of_length_le (by have := HNN.out; omega)] at this
              exact this⟩
            clear HO
            obtain ⟨i0, hi, hz0, hz1, hz2⟩ := info_parts infoNp
            have HM1 := Aside0.mk (show nn + 1 ≤ maxLen by unfold maxLen; omega)
            have HM2 := Aside0.mk (show (nn + 1) * 8 ≤ 140737488355328 by omega)
            go_region_law (first | (refine step_append_lies _ (by rfl) _ _ _ (by rfl) w.heap.size 25 i0 _ 1 8 Try.underlying50 hi hz0 hz1 hz2 rfl (by omega) _ nn ys (by rfl) ((pw_own_below HO2.out (Below.trans (below_drew (Below.refl wr.heap.size wr)) hbu)).alloc _) ⟨w1.heap.size, 0, none⟩ 1 1 [.pointer pu] (by rfl) (by rfl) (World.news_of_block (cs := #[.pointer pu]) (t := 25) (fr := (0, 0)) (heap_alloc_new w1 _)) (by simp [Value.oneCell']) (by omega) HM1.out HM2.out (by have := HB.out.size; have := hbu.size; simp at this ⊢; omega) (w1.heap.size + 1) (by simp) ?_; intro gg cap3 w2 hown1 hgrow1 hat1 hlt1) | (go_simp; go_at_call 10; refine (Cons_calls a b va vb _ (Nd.keep (NK.drew _) _ _ HVA.out) (Nd.keep (NK.drew _) _ _ HVB.out) za zb).mono ?_; rintro e w1 ⟨u, rfl, hnu, hbu⟩; obtain ⟨pu, rfl⟩ := Nd.ptr hnu))
            all_goals
              have HBU := Aside0.mk (Below.trans (below_drew (Below.refl wr.heap.size wr)) hbu)
              have HB1 := Aside0.mk (below_then HB.out HB.out.size HBU.out)
              have HU := Aside0.mk hnu
              have HO3 := Aside0.mk hown1
              have HOA := Aside0.mk ((pw_own_below HO2.out HBU.out).alloc (.cells #[.pointer pu] 25))
              have HB3 : Aside0 (Below w.heap.size w w2) := ⟨(HB1.out.alloc HB1.out.size _).grown hgrow1 (by have := HB1.out.size; simp; omega) (own_base HO2.out)⟩
              have HK : Aside0 (NK w1 w2) := ⟨NK.trans (NK.alloc w1 (.cells #[.pointer pu] 25)) (NK.grown hgrow1 HOA.out (by decide))⟩
              have HK1 : Aside0 (NK wr w1) := ⟨NK.below HBU.out⟩
              clear hown1 hgrow1 hat1 hlt1 hbu hnu HOA e1 e2 e3 e4 e5 e6 ca cb
              go_wp2
              go_roundg k2
              case measure => omega
              case rel =>
                have hi := HI.out
                rw [List.length_append] at hi
                have hi2 : [vb, va].length = 2 := rfl
                refine ⟨(m : Int) - 1, st.reverse ++ [.cons a b], ys ++ [.pointer pu], rfl, ⟨by omega, by omega, by omega, by rw [List.length_append, List.length_singleton]; omega⟩, ⟨?_⟩, ⟨Nds.snoc (Nd.keep HK.out _ _ HU.out) (Nds.keep (NK.trans HK1.out HK.out) _ _ HY.out)⟩, ⟨by rw [List.length_append, List.length_singleton, ← HNN.out]; exact HO3.out⟩, HB3⟩
                rw [List.reverse_append, show ((m : Int) - 1 + 1).toNat = m from by omega]
                refine ⟨?_, HST.out.2⟩
                rw [HST.out.1, List.reverse_reverse]; rfl
          · have t3 : decide (1 < (xs.length : Int)) = false := decide_eq_false (by omega)
            have HF := Aside0.mk (HNO.out (fun h => h.elim h48 (fun h => h2 h.2)))
            clear HNO HGM hd0 h48 h49 h2 hsl hxl
            obtain ⟨A, c, rfl⟩ := own_slice HO.out
            go_wp2
            go_ret2
            exact Grew.no HB.out HF.out
        · have t2 : ((s[m].toNat : Int) == 49) = false := by
            refine beq_eq_false_iff_ne.2 fun e => h49 ?_
            exact UInt8.toNat_inj.1 (by show s[m].toNat = 49; omega)
          have HF := Aside0.mk (HNO.out (fun h => h.elim h48 (fun h => h49 h.1)))
          clear HNO HGM hd0 h48 h49 hsl hxl
          obtain ⟨A, c, rfl⟩ := own_slice HO.out
          go_wp2
          go_ret2
          exact Grew.no HB.out HF.out
    · have hi := HI.out
      obtain rfl : i = -1 := by omega
      have ht := HT.out
      rw [show ((-1 : Int) + 1).toNat = 0 from rfl, List.drop_zero] at ht
      have hxl : xs.length = ts.length := Nds.length HN.out
      have hsl : (stk s.data.toList).length = xs.length := by rw [← ht.1, List.length_reverse, hxl]
      by_cases h1 : xs.length = 1
      · have HIT : Aside0 (GrowOk s most) := ⟨HM.out, isT_stk.2 ⟨ht.2, by rw [hsl]; exact h1⟩⟩
        have ht2 := ht.1
        rw [stk_isT HIT.out.2] at ht2
        obtain rfl : ts = [dec s.data.toList] := by rw [← List.reverse_reverse ts, ht2]; rfl
        obtain ⟨v, ys, rfl, hv1, hys⟩ := HN.out
        obtain rfl : ys = [] := hys
        obtain ⟨g, cap, rfl, hgb, hgl⟩ := HO.out.form (by simp)
        have ca := HO.out.cells (g := g) rfl 0 v rfl
        rw [add_plain] at ca
        have HV := Aside0.mk hv1
        clear hv1 ht ht2 hi HO HT HN hxl hsl h1
        go_wp2
        go_ret2
        exact Grew.yes HB.out HIT.out HV.out
      · have HF : Aside0 (¬ GrowOk s most) := ⟨fun h => h1 (by rw [← hsl]; exact (isT_stk.1 h.2).2)⟩
        have t1 : ((xs.length : Int) != 1) = true := bne_iff_ne.2 (by omega)
        clear ht hsl hxl hi h1
        obtain ⟨A, c, rfl⟩ := own_slice HO.out
        go_wp2
        go_ret2
        exact Grew.no HB.out HF.out
theorem grow_yes (s : ByteArray) (most : Int) (w : World) (h : GrowOk s most) (hz : s.size ≤ 100000000) :
    Calls Try.prog 5 #[.string s, .int .i64 most] w fun e w' => ∃ v, e = .returned (.tuple #[v, .bool true]) ∧ Nd w' (dec s.data.toList) v ∧ Below w.heap.size w w' := by
  refine (grow_go s most w fun _ => hz).mono ?_
  rintro e w' ⟨v, b, rfl, hb, ⟨rfl, _, hn⟩ | ⟨_, hno, _⟩⟩
  · exact ⟨v, rfl, hn, hb⟩
  · exact absurd h hno
theorem grow_no (s : ByteArray) (most : Int) (w : World) (h : ¬ GrowOk s most) (hz : most ≤ 100000000) :
    Calls Try.prog 5 #[.string s, .int .i64 most] w fun e w' => e = .returned (.tuple #[.pointer none, .bool false]) ∧ Below w.heap.size w w' := by
  refine (grow_go s most w fun h => by omega).mono ?_
  rintro e w' ⟨v, b, rfl, hb, ⟨_, hy, _⟩ | ⟨rfl, _, rfl⟩⟩
  · exact absurd hy h
  · exact ⟨rfl, hb⟩
end Go.Proofs.Ytpnmmpfidiegcaa.C
end
section
namespace Go.Proofs.Ytpnmmpfidiegcaa.Plain
open Go.Proofs.Ytpnmmpfidiegcaa.C
open Go.RowKit Go.Proofs.YtpnmmpfidiegcaaW.PrintWords Go.Proofs.YtpnmmpfidiegcaaW.PrintLast Go.Proofs.YtpnmmpfidiegcaaW.PrintMore
set_option linter.unusedVariables false
set_option linter.unusedSimpArgs false
abbrev Ins := S52
abbrev bl (s : ByteArray) : List UInt8 := s.data.toList
def bs (l : List UInt8) : ByteArray := ⟨l.toArray⟩
theorem bl_bs (l : List UInt8) : bl (bs l) = l := by simp [bs]
theorem bs_bl (s : ByteArray) : bs (bl s) = s := by simp [bs]
theorem bl_len (s : ByteArray) : (bl s).length = s.size := Array.length_toList
theorem toL (s : ByteArray) : s.toList = bl s := Go.ByteArray.toList_eq s
theorem eq_bs {s : ByteArray} {l : List UInt8} (h : bl s = l) : s = bs l := by rw [← h, bs_bl]
def ValidT (s : ByteArray) : Prop := s.size ≤ 2000000 ∧ IsT (bl s)
end Go.Proofs.Ytpnmmpfidiegcaa.Plain
end
section
namespace Go.Proofs.Ytpnmmpfidiegcaa.Plain
open Go.Proofs.Ytpnmmpfidiegcaa.C
open Go.RowKit Go.Proofs.YtpnmmpfidiegcaaW.PrintWords Go.Proofs.YtpnmmpfidiegcaaW.PrintLast Go.Proofs.YtpnmmpfidiegcaaW.PrintMore
set_option linter.unusedVariables false
set_option linter.unusedSimpArgs false
def body (x : Ins) : List UInt8 :=
  if x.f0 = 0 then 49 :: (num x.f1.toNat ++ bl x.f4)
  else if x.f0 = 2 then 49 :: (num x.f1.toNat ++ 49 :: (num x.f2.toNat ++ num x.f3.toNat))
  else if x.f0 = 5 then (if x.f2 < 0 then 49 :: (num x.f1.toNat ++ 49 :: ([49, 48, 48] ++ num (-x.f2).toNat)) else 49 :: (num x.f1.toNat ++ 49 :: ([48] ++ num x.f2.toNat)))
  else 49 :: (num x.f1.toNat ++ num x.f2.toNat)
end Go.Proofs.Ytpnmmpfidiegcaa.Plain
end
section
namespace Go.Proofs.Ytpnmmpfidiegcaa.Plain
open Go.Proofs.Ytpnmmpfidiegcaa.C
open Go.RowKit Go.Proofs.YtpnmmpfidiegcaaW.PrintWords Go.Proofs.YtpnmmpfidiegcaaW.PrintLast Go.Proofs.YtpnmmpfidiegcaaW.PrintMore
set_option linter.unusedVariables false
set_option linter.unusedSimpArgs false
def Reg (n : Int) : Prop := 0 ≤ n ∧ n < 32
def Right (x : Ins) (i n : Int) : Prop :=
  x.f0 = 0 ∧ Reg x.f1 ∧ x.f2 = 0 ∧ x.f3 = 0 ∧ ValidT x.f4 ∨
  (x.f0 = 1 ∨ x.f0 = 3 ∨ x.f0 = 4) ∧ Reg x.f1 ∧ Reg x.f2 ∧ x.f3 = 0 ∧ bl x.f4 = [] ∨
  x.f0 = 2 ∧ Reg x.f1 ∧ Reg x.f2 ∧ Reg x.f3 ∧ bl x.f4 = [] ∨
  x.f0 = 5 ∧ Reg x.f1 ∧ -i ≤ x.f2 ∧ x.f2 ≤ n - i ∧ x.f3 = 0 ∧ bl x.f4 = []
def OKP (p : List Ins) : Prop := p.length ≤ 4000 ∧ (p.map fun x => x.f4.size).sum ≤ 2000000 ∧ ∀ j, j < p.length → Right (rd_T52 p (j : Int)) j p.length
theorem rd_at (p : List Ins) (i : Nat) (h : i < p.length) : rd_T52 p (i : Int) = p[i] := by
  unfold rd_T52
  simp [h]
abbrev sizes (p : List Ins) : Nat := (p.map fun x => x.f4.size).sum
theorem mem_sizes : ∀ (p : List Ins) (x : Ins), x ∈ p → x.f4.size ≤ sizes p
  | y :: p, x, h => by
    simp only [sizes, List.map_cons, List.sum_cons]
    rcases List.mem_cons.1 h with rfl | h
    · omega
    · have := mem_sizes p x h
      simp only [sizes] at this
      omega
theorem okp_small {p : List Ins} (h : OKP p) : ∀ x ∈ p, x.f4.size ≤ 2000000 := by
  intro x hx
  have h1 : sizes p ≤ 2000000 := h.2.1
  have := mem_sizes p x hx
  omega
end Go.Proofs.Ytpnmmpfidiegcaa.Plain
end
section
namespace Go.Proofs.Ytpnmmpfidiegcaa.Plain
open Go.Proofs.Ytpnmmpfidiegcaa.C
open Go.RowKit Go.Proofs.YtpnmmpfidiegcaaW.PrintWords Go.Proofs.YtpnmmpfidiegcaaW.PrintLast Go.Proofs.YtpnmmpfidiegcaaW.PrintMore
set_option linter.unusedVariables false
set_option linter.unusedSimpArgs false
theorem bl_nums (l : List Int) : bl (strOfNums l) = l.map fun n => UInt8.ofNat n.toNat := strOfNums_data l
end Go.Proofs.Ytpnmmpfidiegcaa.Plain
end
section
namespace Go.Proofs.Ytpnmmpfidiegcaa.C
open Go.RowKit Go.Proofs.YtpnmmpfidiegcaaW.PrintWords Go.Proofs.YtpnmmpfidiegcaaW.PrintLast Go.Proofs.YtpnmmpfidiegcaaW.PrintMore
open Go.Proofs.Ytpnmmpfidiegcaa.Plain (Tr bs bl bl_nums eq_bs)
set_option linter.unusedVariables false
set_option linter.unusedSimpArgs false
def encI : Tr → List Int
  | .nil => [48]
  | .cons a b => 49 :: (encI a ++ encI b)
theorem encI_map : ∀ t : Tr, (encI t).map (fun n => UInt8.ofNat n.toNat) = t.enc
  | .nil => rfl
  | .cons a b => by simp [encI, Tr.enc, encI_map a, encI_map b]
theorem encI_str (t : Tr) : strOfNums (encI t) = bs t.enc := eq_bs (by rw [bl_nums, encI_map])
theorem infoU8y : (Try.prog.info? 5).map (fun i => (i.zero, i.size, i.bytes)) = some (some (.int .u8 0), 1, 1) := by kernel_rfl
def sumT (ts : List Tr) : Nat := (ts.map Tr.size).sum
theorem sumT_snoc (ts : List Tr) (x : Tr) : sumT (ts ++ [x]) = sumT ts + x.size := by unfold sumT; simp
theorem sumT_len : ∀ qs : List Tr, qs.length ≤ sumT qs
  | [] => Nat.zero_le _
  | q :: qs => by
    have := sumT_len qs
    have h1 := Tr.size_pos q
    show qs.length + 1 ≤ (q.size + (qs.map Tr.size).sum)
    unfold sumT at this
    omega
set_option maxHeartbeats 4000000 in
set_option maxRecDepth 100000 in
theorem text_calls (t : Tr) (v : Value) (w : World) (h : Nd w t v) (hz : t.size ≤ 100000000) :
    Calls Try.prog 43 #[v] w fun e w' => e = .returned (.string (bs t.enc)) ∧ Below w.heap.size w w' := by
  obtain ⟨p, rfl⟩ := Nd.ptr h
  have HT := Aside0.mk h
  clear h
  have HW : Aside0 ((w.alloc (.cells #[.pointer p] 25 (0, 0))).ownsRow w.heap.size 25 1 (.slice (some ⟨w.heap.size, 0, none⟩) 1 1) 1 [.pointer p]) :=
    ⟨⟨rfl, .inr ⟨w.heap.size, 1, #[.pointer p], rfl, Nat.le_refl _, blk_new _ _, Nat.le_refl _, by decide, rfl, rfl⟩⟩⟩
  go_enter Try.func43, Try.ntmps43
  go_wp2
  go_loopg [3, 4] (t.size + 1) (fun kq v3 v4 wr => ∃ (ts : List Tr) (xs : List Value) (os : List Int), Aside0 (kq = sumT ts + 1 ∧ os.length + sumT ts = t.size) ∧ Aside0 (os ++ ts.reverse.flatMap encI = encI t) ∧ Aside0 (Nds wr ts xs) ∧ Aside0 (wr.ownsRow w.heap.size 25 1 v4 xs.length xs) ∧ Aside0 (wr.ownsRow w.heap.size 5 1 v3 os.length (nums .u8 os)) ∧ Aside0 (Below w.heap.size w wr))
  case atStart =>
    refine ⟨[t], [.pointer p], [], ⟨by simp [sumT], by simp [sumT]⟩, ⟨by simp⟩, ⟨⟨_, _, rfl, Nd.keep (NK.alloc _ _) _ _ HT.out, rfl⟩⟩, HW, ⟨own_nil _ _ _ _⟩, ⟨below_alloc (Below.refl _ _) _⟩⟩
  case round =>
    clear HW
    obtain ⟨ts, xs, os, HI, HE, HN, HO, HU, HB⟩ := hrel
    have hl := Nds.length HN.out
    rcases List.eq_nil_or_concat ts with rfl | ⟨qs, x, hq⟩
    · obtain rfl : xs = [] := HN.out
      obtain ⟨A, c, rfl⟩ := own_slice HO.out
      have he := HE.out
      rw [List.reverse_nil, List.flatMap_nil, List.append_nil] at he
      subst he
      have hcv := own_string (P := Try.prog) (n := (encI t).length) (xs := encI t) Try.underlying74 Try.underlying5 Try.underlying9 HU.out
      rw [encI_str] at hcv
      clear hl HI HE HN HO HU
      go_wp2
      go_ret
      exact ⟨rfl, HB.out⟩
    · rw [List.concat_eq_append] at hq
      subst hq
      obtain ⟨ys, vx, rfl, hys, hvx⟩ := Nds.last HN.out
      obtain ⟨nn, hnn⟩ : ∃ nn, nn = ys.length := ⟨_, rfl⟩
      have hlen : (ys ++ [vx]).length = nn + 1 := by simp [hnn]
      rw [hlen] at HO
      obtain ⟨g, cap, rfl, hgb, hgl⟩ := HO.out.form (by omega)
      have ca := HO.out.cells (g := g) rfl nn vx (by simp [hnn])
      rw [add_plain] at ca
      have hcap : nn + 1 ≤ cap := own_le HO.out
      have hcap1 : (nn : Int) ≤ (cap : Int) := by omega
      have hql : qs.length = nn := by have := Nds.length hys; omega
      have hsum := HI.out
      rw [sumT_snoc] at hsum
      have hnl : nn ≤ 100000000 := by
        have h1 := sumT_len qs
        omega
      have HNN := Aside0.mk hnn
      have HY := Aside0.mk hys
      have HO2 : Aside0 (wr.ownsRow w.heap.size 25 1 (.slice (some ⟨g, 0, none⟩) nn cap) nn ys) := ⟨by
        have := own_take (m := nn) HO.out (by omega)
        rw [Nat.mul_one, List.take_append_of_le_length (by omega), List.take_of_length_le (by omega)] at this
        exact this⟩
      obtain ⟨cs, hgc⟩ : ∃ cs, wr.heap[g]? = some (.cells cs 25 (0, 0)) := own_typed HO.out g rfl
      have HGN : Aside0 (some g ≠ (u3 : Value).ownBlock) := ⟨own_ne HU.out hgc (by decide)⟩
      have HGC := Aside0.mk hgc
      have t1 : decide ((0 : Int) < (nn : Int) + 1) = true := decide_eq_true (by omega)
      have he := HE.out
      rw [List.reverse_append, List.reverse_singleton, List.singleton_append, List.flatMap_cons] at he
      have HE2 := Aside0.mk he
      have HS := Aside0.mk hsum
      obtain ⟨k2, rfl⟩ : ∃ k2, gk = k2 + 1 := ⟨gk - 1, by omega⟩
      clear hl hlen hys hql hsum hgc he HE HN HO HI hnn
      cases x with
      | nil =>
        obtain rfl : vx = .pointer none := hvx
        go_wp2_with (at_builtin; refine print_append w.heap.size rfl (.tmp 24) (.tmp 25) 74 5 (.int .u8 0) 1 rfl Try.underlying74 infoU8y rfl (by omega) _ (nums .u8 os) (.int .u8 48) rfl rfl rfl (by rw [show (nums .u8 os).length = os.length from List.length_map ..]; exact HU.out) HB.out HB.out.size ?c1 ?_)
        case c1 => rw [show (nums .u8 os).length = os.length from List.length_map ..]; have := HS.out; omega
        intro v1 w1 ho hb hgr _
        have HO3 := Aside0.mk ho
        have HB1 := Aside0.mk hb
        have HK := Aside0.mk (NK.grown hgr HU.out (by decide))
        have HO4 := Aside0.mk (own_other HO2.out hgr (.inr HGN.out))
        clear ho hb hgr
        go_wp2
        go_roundg k2
        case measure => omega
        case rel =>
          refine ⟨qs, ys, os ++ [48], ⟨?_⟩, ⟨?_⟩, ⟨Nds.keep HK.out _ _ HY.out⟩, ⟨by rw [← HNN.out]; exact HO4.out⟩, ⟨?_⟩, HB1⟩
          · have := HS.out; simp only [Tr.size] at this; rw [List.length_append, List.length_singleton]; omega
          · have := HE2.out; rw [List.append_assoc]; exact this
          · have := HO3.out
            rw [show (nums .u8 os).length = os.length from List.length_map ..] at this
            rw [List.length_append, nums_append]
            exact this
      | cons a b =>
        obtain ⟨gx, va, vb, rfl, hgx, ha, hb⟩ := hvx
        obtain ⟨pa, rfl⟩ := Nd.ptr ha
        obtain ⟨pb, rfl⟩ := Nd.ptr hb
        have HA := Aside0.mk ha
        have HBB := Aside0.mk hb
        have HGX := Aside0.mk hgx
        clear ha hb hgx
        go_wp2_with (at_builtin; refine print_append w.heap.size rfl (.tmp 27) (.tmp 28) 74 5 (.int .u8 0) 1 rfl Try.underlying74 infoU8y rfl (by omega) _ (nums .u8 os) (.int .u8 49) rfl rfl rfl (by rw [show (nums .u8 os).length = os.length from List.length_map ..]; exact HU.out) HB.out HB.out.size ?c1 ?_)
        case c1 => rw [show (nums .u8 os).length = os.length from List.length_map ..]; have := HS.out; omega
        intro v1 w2 ho hb hgr _
        have HO3 := Aside0.mk ho
        have HB3 := Aside0.mk hb
        have HK := Aside0.mk (NK.grown hgr HU.out (by decide))
        have HO4 := Aside0.mk (own_other HO2.out hgr (.inr HGN.out))
        have x0 := (blk_cell (HK.out _ _ HGX.out) 0).trans rfl
        have x1 := (blk_cell (HK.out _ _ HGX.out) 1).trans rfl
        have HGN2 : Aside0 (some g ≠ v1.ownBlock) := ⟨by
          obtain ⟨cs, hc⟩ := own_typed HO4.out g rfl
          exact own_ne ho hc (by decide)⟩
        clear ho hb hgr ca
        go_wp2
        obtain ⟨i0, hi, hz0, hz1, hz2⟩ := info_parts infoNp
        have HM1 := Aside0.mk (show nn + 2 ≤ maxLen by unfold maxLen; omega)
        have HM2 := Aside0.mk (show (nn + 2) * 8 ≤ 140737488355328 by omega)
        go_region_held3 (fun w' => w'.cell? ⟨gx, 0, none⟩ = some (.pointer pa) ∧ w'.cell? ⟨gx, 1, none⟩ = some (.pointer pb))
          (first
            | go_keep
            | (have HK3 := Aside0.mk (NK.trans HK.out (NK.trans (NK.alloc w2 (.cells #[.pointer pb, .pointer pa] 25)) (NK.trans (NK.drew _) (NK.grown hgrow1 ((HO4.out.alloc _).drew) (by decide))))); exact ⟨(blk_cell (HK3.out _ _ HGX.out) 0).trans rfl, (blk_cell (HK3.out _ _ HGX.out) 1).trans rfl⟩))
          (first
            | ((refine step_append_lies _ (by rfl) _ _ _ (by rfl) w.heap.size 25 i0 _ 1 8 Try.underlying50 hi hz0 hz1 hz2 rfl (by omega) _ nn ys (by rfl) ((HO4.out.alloc _).drew)
                    ⟨w2.heap.size, 0, none⟩ 2 2 [.pointer pb, .pointer pa] (by rfl) (by rfl) (World.news_of_block (cs := #[.pointer pb, .pointer pa]) (t := 25) (fr := (0, 0)) (heap_alloc_new w2 _)) (by simp [Value.oneCell'])
                    (by omega) HM1.out HM2.out (by have := HB3.out.size; simp; omega) (w2.heap.size + 1) (by simp) ?_; intro gg cap3 w3 hown1 hgrow1 hat1 hlt1)))
        have HO5 := Aside0.mk hown1
        have HB4 : Aside0 (Below w.heap.size w w3) := ⟨((HB3.out.alloc HB3.out.size _).drew).grown hgrow1 (by have := HB3.out.size; simp; omega) (own_base HO4.out)⟩
        have HK3 := Aside0.mk (NK.trans HK.out (NK.trans (NK.alloc w2 (.cells #[.pointer pb, .pointer pa] 25)) (NK.trans (NK.drew _) (NK.grown hgrow1 ((HO4.out.alloc _).drew) (by decide)))))
        have HU3 : Aside0 (w3.ownsRow w.heap.size 5 1 v1 (os ++ [49]).length (nums .u8 (os ++ [49]))) := ⟨by
          have h1 := HO3.out
          rw [show (nums .u8 os).length = os.length from List.length_map ..] at h1
          rw [List.length_append, nums_append]
          exact own_other ((h1.alloc _).drew) hgrow1 (.inr (fun e => HGN2.out e.symm))⟩
        clear hown1 hgrow1 hat1 hlt1
        go_wp2
        go_roundg k2
        case measure => omega
        case rel =>
          refine ⟨qs ++ [b] ++ [a], ys ++ [.pointer pb, .pointer pa], os ++ [49], ⟨?_⟩, ⟨?_⟩, ⟨?_⟩, ⟨?_⟩, HU3, HB4⟩
          · have := HS.out; simp only [Tr.size] at this; rw [List.length_append, List.length_singleton, sumT_snoc, sumT_snoc]; omega
          · have := HE2.out
            simp only [encI, List.reverse_append, List.reverse_singleton, List.singleton_append, List.flatMap_cons, List.append_assoc, List.cons_append, List.nil_append] at this ⊢
            exact this
          · rw [List.append_assoc]
            exact Nds.append (us := [b, a]) ⟨_, _, rfl, Nd.keep HK3.out _ _ HBB.out, _, _, rfl, Nd.keep HK3.out _ _ HA.out, rfl⟩ (Nds.keep HK3.out _ _ HY.out)
          · have e : (ys ++ [Value.pointer pb, .pointer pa]).length = nn + 2 := by simp [HNN.out]
            rw [e]
            exact HO5.out
end Go.Proofs.Ytpnmmpfidiegcaa.C
end
section
namespace Go.Proofs.Ytpnmmpfidiegcaa.Plain
open Go.Proofs.Ytpnmmpfidiegcaa.C
set_option linter.unusedVariables false
def numT : Nat → Tr
  | 0 => .nil
  | n + 1 => .cons .nil (numT n)
def lstT : List Tr → Tr
  | [] => .nil
  | t :: l => .cons t (lstT l)
def bodyT (x : Ins) : Tr :=
  if x.f0 = 0 then .cons (numT x.f1.toNat) (dec (bl x.f4))
  else if x.f0 = 2 then .cons (numT x.f1.toNat) (.cons (numT x.f2.toNat) (numT x.f3.toNat))
  else if x.f0 = 5 then (if x.f2 < 0 then .cons (numT x.f1.toNat) (.cons (.cons .nil .nil) (numT (-x.f2).toNat)) else .cons (numT x.f1.toNat) (.cons .nil (numT x.f2.toNat)))
  else .cons (numT x.f1.toNat) (numT x.f2.toNat)
def itemT (x : Ins) : Tr := .cons (numT x.f0.toNat) (bodyT x)
def codeT (p : List Ins) : Tr := lstT (p.map itemT)
theorem codeT_cons (x : Ins) (p : List Ins) : codeT (x :: p) = .cons (itemT x) (codeT p) := rfl
abbrev Rg := Nat → Tr
def upd (r : Rg) (a : Nat) (v : Tr) : Rg := fun i => if i = a then v else r i
def init (x : Tr) : Rg := fun i => if i = 0 then x else .nil
def exec (x : Ins) (r : Rg) : Option (Int × Rg) :=
  if x.f0 = 0 then some (1, upd r x.f1.toNat (dec (bl x.f4)))
  else if x.f0 = 1 then some (1, upd r x.f1.toNat (r x.f2.toNat))
  else if x.f0 = 2 then (if 2000000 < 1 + (r x.f2.toNat).size + (r x.f3.toNat).size then none else some (1, upd r x.f1.toNat (.cons (r x.f2.toNat) (r x.f3.toNat))))
  else if x.f0 = 3 then some (1, upd r x.f1.toNat (r x.f2.toNat).hd)
  else if x.f0 = 4 then some (1, upd r x.f1.toNat (r x.f2.toNat).tl)
  else some (if (r x.f1.toNat).isNil = true then 1 else x.f2, r)
def after (p : List Ins) : Nat → Int → Rg → Int × Rg × Nat × Bool
  | 0, at_, r => (at_, r, 0, true)
  | k + 1, at_, r => if at_ = (p.length : Int) then (at_, r, 0, true) else match exec (p.getD at_.toNat ⟨0, 0, 0, 0, ⟨#[]⟩⟩) r with
    | none => (at_, r, 0, false)
    | some q => let s := after p k (at_ + q.1) q.2; (s.1, s.2.1, s.2.2.1 + 1, s.2.2.2)
def runM (p : List Ins) (x : Tr) (fuel : Nat) : Tr × Nat × Int :=
  let s := after p fuel 0 (init x)
  if s.2.2.2 = true then (if s.1 = (p.length : Int) then (s.2.1 0, s.2.2.1, 0) else (.nil, 0, 7)) else (.nil, 0, 3)
def Goes (p : List Ins) (m : Nat) (a : Int) (r : Rg) (a' : Int) (r' : Rg) : Prop :=
  ∀ k, after p (m + k) a r = ((after p k a' r').1, (after p k a' r').2.1, (after p k a' r').2.2.1 + m, (after p k a' r').2.2.2)
theorem Goes.refl (p : List Ins) (a : Int) (r : Rg) : Goes p 0 a r a r := fun k => by rw [Nat.zero_add]; rfl
theorem Goes.trans {p : List Ins} {m n : Nat} {a b c : Int} {r s t : Rg} (h : Goes p m a r b s) (k : Goes p n b s c t) : Goes p (m + n) a r c t := fun j => by
  rw [Nat.add_assoc, h, k]
  simp only [Nat.add_assoc, Nat.add_comm n m]
theorem Goes.step {p : List Ins} {a : Int} {r : Rg} {d : Int} {s : Rg} (hlt : a ≠ (p.length : Int)) (h : exec (p.getD a.toNat ⟨0, 0, 0, 0, ⟨#[]⟩⟩) r = some (d, s)) : Goes p 1 a r (a + d) s := fun k => by
  rw [Nat.add_comm 1 k, after, if_neg hlt, h]
theorem Goes.then_ {p : List Ins} {m : Nat} {a b : Int} {r s t : Rg} {d : Int} (h : Goes p m a r b s) (hlt : b ≠ (p.length : Int)) (he : exec (p.getD b.toNat ⟨0, 0, 0, 0, ⟨#[]⟩⟩) s = some (d, t)) : Goes p (m + 1) a r (b + d) t := h.trans (Goes.step hlt he)
end Go.Proofs.Ytpnmmpfidiegcaa.Plain
end
section
namespace Go.Proofs.Ytpnmmpfidiegcaa.C
open Go.RowKit Go.Proofs.YtpnmmpfidiegcaaW.PrintWords Go.Proofs.YtpnmmpfidiegcaaW.PrintLast Go.Proofs.YtpnmmpfidiegcaaW.PrintMore
open Go.Proofs.Ytpnmmpfidiegcaa.Plain (Tr bs bl bl_bs numT lstT bodyT itemT codeT OKP Right Reg dec IsT ValidT codeT_cons)
set_option linter.unusedVariables false
set_option linter.unusedSimpArgs false
set_option maxHeartbeats 2000000 in
set_option maxRecDepth 100000 in
theorem equal_yes (x : Tr) (va vb : Value) (w : World) (ha : Nd w x va) (hb : Nd w x vb) (hz : x.size ≤ 100000000) :
    Calls Try.prog 12 #[va, vb] w fun e w' => e = .returned (.bool true) ∧ Below w.heap.size w w' := by
  have ht := fun (v : Value) (w : World) (h : Nd w x v) => text_calls x v w h hz
  generalize bs x.enc = S at ht
  have HTX := Aside0.mk ht
  have HA := Aside0.mk ha
  have HB := Aside0.mk hb
  have HBW := Aside0.mk (Below.refl w.heap.size w)
  clear ht ha hb hz
  go_enter Try.func12, Try.ntmps12
  go_wp2_with (first
    | (go_at_call 39; first | ((with_reducible refine (Size_calls x va _ HA.out).mono ?_); rintro e w1 ⟨rfl, rfl⟩) | ((with_reducible refine (Size_calls x vb _ HB.out).mono ?_); rintro e w1 ⟨rfl, rfl⟩))
    | (go_at_call 43; first | ((with_reducible refine (HTX.out va _ HA.out).mono ?_); rintro e w2 ⟨rfl, hb2⟩; have HB := Aside0.mk (Nd.keep (NK.below hb2) _ _ HB.out); have HA := Aside0.mk (Nd.keep (NK.below hb2) _ _ HA.out); have HBW := Aside0.mk (below_then HBW.out HBW.out.size hb2); clear hb2) | ((with_reducible refine (HTX.out vb _ HB.out).mono ?_); rintro e w2 ⟨rfl, hb2⟩; have HBW := Aside0.mk (below_then HBW.out HBW.out.size hb2); clear hb2)))
  go_ret
  exact ⟨rfl, HBW.out⟩
set_option maxHeartbeats 2000000 in
set_option maxRecDepth 100000 in
theorem equal_no (x y : Tr) (va vb : Value) (w : World) (ha : Nd w x va) (hb : Nd w y vb) (hne : x ≠ y) (hz : x.size ≤ 100000000) (hz2 : y.size ≤ 100000000) :
    Calls Try.prog 12 #[va, vb] w fun e w' => e = .returned (.bool false) ∧ Below w.heap.size w w' := by
  by_cases hs : x.size = y.size
  · have hx := fun (v : Value) (w : World) (h : Nd w x v) => text_calls x v w h hz
    have hy := fun (v : Value) (w : World) (h : Nd w y v) => text_calls y v w h hz2
    have hne2 : bs x.enc ≠ bs y.enc := fun e => hne (Tr.enc_inj (by rw [← bl_bs x.enc, e, bl_bs]))
    have t1 : ((x.size : Int) == (y.size : Int)) = true := beq_iff_eq.2 (by omega)
    generalize bs x.enc = S at hx hne2
    generalize bs y.enc = T at hy hne2
    have t2 : (S.toList == T.toList) = false := by
      refine beq_eq_false_iff_ne.2 fun e => hne2 ?_
      rw [Plain.toL, Plain.toL] at e
      rw [← Plain.bs_bl S, ← Plain.bs_bl T, e]
    have HTX := Aside0.mk hx
    have HTY := Aside0.mk hy
    have HA := Aside0.mk ha
    have HB := Aside0.mk hb
    have HBW := Aside0.mk (Below.refl w.heap.size w)
    clear hx hy ha hb hz hz2 hne hne2 hs
    go_enter Try.func12, Try.ntmps12
    go_wp2_with (first
      | (go_at_call 39; first | ((with_reducible refine (Size_calls x va _ HA.out).mono ?_); rintro e w1 ⟨rfl, rfl⟩) | ((with_reducible refine (Size_calls y vb _ HB.out).mono ?_); rintro e w1 ⟨rfl, rfl⟩))
      | (go_at_call 43; first | ((with_reducible refine (HTX.out va _ HA.out).mono ?_); rintro e w2 ⟨rfl, hb2⟩; have HB := Aside0.mk (Nd.keep (NK.below hb2) _ _ HB.out); have HA := Aside0.mk (Nd.keep (NK.below hb2) _ _ HA.out); have HBW := Aside0.mk (below_then HBW.out HBW.out.size hb2); clear hb2) | ((with_reducible refine (HTY.out vb _ HB.out).mono ?_); rintro e w2 ⟨rfl, hb2⟩; have HBW := Aside0.mk (below_then HBW.out HBW.out.size hb2); clear hb2)))
    go_ret
    exact ⟨rfl, HBW.out⟩
  · have t1 : ((x.size : Int) == (y.size : Int)) = false := beq_eq_false_iff_ne.2 (by omega)
    have HA := Aside0.mk ha
    have HB := Aside0.mk hb
    clear ha hb hz hz2 hne hs
    go_enter Try.func12, Try.ntmps12
    go_wp2_with (go_at_call 39; first | ((with_reducible refine (Size_calls x va _ HA.out).mono ?_); rintro e w1 ⟨rfl, rfl⟩) | ((with_reducible refine (Size_calls y vb _ HB.out).mono ?_); rintro e w1 ⟨rfl, rfl⟩))
    go_ret
    exact ⟨rfl, Below.refl _ _⟩
theorem numT_size' : ∀ n, (numT n).size = 2 * n + 1
  | 0 => rfl
  | n + 1 => by
    show 1 + 1 + (numT n).size = _
    rw [numT_size' n]; omega
set_option maxHeartbeats 2000000 in
set_option maxRecDepth 100000 in
theorem number_calls (n : Int) (w : World) (hn : n ≤ 1000000) :
    Calls Try.prog 42 #[.int .i64 n] w fun e w' => ∃ v, e = .returned v ∧ Nd w' (numT n.toNat) v ∧ Below w.heap.size w w' := by
  go_enter Try.func42, Try.ntmps42
  go_wp2
  go_loopg [3, 4] (n.toNat + 1) (fun kq v3 v4 wr => ∃ i : Nat, v4 = .int .i64 i ∧ Aside0 (i ≤ n.toNat ∧ kq = n.toNat - i + 1) ∧ Aside0 (Nd wr (numT i) v3) ∧ Aside0 (Below w.heap.size w wr))
  case atStart => exact ⟨0, rfl, ⟨Nat.zero_le _, by omega⟩, ⟨rfl⟩, ⟨Below.refl _ _⟩⟩
  case round =>
    obtain ⟨i, rfl, HI, HN, HB⟩ := hrel
    by_cases h : (i : Int) < n
    · obtain ⟨k2, rfl⟩ : ∃ k2, gk = k2 + 1 := ⟨gk - 1, by have := HI.out; omega⟩
      have HS : Aside0 ((numT i).size ≤ 1000000000000) := ⟨by rw [numT_size']; omega⟩
      go_wp2_with (go_at_call 10; refine (Cons_calls .nil (numT i) (.pointer none) u3 _ rfl HN.out (by decide) HS.out).mono ?_; rintro e w1 ⟨v, rfl, hv, hb⟩; have HV := Aside0.mk hv; have HB1 := Aside0.mk (below_then HB.out HB.out.size hb); clear hv hb)
      go_roundg k2
      case measure => omega
      case rel => exact ⟨i + 1, by go_num, ⟨by omega, by have := HI.out; omega⟩, HV, HB1⟩
    · obtain rfl : i = n.toNat := by have := HI.out; omega
      go_wp2
      go_ret
      exact ⟨_, rfl, HN.out, HB.out⟩
end Go.Proofs.Ytpnmmpfidiegcaa.C
end
