/- Texts of this claim, together: what the functions return, and what they say in plain words. -/
import Derived.Test.YtocoamgbpoommaaGreatDoorUB
import Derived.Deep.RegionHeld3
import Derived.Deep.AppendLies
import Derived.LaidEqlPtr
import Derived.BigQuiet
import Derived.Deep.QuietTactic
import Derived.Shelf.Strings.Builder1
import Derived.Shelf.Strings.Builder2
import Derived.Shelf.Strings.BuilderF
import Derived.Shelf.Strings.BuilderK
import Derived.Shelf.Utf8.RuneCount
import Derived.Shelf.Strings.Builder2Cap
import Derived.Shelf.Strconv.Atoi
import Derived.Shelf.Strconv.Itoa0
import Derived.Shelf.Strconv.Itoa1
import Derived.Shelf.LaysM
import Derived.Shelf.Strconv.Itoa2
import Derived.Shelf.Strconv.Itoa3
import Derived.Shelf.Strconv.AtoiErrFast
import Derived.Shelf.Strconv.ParseIntEmpty
import Derived.Shelf.Strconv.AtoiFail
import Derived.Shelf.Strconv.Clone
import Derived.Shelf.Strconv.SyntaxError
import Derived.Shelf.LaysC
import Derived.Shelf.Strconv.ToError
import Derived.Shelf.Strconv.Lower
import Derived.Shelf.Strconv.ParseUint10
import Derived.Shelf.Strconv.ParseUint10Empty
import Derived.Shelf.Strconv.ParseUint10Any
import Derived.Shelf.Strconv.ParseInt10
import Derived.Shelf.Strconv.AtoiLong
import Derived.Shelf.Strconv.AtoiInnerAll
import Derived.Shelf.Strconv.RangeError
import Derived.Shelf.Strconv.ToErrorRange
import Derived.Shelf.Strconv.AtoiAll
import Derived.Shelf.Strconv.ErrVarAll
import Derived.Shelf.Strings.Search1
import Derived.Shelf.Strings.Search2
import Derived.Shelf.Strings.Search3
import Derived.Shelf.Strings.Count
import Derived.Shelf.Strings.Shaped
import Derived.Shelf.Strings.Prefix
import Derived.Shelf.Strings.Split
import Derived.Shelf.Strings.SplitShaped
import Derived.Shelf.Bits.Mul64
import Derived.Shelf.Strings.Repeat
import Derived.Shelf.Unicode.DecodeSlow
import Derived.Shelf.Strings.BuilderCap
import Derived.Test.YtocoamgbpoommaaGreatDoorProg
import Derived.Lib.LaidTab
import Derived.Lib.Split
import Derived.Lib.SplitLaws
import Derived.Lib.OthersKept
import Derived.Lib.FrozenHead2
import Derived.Lib.Repeat
section
namespace Go.Proofs.YtocoamgbpoommaaGreatDoor.C
open Go.RowKit Go.Proofs.YtocoamgbpoommaaGreatDoorW.PrintWords Go.Proofs.YtocoamgbpoommaaGreatDoorW.PrintLast Go.Proofs.YtocoamgbpoommaaGreatDoorW.PrintMore
open Go.Proofs.YtocoamgbpoommaaGreatDoor.Plain (Tr)
set_option linter.unusedVariables false
set_option linter.unusedSimpArgs false
def two : List (Tr × Tr) → List Tr
  | [] => []
  | p :: l => p.1 :: p.2 :: two l
theorem two_snoc (p : Tr × Tr) : ∀ l, two (l ++ [p]) = two l ++ [p.1, p.2]
  | [] => rfl
  | q :: l => by rw [List.cons_append, two, two_snoc p l, two]; rfl
theorem two_length : ∀ l, (two l).length = 2 * l.length
  | [] => rfl
  | q :: l => by rw [two, List.length_cons, List.length_cons, two_length l, List.length_cons]; omega
def both (l : List (Tr × Tr)) : Nat := (l.map fun p => p.1.size + p.2.size).sum
theorem both_snoc (p : Tr × Tr) (l : List (Tr × Tr)) : both (l ++ [p]) = both l + (p.1.size + p.2.size) := by simp [both]
theorem both_length : ∀ l, l.length ≤ both l
  | [] => Nat.le_refl _
  | q :: l => by have := both_length l; have := Tr.size_pos q.1; simp only [both, List.map_cons, List.sum_cons, List.length_cons] at *; omega
def Alike (l : List (Tr × Tr)) : Prop := ∀ p ∈ l, p.1 = p.2
theorem Alike.snoc {p : Tr × Tr} {l : List (Tr × Tr)} : Alike (l ++ [p]) ↔ Alike l ∧ p.1 = p.2 := by
  unfold Alike
  simp only [List.mem_append, List.mem_singleton]
  exact ⟨fun h => ⟨fun q hq => h q (.inl hq), h p (.inr rfl)⟩, fun h q hq => hq.elim (h.1 q) (fun e => e ▸ h.2)⟩
theorem eql_node (w : World) {x y : Tr} {px py : Option Addr} (hx : Nd w x (.pointer px)) (hy : Nd w y (.pointer py)) : (binOp .eql 38 (.pointer px) (.pointer py)).run Tryz.prog w = .ok (.bool (decide (px = py))) w := by
  have hp := Tryz.underlying38
  obtain ⟨j, hj, hz⟩ : ∃ j, Tryz.prog.info? 44 = some j ∧ j.size ≠ 0 := by
    have h : ((Tryz.prog.info? 44).map fun j => j.size != 0) = some true := by kernel_rfl
    obtain ⟨j, h1, h2⟩ := Option.map_eq_some_iff.1 h
    exact ⟨j, h1, by simpa using h2⟩
  cases x with
  | nil =>
    obtain rfl : px = none := Value.pointer.inj hx
    cases y with
    | nil =>
      obtain rfl : py = none := Value.pointer.inj hy
      have h : ∀ d : Nat, (Op.equalIn (d + 1) 38 (.pointer none) (.pointer none)).run Tryz.prog w = .ok true w := fun d => by
        simp [Op.equalIn, run_underlying hp]
      simp only [binOp]
      simp [Op.equal, Op.maxDepth, h 9999]
    | cons a b =>
      obtain ⟨g, va, vb, e, hg, _⟩ := hy
      obtain rfl := Value.pointer.inj e
      have h : ∀ d : Nat, (Op.equalIn (d + 1) 38 (.pointer none) (.pointer (some ⟨g, 0, none⟩))).run Tryz.prog w = .ok false w := fun d => by
        simp [Op.equalIn, run_underlying hp]
      simp only [binOp]
      simp [Op.equal, Op.maxDepth, h 9999]
  | cons a b =>
    obtain ⟨g, va, vb, e, hg, _⟩ := hx
    obtain rfl := Value.pointer.inj e
    cases y with
    | nil =>
      obtain rfl : py = none := Value.pointer.inj hy
      have h : ∀ d : Nat, (Op.equalIn (d + 1) 38 (.pointer (some ⟨g, 0, none⟩)) (.pointer none)).run Tryz.prog w = .ok false w := fun d => by
        simp [Op.equalIn, run_underlying hp]
      simp only [binOp]
      simp [Op.equal, Op.maxDepth, h 9999]
    | cons c d =>
      obtain ⟨g', vc, vd, e, hg', _⟩ := hy
      obtain rfl := Value.pointer.inj e
      by_cases h : g = g'
      · subst h
        rw [run_eql_ptr_same w _ hp hj, decide_eq_true rfl]
      · rw [run_eql_ptr_other w hp hj hz (fun e => h (congrArg Addr.block e)) hg hg', decide_eq_false (fun e => h (congrArg Addr.block (Option.some.inj e)))]
def Told (p : Prop) (e : Ending) : Prop := ∃ v : Bool, e = .returned (.bool v) ∧ (v = true ↔ p)
set_option maxHeartbeats 4000000 in
set_option maxRecDepth 100000 in
theorem Equal_calls (a b : Tr) (va vb : Value) (w : World) (ha : Nd w a va) (hb : Nd w b vb) (za : a.size ≤ 1000000000000) (zb : b.size ≤ 1000000000000) :
    Calls Tryz.prog 30 #[va, vb] w fun e w' => Told (a = b) e ∧ Below w.heap.size w w' := by
  obtain ⟨pa, rfl⟩ := Nd.ptr ha
  obtain ⟨pb, rfl⟩ := Nd.ptr hb
  have HA := Aside0.mk ha
  have HBB := Aside0.mk hb
  clear ha hb
  go_enter Tryz.func30, Tryz.ntmps30
  go_wp2
  go_loopg [5] (a.size + b.size + 1) (fun kq v5 wr => ∃ (ps : List (Tr × Tr)) (xs : List Value), Aside0 (both ps < kq ∧ both ps ≤ a.size + b.size) ∧ Aside0 (Alike ps ↔ a = b) ∧ Aside0 (Nds wr (two ps) xs) ∧ Aside0 (wr.ownsRow w.heap.size 38 1 v5 xs.length xs) ∧ Aside0 (Below w.heap.size w wr))
  case atStart =>
    refine ⟨[(a, b)], [.pointer pa, .pointer pb], ⟨by simp [both], by simp [both]⟩, ⟨by simp [Alike]⟩, ⟨⟨_, _, rfl, Nd.keep (NK.alloc _ _) _ _ HA.out, ⟨_, _, rfl, Nd.keep (NK.alloc _ _) _ _ HBB.out, rfl⟩⟩⟩, ⟨?_⟩, ⟨(Below.refl _ _).alloc (Nat.le_refl _) _⟩⟩
    exact World.ownsRow_lit (base := w.heap.size) (e := 38) (size := 1) w #[.pointer pa, .pointer pb] 2 (Nat.le_refl _) (by unfold maxLen; omega) rfl
  case round =>
    obtain ⟨ps, xs, HI, HAL, HN, HO, HB⟩ := hrel
    clear HA HBB
    obtain ⟨k2, rfl⟩ : ∃ k2, gk = k2 + 1 := ⟨gk - 1, by have := HI.out; omega⟩
    rcases List.eq_nil_or_concat ps with rfl | ⟨qs, ⟨y, x⟩, rfl⟩
    · obtain rfl : xs = [] := HN.out
      obtain ⟨A, c, rfl⟩ := own_slice HO.out
      have HT : Aside0 (a = b) := ⟨HAL.out.1 (fun _ h => by cases h)⟩
      clear HAL HN HO HI
      go_wp2
      go_ret
      exact ⟨⟨true, rfl, fun _ => HT.out, fun _ => rfl⟩, HB.out⟩
    · rw [List.concat_eq_append] at HI HAL HN
      have hn := HN.out
      rw [two_snoc] at hn
      obtain ⟨ys, vx, vy, rfl, hys, hvx, hvy⟩ := Nds.last2 (a := x) (b := y) (st := (two qs).reverse) hn (by simp)
      rw [List.reverse_reverse] at hys
      obtain ⟨px, rfl⟩ := Nd.ptr hvx
      obtain ⟨py, rfl⟩ := Nd.ptr hvy
      have HY := Aside0.mk hys
      have HX := Aside0.mk hvx
      have HYY := Aside0.mk hvy
      obtain ⟨nn, hnn⟩ : ∃ nn, nn = ys.length := ⟨_, rfl⟩
      have hlen : (ys ++ [Value.pointer py, Value.pointer px]).length = nn + 2 := by simp [hnn]
      rw [hlen] at HO
      obtain ⟨g, cap, rfl, hgb, hgl⟩ := HO.out.form (by omega)
      have ca := HO.out.cells (g := g) rfl (nn + 1) (.pointer px) (by simp [hnn])
      have cb := HO.out.cells (g := g) rfl nn (.pointer py) (by simp [hnn])
      rw [add_plain] at ca cb
      have hcap : nn + 2 ≤ cap := own_le HO.out
      have hcap1 : (nn : Int) ≤ (cap : Int) := by omega
      have hnl : nn ≤ 4000000000000 := by
        have h1 := HI.out
        have h2 := both_length qs
        have h3 := two_length qs
        have h4 := Nds.length hys
        rw [both_snoc] at h1
        omega
      have HNN := Aside0.mk hnn
      clear hnn hlen hys hvx hvy hn HN
      have HO2 : Aside0 (wr.ownsRow w.heap.size 38 1 (.slice (some ⟨g, 0, none⟩) nn cap) nn ys) := ⟨by
        have := own_take (m := nn) HO.out (by omega)
        rw [Nat.mul_one, List.take_append_of_le_length (by have := HNN.out; omega), List.take_of_length_le (by have := HNN.out; omega)] at this
        exact this⟩
      clear HO
      have e1 : IntKind.i64.wrap ((nn : Int) + 2 - 1) = (nn : Int) + 1 := by rw [i64_w]; unfold wrap64; omega
      have e2 : IntKind.i64.wrap (nn : Int) = (nn : Int) := by rw [i64_w]; unfold wrap64; omega
      have e3 : 0 ≤ (nn : Int) + 1 := by omega
      have e4 : (nn : Int) + 1 < (nn : Int) + 2 := by omega
      have e5 : ((nn : Int) + 1).toNat = nn + 1 := by omega
      have e6 : (nn : Int) < (nn : Int) + 2 := by omega
      go_wp2
      go_quiet (fail)
      clear e1 e2 e3 e4 e5 e6 ca cb
      have hb2 : ∀ n, Below wr.heap.size wr (wr.drewN n) := fun n => pw_below_drewN (Below.refl _ _) n
      generalize hw2 : wr.drewN _ = w2
      have HB2 : Aside0 (Below wr.heap.size wr w2) := ⟨hw2 ▸ hb2 _⟩
      clear hb2 hw2
      have HX2 := Aside0.mk (Nd.keep (NK.below HB2.out) _ _ HX.out)
      have HY2 := Aside0.mk (Nd.keep (NK.below HB2.out) _ _ HYY.out)
      have HYS := Aside0.mk (Nds.keep (NK.below HB2.out) _ _ HY.out)
      have HO3 := Aside0.mk (pw_own_below HO2.out HB2.out)
      have HB3 := Aside0.mk (below_then HB.out HB.out.size HB2.out)
      clear HX HYY HY HO2 HB
      have heq := eql_node w2 HX2.out HY2.out
      by_cases hp : px = py
      · subst hp
        rw [decide_eq_true rfl] at heq
        have HE : Aside0 (x = y) := ⟨Nd.same HX2.out HY2.out⟩
        go_wp2
        go_roundg k2
        case measure => omega
        case rel =>
          refine ⟨qs, ys, ⟨?_⟩, ⟨?_⟩, HYS, ⟨?_⟩, HB3⟩
          · have h1 := HI.out
            rw [both_snoc] at h1
            have := Tr.size_pos x
            exact ⟨by dsimp only at h1; omega, by omega⟩
          · have h1 := HAL.out
            rw [Alike.snoc] at h1
            exact ⟨fun h => h1.1 ⟨h, HE.out.symm⟩, fun h => (h1.2 h).1⟩
          · rw [← HNN.out]; exact HO3.out
      · rw [decide_eq_false hp] at heq
        by_cases hz : x.size = y.size
        · have hz1 := Tr.size_pos x
          obtain ⟨a1, b1, rfl⟩ : ∃ a b, x = .cons a b := by
            cases x with
            | cons a b => exact ⟨a, b, rfl⟩
            | nil => cases y with
              | nil => exact absurd ((Value.pointer.inj HX2.out).trans (Value.pointer.inj HY2.out).symm) hp
              | cons c d => have := Tr.size_pos c; have := Tr.size_pos d; simp [Tr.size] at hz; omega
          obtain ⟨c1, d1, rfl⟩ : ∃ a b, y = .cons a b := by
            cases y with
            | cons a b => exact ⟨a, b, rfl⟩
            | nil => have := Tr.size_pos a1; have := Tr.size_pos b1; simp [Tr.size] at hz; omega
          obtain ⟨g1, va1, vb1, e1, hg1, ha1, hb1⟩ := HX2.out
          obtain rfl := Value.pointer.inj e1
          obtain ⟨g2, vc1, vd1, e2, hg2, hc1, hd1⟩ := HY2.out
          obtain rfl := Value.pointer.inj e2
          obtain ⟨pa1, rfl⟩ := Nd.ptr ha1
          obtain ⟨pb1, rfl⟩ := Nd.ptr hb1
          obtain ⟨pc1, rfl⟩ := Nd.ptr hc1
          obtain ⟨pd1, rfl⟩ := Nd.ptr hd1
          have x0 := (blk_cell hg1 0).trans rfl
          have x1 := (blk_cell hg1 1).trans rfl
          have y0 := (blk_cell hg2 0).trans rfl
          have y1 := (blk_cell hg2 1).trans rfl
          have HND : Aside0 (Nds w2 [a1, c1, b1, d1] [.pointer pa1, .pointer pc1, .pointer pb1, .pointer pd1]) := ⟨⟨_, _, rfl, ha1, _, _, rfl, hc1, _, _, rfl, hb1, _, _, rfl, hd1, rfl⟩⟩
          have HG1 := Aside0.mk hg1
          have HG2 := Aside0.mk hg2
          clear e1 e2 hg1 hg2 ha1 hb1 hc1 hd1
          have t1 : (((Tr.cons a1 b1).size : Int) != ((Tr.cons c1 d1).size : Int)) = false := by rw [bne_eq_false_iff_eq]; omega
          have HZ := Aside0.mk hz
          clear hz hz1
          go_wp2_with fail
          refine (Size_calls _ _ _ HX2.out).mono ?_
          rintro e w' ⟨rfl, rfl⟩
          go_wp2_with fail
          refine (Size_calls _ _ _ HY2.out).mono ?_
          rintro e w' ⟨rfl, rfl⟩
          go_wp2
          obtain ⟨i0, hi, hz0, hz1, hz2⟩ := info_parts infoNp
          have HM1 := Aside0.mk (show nn + 4 ≤ maxLen by unfold maxLen; omega)
          have HM2 := Aside0.mk (show (nn + 4) * 8 ≤ 140737488355328 by omega)
          go_region_held3 (fun w' => w'.cell? ⟨g1, 0, none⟩ = some (.pointer pa1) ∧ w'.cell? ⟨g1, 1, none⟩ = some (.pointer pb1) ∧ w'.cell? ⟨g2, 0, none⟩ = some (.pointer pc1) ∧ w'.cell? ⟨g2, 1, none⟩ = some (.pointer pd1))
            (first
              | go_keep
              | (have HK3 := Aside0.mk (NK.trans (NK.alloc w2 (.cells #[.pointer pa1, .pointer pc1, .pointer pb1, .pointer pd1] 38)) (NK.trans (NK.drew _) (NK.grown hgrow1 ((HO3.out.alloc _).drew) (by decide)))); exact ⟨(blk_cell (HK3.out _ _ HG1.out) 0).trans rfl, (blk_cell (HK3.out _ _ HG1.out) 1).trans rfl, (blk_cell (HK3.out _ _ HG2.out) 0).trans rfl, (blk_cell (HK3.out _ _ HG2.out) 1).trans rfl⟩))
            (first
              | ((refine step_append_lies _ (by rfl) _ _ _ (by rfl) w.heap.size 38 i0 _ 1 8 Tryz.underlying75 hi hz0 hz1 hz2 rfl (by omega) _ nn ys (by rfl) ((HO3.out.alloc _).drew)
                      ⟨w2.heap.size, 0, none⟩ 4 4 [.pointer pa1, .pointer pc1, .pointer pb1, .pointer pd1] (by rfl) (by rfl) (World.news_of_block (cs := #[.pointer pa1, .pointer pc1, .pointer pb1, .pointer pd1]) (t := 38) (fr := (0, 0)) (heap_alloc_new w2 _)) (by simp [Value.oneCell'])
                      (by omega) HM1.out HM2.out (by have := HB3.out.size; simp; omega) (w2.heap.size + 1) (by simp) ?_; intro gg cap3 w3 hown1 hgrow1 hat1 hlt1)))
          have HO4 := Aside0.mk hown1
          have HB4 : Aside0 (Below w.heap.size w w3) := ⟨((HB3.out.alloc HB3.out.size _).drew).grown hgrow1 (by have := HB3.out.size; simp; omega) (own_base HO3.out)⟩
          have HK3 := Aside0.mk (NK.trans (NK.alloc w2 (.cells #[.pointer pa1, .pointer pc1, .pointer pb1, .pointer pd1] 38)) (NK.trans (NK.drew _) (NK.grown hgrow1 ((HO3.out.alloc _).drew) (by decide))))
          clear hown1 hgrow1 hat1 hlt1
          go_wp2
          go_roundg k2
          case measure => omega
          case rel =>
            refine ⟨qs ++ [(a1, c1)] ++ [(b1, d1)], ys ++ [.pointer pa1, .pointer pc1, .pointer pb1, .pointer pd1], ⟨?_⟩, ⟨?_⟩, ⟨?_⟩, ⟨?_⟩, HB4⟩
            · have h1 := HI.out
              rw [both_snoc] at h1
              rw [both_snoc, both_snoc]
              simp only [Tr.size] at h1 ⊢
              omega
            · have h1 := HAL.out
              rw [Alike.snoc] at h1
              rw [Alike.snoc, Alike.snoc, ← h1, and_assoc]
              simp only [Tr.cons.injEq]
              exact and_congr_right fun _ => ⟨fun h => ⟨h.1.symm, h.2.symm⟩, fun h => ⟨h.1.symm, h.2.symm⟩⟩
            · rw [two_snoc, two_snoc, List.append_assoc]
              exact Nds.keep HK3.out _ _ (Nds.append HND.out HYS.out)
            · have e : (ys ++ [Value.pointer pa1, .pointer pc1, .pointer pb1, .pointer pd1]).length = nn + 4 := by simp [HNN.out]
              rw [e]
              exact HO4.out
        · have t1 : ((x.size : Int) != (y.size : Int)) = true := bne_iff_ne.2 (by omega)
          go_wp2_with fail
          refine (Size_calls x _ _ HX2.out).mono ?_
          rintro e w' ⟨rfl, rfl⟩
          go_wp2_with fail
          refine (Size_calls y _ _ HY2.out).mono ?_
          rintro e w' ⟨rfl, rfl⟩
          have HF : Aside0 (a ≠ b) := ⟨fun e => hz (congrArg Tr.size (Alike.snoc.1 (HAL.out.2 e)).2).symm⟩
          go_wp2
          go_ret
          exact ⟨⟨false, rfl, ⟨fun h => (by cases h), fun h => absurd h HF.out⟩⟩, HB3.out⟩
end Go.Proofs.YtocoamgbpoommaaGreatDoor.C
end
section
namespace Go.Proofs
open Go.Shelf
def Tryz.lays170_ren : Go.Shelf.Ren := ⟨fun | 170 => 80 | n => n, fun | 70 => 108 | 3 => 3 | 0 => 0 | 72 => 110 | 37 => 94 | 5 => 5 | n => n, fun | n => n⟩
theorem Tryz.lays170 : Go.Proofs.Lays.n170 Tryz.prog Tryz.lays170_ren := {
  mixed := by kernel_rfl
  f170 := Tryz.func80.trans (congrArg some (by kernel_rfl))
  t0 := Tryz.underlying0
  a0 := Tryz.isAgg0
  z0 := Tryz.sizeOf0
  v0 := Tryz.zeroValue0
  t3 := Tryz.underlying3
  a3 := Tryz.isAgg3
  z3 := Tryz.sizeOf3
  v3 := Tryz.zeroValue3
  t37 := Tryz.underlying94
  a37 := Tryz.isAgg94
  z37 := Tryz.sizeOf94
  v37 := Tryz.zeroValue94
  t70 := Tryz.underlying108
  a70 := Tryz.isAgg108
  z70 := Tryz.sizeOf108
  v70 := Tryz.zeroValue108
  t72 := Tryz.underlying110
  a72 := Tryz.isAgg110
  z72 := Tryz.sizeOf110
  v72 := Tryz.zeroValue110 }
def Tryz.lays169_ren : Go.Shelf.Ren := ⟨fun | 169 => 81 | n => n, fun | 70 => 108 | 9 => 9 | 0 => 0 | 72 => 110 | 37 => 94 | 127 => 140 | 3 => 3 | 5 => 5 | n => n, fun | n => n⟩
theorem Tryz.lays169 : Go.Proofs.Lays.n169 Tryz.prog Tryz.lays169_ren := {
  mixed := by kernel_rfl
  f169 := Tryz.func81.trans (congrArg some (by kernel_rfl))
  t0 := Tryz.underlying0
  a0 := Tryz.isAgg0
  z0 := Tryz.sizeOf0
  v0 := Tryz.zeroValue0
  t3 := Tryz.underlying3
  a3 := Tryz.isAgg3
  z3 := Tryz.sizeOf3
  v3 := Tryz.zeroValue3
  t9 := Tryz.underlying9
  a9 := Tryz.isAgg9
  z9 := Tryz.sizeOf9
  v9 := Tryz.zeroValue9
  t37 := Tryz.underlying94
  a37 := Tryz.isAgg94
  z37 := Tryz.sizeOf94
  v37 := Tryz.zeroValue94
  t70 := Tryz.underlying108
  a70 := Tryz.isAgg108
  z70 := Tryz.sizeOf108
  v70 := Tryz.zeroValue108
  t72 := Tryz.underlying110
  a72 := Tryz.isAgg110
  z72 := Tryz.sizeOf110
  v72 := Tryz.zeroValue110
  t127 := Tryz.underlying140
  a127 := Tryz.isAgg140
  z127 := Tryz.sizeOf140
  v127 := Tryz.zeroValue140 }
theorem Tryz.Builder_Extra_169 : Builder.Extra Tryz.prog Tryz.lays169_ren := {
  sizeBuilder := by kernel_rfl
  liesBuilder := by kernel_rfl
  t5 := Tryz.underlying5
  a5 := Tryz.isAgg5
  z5 := Tryz.sizeOf5
  v5 := Tryz.zeroValue5
  infoByte := by kernel_rfl
  cellsByte := by kernel_rfl
  sizeByte := by kernel_rfl
  neB5 := by decide }
open Go.RowKit in
theorem Tryz.Builder_Len_f (B b : Nat) (bs : List Value) (w : World) (h : Lib.IsBuilderF 110 5 B b bs w) :
    Calls Tryz.prog 80 #[.pointer (some ⟨b, 0, none⟩)] w fun e w' => e = .returned (.int .i64 bs.length) ∧ w' = w := Any.Builder_Len_f Tryz.lays170 B b bs w h
open Go.RowKit in
theorem Tryz.Builder_String_any_k (B b : Nat) (l : List UInt8) (w : World) (h : Lib.IsBuilderF 110 5 B b (Lib.byteCells l) w) (hBw : B ≤ w.heap.size) :
    Calls Tryz.prog 81 #[.pointer (some ⟨b, 0, none⟩)] w fun e w' => e = .returned (.string ⟨l.toArray⟩) ∧ (Lib.IsBuilderF 110 5 B b (Lib.byteCells l) w' ∧ Below B w w' ∧ Lib.OthersKept 5 (some b) w w') := Any.Builder_String_any_k Tryz.lays169 Tryz.Builder_Extra_169 B b l w h hBw
def Tryz.laysM171_ren : Go.Shelf.Ren := ⟨fun | 171 => 113 | 243 => 129 | 246 => 145 | 283 => 152 | 284 => 153 | 285 => 154 | 286 => 155 | 129 => 159 | 317 => 158 | 318 => 160 | 319 => 161 | 320 => 162 | 337 => 163 | 338 => 164 | n => n, fun | 3 => 3 | 9 => 9 | 2 => 2 | 4 => 4 | 171 => 186 | 0 => 0 | 53 => 161 | 37 => 94 | 5 => 5 | 173 => 189 | 212 => 196 | 51 => 158 | 20 => 20 | 213 => 197 | 46 => 146 | 232 => 200 | 233 => 201 | n => n, fun | 17 => 5 | 18 => 6 | 19 => 7 | n => n⟩
theorem Tryz.laysM171 : Go.Proofs.LaysM.n171 Tryz.prog Tryz.laysM171_ren := {
  mixed := by kernel_rfl
  f129 := Tryz.func159.trans (congrArg some (by kernel_rfl))
  f171 := Tryz.func113.trans (congrArg some (by kernel_rfl))
  f243 := Tryz.func129.trans (congrArg some (by kernel_rfl))
  f246 := Tryz.func145.trans (congrArg some (by kernel_rfl))
  f283 := Tryz.func152.trans (congrArg some (by kernel_rfl))
  f284 := Tryz.func153.trans (congrArg some (by kernel_rfl))
  f285 := Tryz.func154.trans (congrArg some (by kernel_rfl))
  f286 := Tryz.func155.trans (congrArg some (by kernel_rfl))
  f317 := Tryz.func158.trans (congrArg some (by kernel_rfl))
  f318 := Tryz.func160.trans (congrArg some (by kernel_rfl))
  f319 := Tryz.func161.trans (congrArg some (by kernel_rfl))
  f320 := Tryz.func162.trans (congrArg some (by kernel_rfl))
  f337 := Tryz.func163.trans (congrArg some (by kernel_rfl))
  f338 := Tryz.func164.trans (congrArg some (by kernel_rfl))
  t0 := Tryz.underlying0
  a0 := Tryz.isAgg0
  z0 := Tryz.sizeOf0
  v0 := Tryz.zeroValue0
  t2 := Tryz.underlying2
  a2 := Tryz.isAgg2
  z2 := Tryz.sizeOf2
  v2 := Tryz.zeroValue2
  t3 := Tryz.underlying3
  a3 := Tryz.isAgg3
  z3 := Tryz.sizeOf3
  v3 := Tryz.zeroValue3
  t4 := Tryz.underlying4
  a4 := Tryz.isAgg4
  z4 := Tryz.sizeOf4
  v4 := Tryz.zeroValue4
  t5 := Tryz.underlying5
  a5 := Tryz.isAgg5
  z5 := Tryz.sizeOf5
  v5 := Tryz.zeroValue5
  t9 := Tryz.underlying9
  a9 := Tryz.isAgg9
  z9 := Tryz.sizeOf9
  v9 := Tryz.zeroValue9
  t20 := Tryz.underlying20
  a20 := Tryz.isAgg20
  z20 := Tryz.sizeOf20
  v20 := Tryz.zeroValue20
  t37 := Tryz.underlying94
  a37 := Tryz.isAgg94
  z37 := Tryz.sizeOf94
  v37 := Tryz.zeroValue94
  t46 := Tryz.underlying146
  a46 := Tryz.isAgg146
  z46 := Tryz.sizeOf146
  v46 := Tryz.zeroValue146
  t51 := Tryz.underlying158
  a51 := Tryz.isAgg158
  z51 := Tryz.sizeOf158
  v51 := Tryz.zeroValue158
  t53 := Tryz.underlying161
  a53 := Tryz.isAgg161
  z53 := Tryz.sizeOf161
  v53 := Tryz.zeroValue161
  t171 := Tryz.underlying186
  a171 := Tryz.isAgg186
  z171 := Tryz.sizeOf186
  v171 := Tryz.zeroValue186
  t173 := Tryz.underlying189
  a173 := Tryz.isAgg189
  z173 := Tryz.sizeOf189
  v173 := Tryz.zeroValue189
  t212 := Tryz.underlying196
  a212 := Tryz.isAgg196
  z212 := Tryz.sizeOf196
  v212 := Tryz.zeroValue196
  t213 := Tryz.underlying197
  a213 := Tryz.isAgg197
  z213 := Tryz.sizeOf197
  t232 := Tryz.underlying200
  a232 := Tryz.isAgg200
  z232 := Tryz.sizeOf200
  v232 := Tryz.zeroValue200
  t233 := Tryz.underlying201
  a233 := Tryz.isAgg201
  z233 := Tryz.sizeOf201
  v233 := Tryz.zeroValue201
  g17 := by kernel_rfl
  g18 := by kernel_rfl
  g19 := by kernel_rfl
  i0 := by kernel_rfl
  i2 := by kernel_rfl
  i3 := by kernel_rfl
  i4 := by kernel_rfl
  i5 := by kernel_rfl
  i9 := by kernel_rfl
  i20 := by kernel_rfl
  i37 := by kernel_rfl
  i46 := by kernel_rfl
  i51 := by kernel_rfl
  i53 := by kernel_rfl
  i171 := by kernel_rfl
  i173 := by kernel_rfl
  i212 := by kernel_rfl
  i232 := by kernel_rfl
  i233 := by kernel_rfl
  m17 := by kernel_rfl
  m18 := by kernel_rfl
  m19 := by kernel_rfl }
open Go.RowKit Go.Sort Go.Lib in
theorem Tryz.strconv_Itoa (n : Int) (h0 : -9223372036854775808 ≤ n) (h1 : n ≤ 9223372036854775807) (w : World) (htab : Lib.TabIs Tryz.prog w "internal/strconv.uint64pow10" .u64 Lib.pow10Tab) :
    Calls Tryz.prog 113 #[.int .i64 n] w fun e w' => e = .returned (.string ⟨(Lib.itoa n).toArray⟩) ∧ ∃ k os, w' = grow (w.drewN k) os := Any.strconv_Itoa Tryz.laysM171 n h0 h1 w htab
def Tryz.laysC172_ren : Go.Shelf.Ren := ⟨fun | 172 => 112 | 244 => 127 | 245 => 128 | 247 => 140 | 279 => 141 | 280 => 142 | 281 => 143 | 282 => 144 | 287 => 149 | 316 => 150 | 171 => 113 | 205 => 151 | 321 => 156 | 322 => 157 | 243 => 129 | 246 => 145 | 283 => 152 | 284 => 153 | 285 => 154 | 286 => 155 | 129 => 159 | 317 => 158 | 318 => 160 | 319 => 161 | 320 => 162 | 337 => 163 | 338 => 164 | n => n, fun | 9 => 9 | 3 => 3 | 75 => 112 | 76 => 113 | 4 => 4 | 5 => 5 | 167 => 167 | 37 => 94 | 0 => 0 | 85 => 168 | 2 => 2 | 168 => 170 | 53 => 161 | 175 => 180 | 46 => 146 | 210 => 184 | 127 => 140 | 145 => 194 | 143 => 192 | 21 => 21 | 171 => 186 | 173 => 189 | 212 => 196 | 51 => 158 | 20 => 20 | 213 => 197 | 232 => 200 | 233 => 201 | 80 => 123 | n => n, fun | 15 => 3 | 16 => 4 | 17 => 5 | 18 => 6 | 19 => 7 | n => n⟩
theorem Tryz.laysC172 : Go.Proofs.LaysC.n172 Tryz.prog Tryz.laysC172_ren := {
  mixed := by kernel_rfl
  f129 := Tryz.func159.trans (congrArg some (by kernel_rfl))
  f171 := Tryz.func113.trans (congrArg some (by kernel_rfl))
  f172 := Tryz.func112.trans (congrArg some (by kernel_rfl))
  f205 := Tryz.func151.trans (congrArg some (by kernel_rfl))
  f243 := Tryz.func129.trans (congrArg some (by kernel_rfl))
  f244 := Tryz.func127.trans (congrArg some (by kernel_rfl))
  f245 := Tryz.func128.trans (congrArg some (by kernel_rfl))
  f246 := Tryz.func145.trans (congrArg some (by kernel_rfl))
  f247 := Tryz.func140.trans (congrArg some (by kernel_rfl))
  f279 := Tryz.func141.trans (congrArg some (by kernel_rfl))
  f280 := Tryz.func142.trans (congrArg some (by kernel_rfl))
  f281 := Tryz.func143.trans (congrArg some (by kernel_rfl))
  f282 := Tryz.func144.trans (congrArg some (by kernel_rfl))
  f283 := Tryz.func152.trans (congrArg some (by kernel_rfl))
  f284 := Tryz.func153.trans (congrArg some (by kernel_rfl))
  f285 := Tryz.func154.trans (congrArg some (by kernel_rfl))
  f286 := Tryz.func155.trans (congrArg some (by kernel_rfl))
  f287 := Tryz.func149.trans (congrArg some (by kernel_rfl))
  f316 := Tryz.func150.trans (congrArg some (by kernel_rfl))
  f317 := Tryz.func158.trans (congrArg some (by kernel_rfl))
  f318 := Tryz.func160.trans (congrArg some (by kernel_rfl))
  f319 := Tryz.func161.trans (congrArg some (by kernel_rfl))
  f320 := Tryz.func162.trans (congrArg some (by kernel_rfl))
  f321 := Tryz.func156.trans (congrArg some (by kernel_rfl))
  f322 := Tryz.func157.trans (congrArg some (by kernel_rfl))
  f337 := Tryz.func163.trans (congrArg some (by kernel_rfl))
  f338 := Tryz.func164.trans (congrArg some (by kernel_rfl))
  t0 := Tryz.underlying0
  a0 := Tryz.isAgg0
  z0 := Tryz.sizeOf0
  v0 := Tryz.zeroValue0
  t2 := Tryz.underlying2
  a2 := Tryz.isAgg2
  z2 := Tryz.sizeOf2
  v2 := Tryz.zeroValue2
  t3 := Tryz.underlying3
  a3 := Tryz.isAgg3
  z3 := Tryz.sizeOf3
  v3 := Tryz.zeroValue3
  t4 := Tryz.underlying4
  a4 := Tryz.isAgg4
  z4 := Tryz.sizeOf4
  v4 := Tryz.zeroValue4
  t5 := Tryz.underlying5
  a5 := Tryz.isAgg5
  z5 := Tryz.sizeOf5
  v5 := Tryz.zeroValue5
  t9 := Tryz.underlying9
  a9 := Tryz.isAgg9
  z9 := Tryz.sizeOf9
  v9 := Tryz.zeroValue9
  t20 := Tryz.underlying20
  a20 := Tryz.isAgg20
  z20 := Tryz.sizeOf20
  v20 := Tryz.zeroValue20
  t21 := Tryz.underlying21
  a21 := Tryz.isAgg21
  z21 := Tryz.sizeOf21
  v21 := Tryz.zeroValue21
  t37 := Tryz.underlying94
  a37 := Tryz.isAgg94
  z37 := Tryz.sizeOf94
  v37 := Tryz.zeroValue94
  t46 := Tryz.underlying146
  a46 := Tryz.isAgg146
  z46 := Tryz.sizeOf146
  v46 := Tryz.zeroValue146
  t51 := Tryz.underlying158
  a51 := Tryz.isAgg158
  z51 := Tryz.sizeOf158
  v51 := Tryz.zeroValue158
  t53 := Tryz.underlying161
  a53 := Tryz.isAgg161
  z53 := Tryz.sizeOf161
  v53 := Tryz.zeroValue161
  t75 := Tryz.underlying112
  a75 := Tryz.isAgg112
  z75 := Tryz.sizeOf112
  v75 := Tryz.zeroValue112
  t76 := Tryz.underlying113
  a76 := Tryz.isAgg113
  z76 := Tryz.sizeOf113
  v76 := Tryz.zeroValue113
  t85 := Tryz.underlying168
  a85 := Tryz.isAgg168
  z85 := Tryz.sizeOf168
  v85 := Tryz.zeroValue168
  t127 := Tryz.underlying140
  a127 := Tryz.isAgg140
  z127 := Tryz.sizeOf140
  v127 := Tryz.zeroValue140
  t143 := Tryz.underlying192
  a143 := Tryz.isAgg192
  z143 := Tryz.sizeOf192
  v143 := Tryz.zeroValue192
  t145 := Tryz.underlying194
  a145 := Tryz.isAgg194
  z145 := Tryz.sizeOf194
  v145 := Tryz.zeroValue194
  t167 := Tryz.underlying167
  a167 := Tryz.isAgg167
  z167 := Tryz.sizeOf167
  v167 := Tryz.zeroValue167
  t168 := Tryz.underlying170
  a168 := Tryz.isAgg170
  z168 := Tryz.sizeOf170
  v168 := Tryz.zeroValue170
  t171 := Tryz.underlying186
  a171 := Tryz.isAgg186
  z171 := Tryz.sizeOf186
  v171 := Tryz.zeroValue186
  t173 := Tryz.underlying189
  a173 := Tryz.isAgg189
  z173 := Tryz.sizeOf189
  v173 := Tryz.zeroValue189
  t175 := Tryz.underlying180
  a175 := Tryz.isAgg180
  z175 := Tryz.sizeOf180
  v175 := Tryz.zeroValue180
  t210 := Tryz.underlying184
  a210 := Tryz.isAgg184
  z210 := Tryz.sizeOf184
  v210 := Tryz.zeroValue184
  t212 := Tryz.underlying196
  a212 := Tryz.isAgg196
  z212 := Tryz.sizeOf196
  v212 := Tryz.zeroValue196
  t213 := Tryz.underlying197
  a213 := Tryz.isAgg197
  z213 := Tryz.sizeOf197
  t232 := Tryz.underlying200
  a232 := Tryz.isAgg200
  z232 := Tryz.sizeOf200
  v232 := Tryz.zeroValue200
  t233 := Tryz.underlying201
  a233 := Tryz.isAgg201
  z233 := Tryz.sizeOf201
  v233 := Tryz.zeroValue201
  g15 := by kernel_rfl
  g16 := by kernel_rfl
  g17 := by kernel_rfl
  g18 := by kernel_rfl
  g19 := by kernel_rfl
  t80 := Tryz.underlying123
  a80 := Tryz.isAgg123
  z80 := Tryz.sizeOf123
  v80 := Tryz.zeroValue123
  i0 := by kernel_rfl
  i2 := by kernel_rfl
  i3 := by kernel_rfl
  i4 := by kernel_rfl
  i5 := by kernel_rfl
  i9 := by kernel_rfl
  i20 := by kernel_rfl
  i21 := by kernel_rfl
  i37 := by kernel_rfl
  i46 := by kernel_rfl
  i51 := by kernel_rfl
  i53 := by kernel_rfl
  i75 := by kernel_rfl
  i76 := by kernel_rfl
  i80 := by kernel_rfl
  i85 := by kernel_rfl
  i127 := by kernel_rfl
  i143 := by kernel_rfl
  i145 := by kernel_rfl
  i167 := by kernel_rfl
  i168 := by kernel_rfl
  i171 := by kernel_rfl
  i173 := by kernel_rfl
  i175 := by kernel_rfl
  i210 := by kernel_rfl
  i212 := by kernel_rfl
  i232 := by kernel_rfl
  i233 := by kernel_rfl
  m15 := by kernel_rfl
  m16 := by kernel_rfl
  m17 := by kernel_rfl
  m18 := by kernel_rfl
  m19 := by kernel_rfl
  c0 := by kernel_rfl
  c2 := by kernel_rfl
  c3 := by kernel_rfl
  c4 := by kernel_rfl
  c5 := by kernel_rfl
  c9 := by kernel_rfl
  c20 := by kernel_rfl
  c21 := by kernel_rfl
  c37 := by kernel_rfl
  c46 := by kernel_rfl
  c51 := by kernel_rfl
  c53 := by kernel_rfl
  c75 := by kernel_rfl
  c76 := by kernel_rfl
  c80 := by kernel_rfl
  c85 := by kernel_rfl
  c127 := by kernel_rfl
  c143 := by kernel_rfl
  c145 := by kernel_rfl
  c167 := by kernel_rfl
  c168 := by kernel_rfl
  c171 := by kernel_rfl
  c173 := by kernel_rfl
  c175 := by kernel_rfl
  c210 := by kernel_rfl
  c212 := by kernel_rfl
  c213 := by kernel_rfl
  c232 := by kernel_rfl
  c233 := by kernel_rfl }
open Go.RowKit in
theorem Tryz.strconv_Atoi_ok (s : ByteArray) (hmax : s.size ≤ 9223372036854775806) (v : Int) (h : Lib.atoiAll s.data.toList = .ok v) (w : World) :
    Calls Tryz.prog 112 #[.string s] w fun e w' => e = .returned (.tuple #[.int .i64 v, .nilIface]) ∧ (w' = w ∨ ∃ t, w' = Lib.bytesWorld w 5 t) := Any.strconv_Atoi_ok Tryz.laysC172 s hmax v h w
open Go.RowKit in
theorem Tryz.strconv_Atoi_syntax (s : ByteArray) (hlim : s.size ≤ 281474976710656) (hno : ∀ v, Lib.atoiAll s.data.toList ≠ .ok v) (hnr : Lib.atoiAll s.data.toList ≠ .range) (ev : Value) (w : World) (hv : w.cell? ⟨3, 0, none⟩ = some ev) (hev : ev = .nilIface ∨ ∃ te pe, ev = .iface te pe) :
    Calls Tryz.prog 112 #[.string s] w fun e w' => ∃ N, e = .returned (.tuple #[.int .i64 (0), .iface 170 (.pointer (some ⟨N, 0, none⟩))]) ∧ w.heap.size ≤ N ∧ w'.heap[N]? = some (.cells #[.string ⟨#[65, 116, 111, 105]⟩, .string s, ev] 184 (0, 0)) ∧ Below w.heap.size w w' := Any.strconv_Atoi_syntax Tryz.laysC172 s hlim (by revert hno hnr; generalize Lib.atoiAll s.data.toList = e; intro hno hnr; cases e <;> first | rfl | exact absurd rfl (hno _) | exact absurd rfl hnr) ev w hv hev
open Go.RowKit in
theorem Tryz.strconv_Atoi_range (s : ByteArray) (hlim : s.size ≤ 281474976710656) (h : Lib.atoiAll s.data.toList = .range) (ev : Value) (w : World) (hv : w.cell? ⟨4, 0, none⟩ = some ev) (hev : ev = .nilIface ∨ ∃ te pe, ev = .iface te pe) :
    Calls Tryz.prog 112 #[.string s] w fun e w' => ∃ N, e = .returned (.tuple #[.int .i64 (Lib.atoiSat s.data.toList), .iface 170 (.pointer (some ⟨N, 0, none⟩))]) ∧ w.heap.size ≤ N ∧ w'.heap[N]? = some (.cells #[.string ⟨#[65, 116, 111, 105]⟩, .string s, ev] 184 (0, 0)) ∧ Below w.heap.size w w' := Any.strconv_Atoi_range Tryz.laysC172 s hlim h ev w hv hev
def Tryz.lays146_ren : Go.Shelf.Ren := ⟨fun | 146 => 74 | 221 => 88 | 268 => 109 | 138 => 110 | 143 => 111 | 195 => 123 | 197 => 124 | 218 => 125 | 219 => 126 | 260 => 135 | 217 => 136 | 225 => 137 | 224 => 138 | 267 => 139 | 266 => 147 | 314 => 148 | n => n, fun | 9 => 9 | 31 => 90 | 3 => 3 | 4 => 4 | 0 => 0 | 105 => 154 | 21 => 21 | 5 => 5 | 46 => 146 | 119 => 175 | 139 => 178 | 138 => 177 | 146 => 159 | 51 => 158 | n => n, fun | 1 => 0 | 3 => 1 | 4 => 2 | n => n⟩
theorem Tryz.lays146 : Go.Proofs.Lays.n146 Tryz.prog Tryz.lays146_ren := {
  mixed := by kernel_rfl
  f138 := Tryz.func110.trans (congrArg some (by kernel_rfl))
  f143 := Tryz.func111.trans (congrArg some (by kernel_rfl))
  f146 := Tryz.func74.trans (congrArg some (by kernel_rfl))
  f195 := Tryz.func123.trans (congrArg some (by kernel_rfl))
  f197 := Tryz.func124.trans (congrArg some (by kernel_rfl))
  f217 := Tryz.func136.trans (congrArg some (by kernel_rfl))
  f218 := Tryz.func125.trans (congrArg some (by kernel_rfl))
  f219 := Tryz.func126.trans (congrArg some (by kernel_rfl))
  f221 := Tryz.func88.trans (congrArg some (by kernel_rfl))
  f224 := Tryz.func138.trans (congrArg some (by kernel_rfl))
  f225 := Tryz.func137.trans (congrArg some (by kernel_rfl))
  f260 := Tryz.func135.trans (congrArg some (by kernel_rfl))
  f266 := Tryz.func147.trans (congrArg some (by kernel_rfl))
  f267 := Tryz.func139.trans (congrArg some (by kernel_rfl))
  f268 := Tryz.func109.trans (congrArg some (by kernel_rfl))
  f314 := Tryz.func148.trans (congrArg some (by kernel_rfl))
  t0 := Tryz.underlying0
  a0 := Tryz.isAgg0
  z0 := Tryz.sizeOf0
  v0 := Tryz.zeroValue0
  t3 := Tryz.underlying3
  a3 := Tryz.isAgg3
  z3 := Tryz.sizeOf3
  v3 := Tryz.zeroValue3
  t4 := Tryz.underlying4
  a4 := Tryz.isAgg4
  z4 := Tryz.sizeOf4
  v4 := Tryz.zeroValue4
  t5 := Tryz.underlying5
  a5 := Tryz.isAgg5
  z5 := Tryz.sizeOf5
  v5 := Tryz.zeroValue5
  t9 := Tryz.underlying9
  a9 := Tryz.isAgg9
  z9 := Tryz.sizeOf9
  v9 := Tryz.zeroValue9
  t21 := Tryz.underlying21
  a21 := Tryz.isAgg21
  z21 := Tryz.sizeOf21
  v21 := Tryz.zeroValue21
  t31 := Tryz.underlying90
  a31 := Tryz.isAgg90
  z31 := Tryz.sizeOf90
  v31 := Tryz.zeroValue90
  t46 := Tryz.underlying146
  a46 := Tryz.isAgg146
  z46 := Tryz.sizeOf146
  v46 := Tryz.zeroValue146
  t51 := Tryz.underlying158
  a51 := Tryz.isAgg158
  z51 := Tryz.sizeOf158
  v51 := Tryz.zeroValue158
  t105 := Tryz.underlying154
  a105 := Tryz.isAgg154
  z105 := Tryz.sizeOf154
  v105 := Tryz.zeroValue154
  t119 := Tryz.underlying175
  a119 := Tryz.isAgg175
  z119 := Tryz.sizeOf175
  t138 := Tryz.underlying177
  a138 := Tryz.isAgg177
  z138 := Tryz.sizeOf177
  v138 := Tryz.zeroValue177
  t139 := Tryz.underlying178
  a139 := Tryz.isAgg178
  z139 := Tryz.sizeOf178
  v139 := Tryz.zeroValue178
  t146 := Tryz.underlying159
  a146 := Tryz.isAgg159
  z146 := Tryz.sizeOf159
  v146 := Tryz.zeroValue159
  g1 := by kernel_rfl
  g3 := by kernel_rfl
  g4 := by kernel_rfl }
open Go.RowKit Go.Lib in
theorem Tryz.strings_Split (s sep : ByteArray) (m : Int) (w : World) (hs : s.size < 4294967281) (hm : w.cell? ⟨0, 0, none⟩ = some (.int .i64 m)) (h1 : 1 ≤ sep.size) :
    Calls Tryz.prog 74 #[.string s, .string sep] w fun e w' =>
      e = .returned (.slice (some ⟨w.heap.size, 0, none⟩) (Lib.countB s sep + 1) (Lib.countB s sep + 1)) ∧ w' = w.alloc (.cells ((Lib.splitB sep 0 (Lib.countB s sep) s).map Value.string).toArray 9) := Any.strings_Split Tryz.lays146 (by kernel_rfl) s sep m w hs hm h1
def Tryz.lays105_ren : Go.Shelf.Ren := ⟨fun | 105 => 93 | 212 => 115 | 99 => 116 | 165 => 117 | 166 => 76 | 170 => 80 | 169 => 81 | 263 => 130 | 264 => 131 | 206 => 132 | 240 => 92 | 241 => 133 | 276 => 114 | 277 => 146 | n => n, fun | 9 => 9 | 3 => 3 | 4 => 4 | 20 => 20 | 0 => 0 | 46 => 146 | 109 => 147 | 5 => 5 | 72 => 110 | 76 => 113 | 51 => 158 | 146 => 159 | 53 => 161 | 148 => 162 | 70 => 108 | 37 => 94 | 75 => 112 | 127 => 140 | 164 => 144 | 80 => 123 | n => n, fun | n => n⟩
theorem Tryz.lays105 : Go.Proofs.Lays.n105 Tryz.prog Tryz.lays105_ren := {
  mixed := by kernel_rfl
  f99 := Tryz.func116.trans (congrArg some (by kernel_rfl))
  f105 := Tryz.func93.trans (congrArg some (by kernel_rfl))
  f165 := Tryz.func117.trans (congrArg some (by kernel_rfl))
  f166 := Tryz.func76.trans (congrArg some (by kernel_rfl))
  f169 := Tryz.func81.trans (congrArg some (by kernel_rfl))
  f170 := Tryz.func80.trans (congrArg some (by kernel_rfl))
  f206 := Tryz.func132.trans (congrArg some (by kernel_rfl))
  f212 := Tryz.func115.trans (congrArg some (by kernel_rfl))
  f240 := Tryz.func92.trans (congrArg some (by kernel_rfl))
  f241 := Tryz.func133.trans (congrArg some (by kernel_rfl))
  f263 := Tryz.func130.trans (congrArg some (by kernel_rfl))
  f264 := Tryz.func131.trans (congrArg some (by kernel_rfl))
  f276 := Tryz.func114.trans (congrArg some (by kernel_rfl))
  f277 := Tryz.func146.trans (congrArg some (by kernel_rfl))
  t0 := Tryz.underlying0
  a0 := Tryz.isAgg0
  z0 := Tryz.sizeOf0
  v0 := Tryz.zeroValue0
  t3 := Tryz.underlying3
  a3 := Tryz.isAgg3
  z3 := Tryz.sizeOf3
  v3 := Tryz.zeroValue3
  t4 := Tryz.underlying4
  a4 := Tryz.isAgg4
  z4 := Tryz.sizeOf4
  v4 := Tryz.zeroValue4
  t5 := Tryz.underlying5
  a5 := Tryz.isAgg5
  z5 := Tryz.sizeOf5
  v5 := Tryz.zeroValue5
  t9 := Tryz.underlying9
  a9 := Tryz.isAgg9
  z9 := Tryz.sizeOf9
  v9 := Tryz.zeroValue9
  t20 := Tryz.underlying20
  a20 := Tryz.isAgg20
  z20 := Tryz.sizeOf20
  v20 := Tryz.zeroValue20
  t37 := Tryz.underlying94
  a37 := Tryz.isAgg94
  z37 := Tryz.sizeOf94
  v37 := Tryz.zeroValue94
  t46 := Tryz.underlying146
  a46 := Tryz.isAgg146
  z46 := Tryz.sizeOf146
  v46 := Tryz.zeroValue146
  t51 := Tryz.underlying158
  a51 := Tryz.isAgg158
  z51 := Tryz.sizeOf158
  v51 := Tryz.zeroValue158
  t53 := Tryz.underlying161
  a53 := Tryz.isAgg161
  z53 := Tryz.sizeOf161
  v53 := Tryz.zeroValue161
  t70 := Tryz.underlying108
  a70 := Tryz.isAgg108
  z70 := Tryz.sizeOf108
  v70 := Tryz.zeroValue108
  t72 := Tryz.underlying110
  a72 := Tryz.isAgg110
  z72 := Tryz.sizeOf110
  v72 := Tryz.zeroValue110
  t75 := Tryz.underlying112
  a75 := Tryz.isAgg112
  z75 := Tryz.sizeOf112
  v75 := Tryz.zeroValue112
  t76 := Tryz.underlying113
  a76 := Tryz.isAgg113
  z76 := Tryz.sizeOf113
  v76 := Tryz.zeroValue113
  t109 := Tryz.underlying147
  a109 := Tryz.isAgg147
  z109 := Tryz.sizeOf147
  v109 := Tryz.zeroValue147
  t127 := Tryz.underlying140
  a127 := Tryz.isAgg140
  z127 := Tryz.sizeOf140
  v127 := Tryz.zeroValue140
  t146 := Tryz.underlying159
  a146 := Tryz.isAgg159
  z146 := Tryz.sizeOf159
  v146 := Tryz.zeroValue159
  t148 := Tryz.underlying162
  a148 := Tryz.isAgg162
  z148 := Tryz.sizeOf162
  v148 := Tryz.zeroValue162
  t164 := Tryz.underlying144
  a164 := Tryz.isAgg144
  z164 := Tryz.sizeOf144
  v164 := Tryz.zeroValue144 }
theorem Tryz.Builder_Extra_105 : Builder.Extra Tryz.prog Tryz.lays105_ren := {
  sizeBuilder := by kernel_rfl
  liesBuilder := by kernel_rfl
  t5 := Tryz.underlying5
  a5 := Tryz.isAgg5
  z5 := Tryz.sizeOf5
  v5 := Tryz.zeroValue5
  infoByte := by kernel_rfl
  cellsByte := by kernel_rfl
  sizeByte := by kernel_rfl
  neB5 := by decide }
open Go.RowKit Go.Lib in
theorem Tryz.strings_Repeat (s : ByteArray) (c : Nat) (w : World) (hc : c ≤ 9223372036854775807) (hlen : s.size * c ≤ 140737488355328) :
    Calls Tryz.prog 93 #[.string s, .int .i64 c] w fun e w' => e = .returned (.string ⟨(Lib.repeatL s.data.toList c).toArray⟩) ∧ Below w.heap.size w w' := Any.strings_Repeat Tryz.lays105 Tryz.Builder_Extra_105 s c w hc hlen
end Go.Proofs
end
section
namespace Go.Proofs.YtocoamgbpoommaaGreatDoor.C
open Go.RowKit Go.Proofs.YtocoamgbpoommaaGreatDoorW.PrintWords Go.Proofs.YtocoamgbpoommaaGreatDoorW.PrintLast Go.Proofs.YtocoamgbpoommaaGreatDoorW.PrintMore
set_option linter.unusedVariables false
set_option linter.unusedSimpArgs false
structure LaidW (w : World) : Prop where
  ml : ∃ m, w.cell? ⟨0, 0, none⟩ = some (.int .i64 m)
  sy : ∃ tp p, w.cell? ⟨3, 0, none⟩ = some (.iface tp p)
  rg : ∃ tp p, w.cell? ⟨4, 0, none⟩ = some (.iface tp p)
  tab : Lib.TabIs Tryz.prog w "internal/strconv.uint64pow10" .u64 Lib.pow10Tab
theorem pow10_named : Tryz.prog.globalNamed "internal/strconv.uint64pow10" = some 5 := by kernel_rfl
theorem LaidW.below {w w' : World} (h : LaidW w) (hb : Below w.heap.size w w') : LaidW w' := by
  obtain ⟨⟨m, h1⟩, ⟨tp, p, h2⟩, ⟨tp', p', h3⟩, h4⟩ := h
  refine ⟨⟨m, pw_cell_below hb h1⟩, ⟨tp, p, pw_cell_below hb h2⟩, ⟨tp', p', pw_cell_below hb h3⟩, ?_⟩
  unfold Lib.TabIs World.var? at *
  rw [pow10_named] at *
  simp only [Option.bind_some] at *
  have hlt : 5 < w.heap.size := by
    rcases Nat.lt_or_ge 5 w.heap.size with h | h
    · exact h
    · rw [Array.getElem?_eq_none h] at h4
      simp at h4
  rw [hb.block _ hlt]
  exact h4
theorem LaidW.alloc {w : World} (h : LaidW w) (o : Obj) : LaidW (w.alloc o) := h.below (below_alloc (Below.refl _ _) o)
theorem LaidW.drew {w : World} (h : LaidW w) : LaidW w.drew := h.below (Below.refl _ _).drew
theorem LaidW.drewN {w : World} (h : LaidW w) (n : Nat) : LaidW (w.drewN n) := h.below (pw_below_drewN (Below.refl _ _) n)
def strings_Repeat.f (a0 : ByteArray) (a1 : Int) : Option ByteArray :=
  if 0 ≤ a1 ∧ a1 ≤ 9223372036854775807 ∧ a0.size * a1.toNat ≤ 140737488355328 then some ⟨(Lib.repeatL a0.data.toList a1.toNat).toArray⟩ else none
theorem strings_Repeat.calls (a0 : ByteArray) (a1 : Int) (r : ByteArray) (w : World) (h : strings_Repeat.f a0 a1 = some r) :
    Calls Tryz.prog 93 #[.string a0, .int .i64 a1] w fun e w' => e = .returned (.string r) ∧ Below w.heap.size w w' := by
  unfold strings_Repeat.f at h
  split at h
  case isFalse => cases h
  case isTrue hc =>
  obtain ⟨h0, h1, h2⟩ := hc
  obtain ⟨n, rfl⟩ := Int.eq_ofNat_of_zero_le h0
  obtain rfl := Option.some.inj h
  exact Tryz.strings_Repeat a0 n w (by omega) (by simpa using h2)
def strings_Split.f (a0 a1 : ByteArray) : Option (List ByteArray) :=
  if a0.size < 4294967281 ∧ 1 ≤ a1.size then some (Lib.splitB a1 0 (Lib.countB a0 a1) a0) else none
theorem cells_own {w : World} {e : Nat} (xs : List ByteArray) (n : Nat) (hn : xs.length = n) (hm : n ≤ 9223372036854775807) :
    Kd.R Kd.string e (w.alloc (.cells (xs.map Value.string).toArray e)) w.heap.size (fun _ => True) (.slice (some ⟨w.heap.size, 0, none⟩) n n) xs := by
  subst hn
  refine ⟨fun _ _ => trivial, xs.map Value.string, ?_, ?_⟩
  · refine ⟨by simp [Kd.string, Kd.scalar], .inr ⟨w.heap.size, xs.length, (xs.map Value.string).toArray, rfl, Nat.le_refl _, heap_alloc_new w _, Nat.le_refl _, ?_, ?_, ?_⟩⟩
    · simpa [maxLen] using hm
    · simp [Kd.string, Kd.scalar]
    · simp [Kd.string, Kd.scalar, List.take_of_length_le]
  · refine ⟨by simp [Kd.string, Kd.scalar], fun j p hj => ?_⟩
    show List.take 1 (List.drop (j * 1) (xs.map Value.string)) = [.string p]
    have hlt := (List.getElem?_eq_some_iff.1 hj).1
    have hp := (List.getElem?_eq_some_iff.1 hj).2
    rw [Nat.mul_one, List.drop_eq_getElem_cons (by simpa using hlt)]
    simp [hp]
theorem strings_Split.calls (a0 a1 : ByteArray) (r : List ByteArray) (w : World) (hL : LaidW w) (h : strings_Split.f a0 a1 = some r) :
    Calls Tryz.prog 74 #[.string a0, .string a1] w fun e w' => ∃ v0_ : Value, e = .returned (v0_) ∧ Kd.R Kd.string 9 w' w.heap.size (fun _ => True) v0_ r ∧ Below w.heap.size w w' := by
  unfold strings_Split.f at h
  split at h
  case isFalse => cases h
  case isTrue hc =>
  obtain ⟨h0, h1⟩ := hc
  obtain rfl := Option.some.inj h
  obtain ⟨m, hm⟩ := hL.ml
  have hl := Lib.splitB_all a1 h1 0 (Lib.countB a0 a1) a0 rfl
  have hle : Lib.countB a0 a1 ≤ a0.size := Lib.countB_le a1 h1 _ a0 (Nat.le_refl _)
  refine (Tryz.strings_Split a0 a1 m w h0 hm h1).mono ?_
  rintro e w' ⟨rfl, rfl⟩
  exact ⟨_, rfl, cells_own _ _ hl (by omega), (Below.refl _ _).alloc (Nat.le_refl _) _⟩
def strconv_Itoa.f (a0 : Int) : Option ByteArray := if -9223372036854775808 ≤ a0 ∧ a0 ≤ 9223372036854775807 then some ⟨(Lib.itoa a0).toArray⟩ else none
theorem strconv_Itoa.calls (a0 : Int) (r : ByteArray) (w : World) (hL : LaidW w) (h : strconv_Itoa.f a0 = some r) :
    Calls Tryz.prog 113 #[.int .i64 a0] w fun e w' => e = .returned (.string r) ∧ Below w.heap.size w w' := by
  unfold strconv_Itoa.f at h
  split at h
  case isFalse => cases h
  case isTrue hc =>
  obtain rfl := Option.some.inj h
  refine (Tryz.strconv_Itoa a0 hc.1 hc.2 w hL.tab).mono ?_
  rintro e w' ⟨rfl, k, os, rfl⟩
  exact ⟨rfl, ⟨rfl, rfl, rfl, by show w.heap.size ≤ (w.heap ++ os).size; rw [Array.size_append]; omega, fun j hj => by show (w.heap ++ os)[j]? = w.heap[j]?; rw [Array.getElem?_append_left hj]⟩⟩
end Go.Proofs.YtocoamgbpoommaaGreatDoor.C
end
