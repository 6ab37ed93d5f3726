/- Texts of this claim, together: what the functions return, and what they say in plain words. -/
import Derived.Test.YtocoamgbpoommaaGreatDoorUC
import Derived.Test.YtocoamgbpoommaaGreatDoorUB
section
namespace Go.Proofs.YtocoamgbpoommaaGreatDoor.C
open Go.RowKit Go.Proofs.YtocoamgbpoommaaGreatDoorW.PrintWords Go.Proofs.YtocoamgbpoommaaGreatDoorW.PrintLast Go.Proofs.YtocoamgbpoommaaGreatDoorW.PrintMore
set_option linter.unusedVariables false
set_option linter.unusedSimpArgs false
theorem infoU8n : (Tryz.prog.info? 5).map (fun i => (i.zero, i.size, i.bytes)) = some (some (.int .u8 0), 1, 1) := by kernel_rfl
def rep10 : Nat → List Int
  | 0 => []
  | n + 1 => rep10 n ++ [49, 48]
def narcissusref01_Number.f (a0 : Int) : Option ByteArray := if 0 ≤ a0 ∧ a0 ≤ 1000000000 then some (strOfNums (rep10 a0.toNat ++ [48])) else none
set_option maxHeartbeats 1000000 in
set_option maxRecDepth 100000 in
theorem narcissusref01_Number.calls (a0 : Int) (r : ByteArray) (w : World) (h : narcissusref01_Number.f a0 = some r) :
    Calls Tryz.prog 103 #[.int .i64 a0] w fun e w' => e = .returned (.string r) ∧ Below w.heap.size w w' := by
  unfold narcissusref01_Number.f at h
  split at h
  case isFalse => cases h
  case isTrue hc =>
  obtain ⟨h0, h1⟩ := hc
  obtain ⟨n, rfl⟩ := Int.eq_ofNat_of_zero_le h0
  obtain rfl := Option.some.inj h
  rw [Int.toNat_natCast]
  obtain ⟨i0, hi, hz0, hz1, hz2⟩ := info_parts infoU8n
  have hn : n ≤ 1000000000 := by omega
  obtain ⟨w1, hmk0, hown0, hg0⟩ := run_make_own w w.heap.size 94 5 i0 (.int .u8 0) 1 Tryz.underlying94 hi hz0 hz1 .i64 .i64 (2 * n + 1) (by rw [hz2]; omega) (by unfold maxLen; omega) (Nat.le_refl _)
  have hmk : (Instr.makeSlice 94 (.int .i64 0) (.int .i64 (2 * (n : Int) + 1))).run Tryz.prog w = .ok (.slice (some ⟨w.heap.size, 0, none⟩) 0 (2 * n + 1)) w1 := by
    rw [← hmk0]; congr 2
  have HOW := Aside0.mk hown0
  have HG := Aside0.mk hg0
  clear hmk0 hown0 hg0
  go_enter Tryz.func103, Tryz.ntmps103
  go_wp2
  clear hmk
  go_loopw [3, 4] (fun v i wr => ∃ k : Nat, k ≤ n ∧ i = .int .i64 k ∧ Aside0 (wr.ownsRow w.heap.size 5 1 v (2 * k) (nums .u8 (rep10 k))) ∧ Aside0 (Below w.heap.size w wr)) (fun _ i _ => n - (intOf i).toNat)
  case atStart => exact ⟨0, Nat.zero_le _, rfl, ⟨HOW.out⟩, ⟨(Below.refl _ _).grown HG.out (Nat.le_refl _) (by intro k hk; cases hk)⟩⟩
  case round =>
    clear HOW HG
    obtain ⟨k, hk, rfl, HO, HB⟩ := hrel
    by_cases hlt : k < n
    · go_wp2_with (at_builtin; refine wpList_append_own _ rfl _ _ 94 rfl w.heap.size 5 i0 (.int .u8 0) 1 1 Tryz.underlying94 hi hz0 hz1 hz2 rfl (by decide) _ (2 * k) _ rfl (HO.out.alloc _) ⟨wr.heap.size, 0, none⟩ 2 2 [.int .u8 49, .int .u8 48] rfl rfl ?c1 ?c2 ?c3 ?c4 ?c5 ?_)
      case c1 =>
        intro j u hj
        match j, hj with
        | 0, hj => simp at hj; subst hj; simp [Addr.add]
        | 1, hj => simp at hj; subst hj; simp [Addr.add]
      case c2 => intro u hu; simp at hu; rcases hu with rfl | rfl <;> rfl
      case c3 => unfold maxLen; omega
      case c4 => omega
      case c5 => have := HB.out.size; simp; omega
      intro v' w2 hown' hgrow _
      have HO' := Aside0.mk hown'
      have HG' := Aside0.mk hgrow
      clear hown' hgrow
      go_wp2
      go_roundw
      case rel =>
        refine ⟨k + 1, by omega, by go_num, ⟨?_⟩, ⟨(HB.out.alloc HB.out.size _).grown HG'.out (by have := HB.out.size; simp; omega) (own_base HO.out)⟩⟩
        have e := HO'.out
        rw [show 2 * (k + 1) = 2 * k + 2 from by omega, rep10, nums_append]
        exact e
      case measure => simp [intOf]; omega
    · obtain rfl : k = n := by omega
      go_wp2_with (at_builtin; refine wpList_append_own _ rfl _ _ 94 rfl w.heap.size 5 i0 (.int .u8 0) 1 1 Tryz.underlying94 hi hz0 hz1 hz2 rfl (by decide) _ (2 * k) _ rfl (HO.out.alloc _) ⟨wr.heap.size, 0, none⟩ 1 1 [.int .u8 48] rfl rfl ?c1 ?c2 ?c3 ?c4 ?c5 ?_)
      case c1 =>
        intro j u hj
        match j, hj with
        | 0, hj => simp at hj; subst hj; simp [Addr.add]
      case c2 => intro u hu; simp at hu; subst hu; rfl
      case c3 => unfold maxLen; omega
      case c4 => omega
      case c5 => have := HB.out.size; simp; omega
      intro v' w2 hown' hgrow _
      have hcv := own_string (P := Tryz.prog) (n := 2 * k + 1) (xs := rep10 k ++ [48]) Tryz.underlying94 Tryz.underlying5 Tryz.underlying9 (by rw [nums_append]; exact hown')
      have HG' := Aside0.mk hgrow
      clear hown' hgrow
      go_wp2
      go_ret
      exact ⟨rfl, (HB.out.alloc HB.out.size _).grown HG'.out (by have := HB.out.size; simp; omega) (own_base HO.out)⟩
theorem step_append_str {P : Program} {ops : Array Oper} {o : Oper} {a : Act} {K : Act → World → Prop} {Q : Exit → Act → World → Prop} {E : Prop} {w : World} (hgd : o.guard = none) (sl x : Operand) (t u : TypeId)
    (ho : o.op = .call { callee := .builtin .append, args := #[sl, x], argTypes := #[t, u] })
    (base : Nat) (e : TypeId) (i : TypeInfo) (ht : P.underlying t = some (.slice e)) (hu : P.underlying u = some .string) (hi : P.info? e = some i) (hz : i.zero = some (.int .u8 0))
    (hsize : i.size = 1) (hby : i.bytes = 1)
    (v : Value) (n : Nat) (xs : List Value) (hs : a.eval sl = v) (hown : w.ownsRow base e 1 v n xs) (s : ByteArray) (hx : a.eval x = .string s)
    (h63 : n + s.size ≤ maxLen) (hbytes : n + s.size ≤ 140737488355328) (hbase : base ≤ w.heap.size)
    (h : ∀ v' w', w'.ownsRow base e 1 v' (n + s.size) (xs ++ Lib.strCells s) → w.grownBy w' v.ownBlock → (v' = .slice none 0 0 ↔ v = .slice none 0 0 ∧ s.size = 0) → K (a.put o.dst v') w') :
    if Region.wanted o (yielded ops a.tmps) = true then Oper.wp P o a w K Q else E := by
  have hw : Region.wanted o (yielded ops a.tmps) = true := by simp [Region.wanted, hgd]
  rw [if_pos hw]
  obtain ⟨v', w', hr, h2, h3, h4⟩ := Lib.run_append_own_string (P := P) w base t u o.type e i ht hu hi hz hsize hby v n xs hown s h63 hbytes hbase
  unfold Oper.wp execOp
  simp only [ho, resolve, invoke, builtin, Sem.run_bind, Sem.run_pure, Result.andThen_ok, List.map_toArray, List.map_cons, List.map_nil, hs, hx, hr]
  exact h v' w' h2 h3 h4
def narcissusref01_List.l : Nat → List ByteArray → List Int → Int → Option ByteArray
  | 0, _, _, _ => none
  | k + 1, l0, xs, i => if i < (l0.length : Int) then (if xs.length + 1 + (rdOf ByteArray.empty l0 i).size ≤ 140737488355327 then narcissusref01_List.l k l0 (xs ++ [49] ++ bytesOf (rdOf ByteArray.empty l0 i)) (i + 1) else none) else if xs.length + 1 ≤ 140737488355328 then some (strOfNums (xs ++ [48])) else none
def narcissusref01_List.f (k : Nat) (l0 : List ByteArray) : Option ByteArray := narcissusref01_List.l k l0 [] 0
set_option maxHeartbeats 1000000 in
set_option maxRecDepth 100000 in
theorem narcissusref01_List.calls (k : Nat) (A0 : Option Addr) (c0 : Nat) (l0 : List ByteArray) (r : ByteArray) (w : World) (hr0 : Kd.C Kd.string w A0 l0.length l0) (hc0 : l0.length ≤ c0) (h : narcissusref01_List.f k l0 = some r) :
    Calls Tryz.prog 57 #[.slice A0 l0.length c0] w fun e w' => e = .returned (.string r) ∧ Below w.heap.size w w' := by
  have HH := Aside0.mk h
  have HR0 := Aside0.mk hr0
  have HC0 := Aside0.mk hc0
  have hlm : l0.length ≤ 9223372036854775807 := hr0.2.1
  clear h hr0 hc0
  unfold narcissusref01_List.f at HH
  obtain ⟨i0, hi, hz0, hz1, hz2⟩ := info_parts infoU8n
  go_enter Tryz.func57, Tryz.ntmps57
  go_wp2
  go_loopg [3, 4] k (fun kq v3 v4 wr => ∃ (xs : List Int) (i : Nat), v4 = .int .i64 i ∧ Aside0 (i ≤ l0.length) ∧ Aside0 (narcissusref01_List.l kq l0 xs i = some r) ∧ Aside0 (wr.ownsRow w.heap.size 5 1 v3 xs.length (nums .u8 xs)) ∧ Aside0 (Below w.heap.size w wr))
  case atStart => exact ⟨[], 0, rfl, ⟨Nat.zero_le _⟩, HH, ⟨own_nil _ _ _ _⟩, ⟨Below.refl _ _⟩⟩
  case round =>
    clear HH
    obtain ⟨xs, i, rfl, HI, HA, HO, HB⟩ := hrel
    cases gk with
    | zero => exact absurd HA.out (by simp [narcissusref01_List.l])
    | succ k2 =>
      have H := HA.out
      clear HA
      rw [narcissusref01_List.l] at H
      by_cases hlt : (i : Int) < (l0.length : Int)
      · rw [if_pos hlt] at H
        have hltn : i < l0.length := by omega
        obtain ⟨ad, eA, hcell⟩ := Kd.at_string HR0.out (i : Int) (by omega) (by omega)
        subst eA
        rw [Int.toNat_natCast] at hcell
        have hblt := World.block_lt_of_cell? w _ hcell
        replace hcell := (HB.out.cell hblt).trans hcell
        generalize rdOf ByteArray.empty l0 (i : Int) = s at *
        by_cases hlim : xs.length + 1 + s.size ≤ 140737488355327
        · rw [if_pos hlim] at H
          have HN := Aside0.mk H
          have HLM := Aside0.mk hlim
          have hbw := HB.out.size
          have HM1 := Aside0.mk (show xs.length + 1 ≤ maxLen by unfold maxLen; omega)
          have HM2 := Aside0.mk (show (xs.length + 1) * 1 ≤ 140737488355328 by omega)
          have HM3 := Aside0.mk (show xs.length + 1 + s.size ≤ maxLen by unfold maxLen; omega)
          have HM4 := Aside0.mk (show xs.length + 1 + s.size ≤ 140737488355328 by omega)
          have HNE : Aside0 (u3.ownBlock ≠ some (ad.add i).block) := ⟨fun e => by have := own_base HO.out _ e; omega⟩
          clear H hlim
          go_wp2_with fail
          go_region_held3 (fun w' => w'.cell? (ad.add i) = some (.string s))
            (first
              | go_keep
              | (have hne1 : u3.ownBlock ≠ some (ad.add i).block := HNE.out
                 rw [hgrow1.cell_far _ (by simp; omega) (Ne.symm hne1)]; assumption)
              | (rw [hgrow2.cell_far _ (by have := hgrow1.size; simp at this; omega) (by intro e; have := own_base hown1 _ e.symm; omega)]; assumption))
            (first
              | ((refine step_append_lies _ (by rfl) _ _ _ (by rfl) w.heap.size 5 i0 _ 1 1 Tryz.underlying94 hi hz0 hz1 hz2 rfl (by omega) _ xs.length (nums .u8 xs) (by rfl) ((HO.out.alloc _).drew)
                      ⟨wr.heap.size, 0, none⟩ 1 1 [.int .u8 49] (by rfl) (by rfl) (World.news_of_block (cs := #[.int .u8 49]) (t := 5) (fr := (0, 0)) (heap_alloc_new wr _)) (by simp [Value.oneCell'])
                      (by omega) HM1.out HM2.out (by simp; omega) (wr.heap.size + 1) (by simp) ?_; intro gg cap w1 hown1 hgrow1 hat1 hlt1))
              | ((refine step_append_str (by rfl) _ _ _ _ (by rfl) w.heap.size 5 i0 Tryz.underlying94 Tryz.underlying9 hi hz0 hz1 hz2 _ _ _ (by rfl) hown1 s (by rfl) HM3.out HM4.out (Nat.le_trans (by simp; omega) hgrow1.size) ?_; intro v2 w2 hown2 hgrow2 hat2)))
          have HO2 := Aside0.mk hown2
          have HB2 : Aside0 (Below w.heap.size w w2) := ⟨(((HB.out.alloc HB.out.size _).drew).grown hgrow1 (by simp; omega) (own_base HO.out)).grown hgrow2 (by have := hgrow1.size; simp at this; omega) (own_base hown1)⟩
          clear hgrow1 hgrow2 hown1 hown2 hat1 hat2 hlt1
          go_wp2
          go_roundg k2
          case measure => omega
          case rel =>
            refine ⟨xs ++ [49] ++ bytesOf s, i + 1, by go_num, ⟨by omega⟩, ?_, ⟨?_⟩, HB2⟩
            · rw [show ((i + 1 : Nat) : Int) = (i : Int) + 1 from rfl]; exact HN
            · have e := HO2.out
              have e2 : (xs ++ [49] ++ bytesOf s).length = xs.length + 1 + s.size := by rw [List.length_append, List.length_append, bytesOf_length]; rfl
              rw [e2, nums_append, nums_append]
              have e3 : nums .u8 (bytesOf s) = Lib.strCells s := by simp [nums, bytesOf, Lib.strCells]
              rw [e3]
              exact e
        · rw [if_neg hlim] at H
          cases H
      · rw [if_neg hlt] at H
        by_cases hl9 : xs.length + 1 ≤ 140737488355328
        · rw [if_pos hl9] at H
          obtain rfl := Option.some.inj H
          have t1 : decide ((i : Int) < (l0.length : Int)) = false := decide_eq_false hlt
          have t2 : decide (i < l0.length) = false := decide_eq_false (by omega)
          clear H hlt
          go_wp2_with (at_builtin; refine wpList_append_own _ rfl _ _ 94 rfl w.heap.size 5 i0 (.int .u8 0) 1 1 Tryz.underlying94 hi hz0 hz1 hz2 rfl (by decide) _ xs.length _ rfl (HO.out.alloc _) ⟨wr.heap.size, 0, none⟩ 1 1 [.int .u8 48] rfl rfl ?z1 ?z2 ?z3 ?z4 ?z5 ?_)
          case z1 =>
            intro j u hj
            match j, hj with
            | 0, hj => simp at hj; subst hj; simp [Addr.add]
          case z2 => intro u hu; simp at hu; subst hu; rfl
          case z3 => unfold maxLen; omega
          case z4 => omega
          case z5 => have := HB.out.size; simp; omega
          intro v' w2 hown' hgrow _
          have hcv := own_string (P := Tryz.prog) (n := xs.length + 1) (xs := xs ++ [48]) Tryz.underlying94 Tryz.underlying5 Tryz.underlying9 (by rw [nums_append]; exact hown')
          have HG' := Aside0.mk hgrow
          clear hown' hgrow
          go_wp2
          go_ret
          exact ⟨rfl, (HB.out.alloc HB.out.size _).grown HG'.out (by have := HB.out.size; simp; omega) (own_base HO.out)⟩
        · rw [if_neg hl9] at H
          cases H
end Go.Proofs.YtocoamgbpoommaaGreatDoor.C
end
section
namespace Go.Proofs.YtocoamgbpoommaaGreatDoor.C
open Go.RowKit Go.Proofs.YtocoamgbpoommaaGreatDoorW.PrintWords Go.Proofs.YtocoamgbpoommaaGreatDoorW.PrintLast Go.Proofs.YtocoamgbpoommaaGreatDoorW.PrintMore
attribute [local go_sem] max2_int min2_int max_two min_two max_three min_three max_four min_four
set_option linter.unusedVariables false
set_option linter.unusedSimpArgs false
def narcissusref02_pair.f (a0 : ByteArray) (a1 : ByteArray) : Option (ByteArray) := if 1 + a0.size ≤ 9223372036854775807 then (if ((⟨#[49]⟩ : ByteArray) ++ a0).size + a1.size ≤ 9223372036854775807 then (some (((⟨#[49]⟩ : ByteArray) ++ a0) ++ a1)) else (none)) else (none)
set_option maxHeartbeats 8000000 in
set_option maxRecDepth 100000 in
theorem narcissusref02_pair.calls (a0 : ByteArray) (a1 : ByteArray) (r : ByteArray) (w : World) (h : narcissusref02_pair.f a0 a1 = some r) :
  Calls Tryz.prog 104 #[.string a0, .string a1] w fun e w' => e = .returned (.string r) ∧ Drawn0 w w' := by
 have H : (if 1 + a0.size ≤ 9223372036854775807 then (if ((⟨#[49]⟩ : ByteArray) ++ a0).size + a1.size ≤ 9223372036854775807 then (some (((⟨#[49]⟩ : ByteArray) ++ a0) ++ a1)) else (none)) else (none)) = some r := h
 clear h
 by_cases c3 : 1 + a0.size ≤ 9223372036854775807
 ·rw [if_pos c3] at H
  have c3b0 := eq_true c3
  have c3b1 : decide (1 + a0.size ≤ 9223372036854775807) = true := decide_eq_true c3
  try have c3b2 : (9223372036854775807 < 1 + a0.size) = False := eq_false (Nat.not_lt.2 c3)
  by_cases c4 : ((⟨#[49]⟩ : ByteArray) ++ a0).size + a1.size ≤ 9223372036854775807
  ·rw [if_pos c4] at H
   have c4b0 := eq_true c4
   have c4b1 : decide (((⟨#[49]⟩ : ByteArray) ++ a0).size + a1.size ≤ 9223372036854775807) = true := decide_eq_true c4
   try have c4b2 : (9223372036854775807 < ((⟨#[49]⟩ : ByteArray) ++ a0).size + a1.size) = False := eq_false (Nat.not_lt.2 c4)
   try (have c4b3 := c4b2; simp only [ByteArray.size_append, lit_size, List.size_toArray, List.length_cons, List.length_nil, Nat.zero_add, Nat.reduceAdd] at c4b3)
   obtain rfl := Option.some.inj H
   go_enter Tryz.func104, Tryz.ntmps104
   go_wp2
   go_ret
   exact ⟨by first | rfl | (simp; done) | (simp [*]; done) | (simp [show ∀ l : List UInt8, (l != []) = !l.isEmpty from fun l => by cases l <;> rfl]; done), by repeat (first | exact Drawn0.refl _ | apply Drawn0.step)⟩
  ·rw [if_neg c4] at H
   exact absurd H (by simp)
 ·rw [if_neg c3] at H
  exact absurd H (by simp)
end Go.Proofs.YtocoamgbpoommaaGreatDoor.C
end
