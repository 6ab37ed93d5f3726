/- For all programs: Decode of Code is the program, Parse of Text is the program, and programs with the same code are equal. The row lists variables of Go's library with what the program's text lays in them (strconv's two errors and its table of powers of ten, math/bits' and utf8's tables); the card ties them. -/
import Derived.Test.YtfckjfoalpkpjaaGreatDoorQB
import Derived.Test.YtfckjfoalpkpjaaGreatDoorC0
import Derived.Test.YtfckjfoalpkpjaaGreatDoorC1
import Derived.Test.YtfckjfoalpkpjaaGreatDoorF6
namespace Go.Proofs.YtfckjfoalpkpjaaGreatDoor.CodeBack
open Go.ChangeShapes Go.WideShapes Go.ChangeAt Go.RowKit Go.Proofs.YtfckjfoalpkpjaaGreatDoorW.PrintWords Go.Proofs.YtfckjfoalpkpjaaGreatDoorW.PrintMore Go.Proofs.YtfckjfoalpkpjaaGreatDoor.C Go.Proofs.YtfckjfoalpkpjaaGreatDoor.Plain Go.Proofs.YtfckjfoalpkpjaaGreatDoor.Card
open Go.ChangeMaps (open_string shut_string)
set_option linter.unusedVariables false
set_option linter.unusedSimpArgs false

def K : Nat := 5000000
theorem law_text (p : List Ins) (hp : OKP p) (k : Nat) (hk : 4500000 ≤ k) : narcissuslaw02_CodeBack.j2 k p = some true := by
  obtain ⟨k, rfl⟩ : ∃ m, k = m + 1 := ⟨k - 1, by omega⟩
  have h4 := hp.1
  have haw := awake_tells k (by omega)
  rw [narcissuslaw02_CodeBack.j2, twin_tells p (by omega), Option.bind_some, text_yes (by omega) hp]
  by_cases h : 4000000 < (textL p).length
  · rw [if_pos h, Option.bind_some, if_neg (by decide), if_pos rfl, haw]
    rfl
  · rw [if_neg h, Option.bind_some, if_pos rfl, parse_yes (by omega) hp (by rw [bs_size]; omega) (bl_bs _), Option.bind_some, if_pos rfl, same_yes p (by omega) k (by omega), Option.bind_some, if_pos rfl, haw]
    rfl
theorem law_code (p : List Ins) (hp : OKP p) (k : Nat) (hk : 4600000 ≤ k) : narcissuslaw02_CodeBack.j1 k p (if 2000000 < (codeL p).length then bs [] else bs (codeL p)) (if 2000000 < (codeL p).length then 3 else 0) false = some true := by
  obtain ⟨k, rfl⟩ : ∃ m, k = m + 1 := ⟨k - 1, by omega⟩
  have h4 := hp.1
  have ht := law_text p hp k (by omega)
  rw [narcissuslaw02_CodeBack.j1, if_neg (by decide)]
  by_cases h : 2000000 < (codeL p).length
  · rw [if_pos h, if_pos h, if_neg (by decide), if_pos rfl, ht]
  · rw [if_neg h, if_neg h, if_pos rfl, decode_yes (by omega) hp (by rw [bs_size]; omega) (bl_bs _), Option.bind_some, if_pos rfl, same_yes p (by omega) k (by omega), Option.bind_some, if_pos rfl, ht]
theorem fits_of {l : List Ins} (h : ∀ x ∈ l, x.f4.size ≤ 140737488351232) : Fits l := fun x hx => by have := h x hx; omega
/-- The plain law: the printed function answers true. -/
theorem law_at (p q : List Ins) (hp48 : p.length * 48 ≤ 140737488351232) (hpz : ∀ x ∈ p, x.f4.size ≤ 140737488351232) (hq48 : q.length * 48 ≤ 140737488351232) (hqz : ∀ x ∈ q, x.f4.size ≤ 140737488351232) : narcissuslaw02_CodeBack.f K p q = some true := by
  unfold narcissuslaw02_CodeBack.f K
  have haw := awake_tells 4999999 (by omega)
  have hj : narcissuslaw02_CodeBack.j0 5000000 p q true = some true := by
    rw [show (5000000 : Nat) = 4999999 + 1 from rfl, narcissuslaw02_CodeBack.j0, if_pos rfl, haw]
    rfl
  by_cases hp : OKP p
  · rw [refValidp_yes (fits_of hpz) (by omega) hp, Option.bind_some, if_pos rfl]
    by_cases hq : OKP q
    · rw [refValidp_yes (fits_of hqz) (by omega) hq, Option.bind_some, show (!true) = false from rfl]
      have h4 := hp.1
      have h5 := hq.1
      have hlaw := law_code p hp 4999999 (by omega)
      rw [show (5000000 : Nat) = 4999999 + 1 from rfl, narcissuslaw02_CodeBack.j0, if_neg (by decide), twin_tells p (by omega), Option.bind_some, code_yes (by omega) hp]
      by_cases h1 : 2000000 < (codeL p).length
      · rw [if_pos h1, if_pos h1] at hlaw
        rw [if_pos h1, Option.bind_some, twin_tells q (by omega), Option.bind_some, code_yes (by omega) hq]
        by_cases h2 : 2000000 < (codeL q).length
        · rw [if_pos h2, Option.bind_some, if_neg (by decide), hlaw]
        · rw [if_neg h2, Option.bind_some, if_neg (by decide), hlaw]
      · rw [if_neg h1, if_neg h1] at hlaw
        rw [if_neg h1, Option.bind_some, twin_tells q (by omega), Option.bind_some, code_yes (by omega) hq]
        by_cases h2 : 2000000 < (codeL q).length
        · rw [if_pos h2, Option.bind_some, if_pos rfl, if_neg (by decide), hlaw]
        · obtain ⟨v, ev, hv⟩ := same_tells p q (by omega) 4999999 (by omega)
          rw [if_neg h2, Option.bind_some, if_pos rfl, if_pos rfl, ev, Option.bind_some, toL, toL, bl_bs, bl_bs]
          have hb : ((codeL p == codeL q) != v) = false := by
            by_cases he : p = q
            · rw [hv.2 he, he]; simp
            · have hne : codeL p ≠ codeL q := fun e => he (codeL_inj (okp_nice hp) (okp_nice hq) (by omega) e)
              have hvf : v = false := by
                cases v with
                | false => rfl
                | true => exact absurd (hv.1 rfl) he
              rw [hvf, show (codeL p == codeL q) = false from beq_eq_false_iff_ne.2 hne]
              rfl
          rw [hb, hlaw]
    · rw [refValidp_no (fits_of hqz) (by omega) hq, Option.bind_some, show (!false) = true from rfl, hj]
  · rw [refValidp_no (fits_of hpz) (by omega) hp, Option.bind_some, if_neg (by decide), hj]
theorem plain_law (p q : List Ins) (hp48 : p.length * 48 ≤ 140737488351232) (hpz : ∀ x ∈ p, x.f4.size ≤ 140737488351232) (hq48 : q.length * 48 ≤ 140737488351232) (hqz : ∀ x ∈ q, x.f4.size ≤ 140737488351232) : ∃ k, narcissuslaw02_CodeBack.f k p q = some true := ⟨K, law_at p q hp48 hpz hq48 hqz⟩

set_option maxRecDepth 100000 in
/-- What the row asks, of every argument and every world that holds what is listed. -/
theorem contract (H : Type) (enc : TypeId × Value → H) (W : World) (base : Nat) (args : Array Value) (ds gs : List (DataW H)) (before : List MemPlace)
    (hval0 : ∀ (j : Nat) t v, Tryz.f6.params[j]? = some t → args[j]? = some v → Value.okWide Tryz.prog W .any base t v)
    (hW : DataW.Whole enc Tryz.prog Tryz.f6.params.toList Rows.codeBackSpec.vars false W args.toList ds gs before)
    (hsz0 : (DataW.weightsEach Tryz.prog (Tryz.f6.params.toList ++ Rows.codeBackSpec.plain.varTypes Tryz.prog) (ds ++ gs)).all (· ≤ reachBytes) = true) (hL : LaidW W) :
    Calls Tryz.prog 6 args W fun e W' => ∃ v, e = .returned v ∧ Rows.codeBackSpec.post enc Tryz.prog Tryz.f6 false true false false W args v W' := by
  have hsz : (DataW.weightsEach Tryz.prog (Tryz.f6.params.toList ++ Rows.codeBackSpec.plain.varTypes Tryz.prog) (ds ++ gs)).all (· ≤ reachBytes) = true := hsz0
  have hval : ∀ (j : Nat) t v, Tryz.f6.params[j]? = some t → args[j]? = some v → Value.okWide Tryz.prog W .any base t v := hval0
  have hW' := hW
  obtain ⟨p, q, hA0, hV, rfl, hfz, hnd⟩ := hW
  have hA : DataW.TrodAll enc Tryz.prog W 0 (fun _ => true) true Tryz.f6.params.toList args.toList ds p := hA0
  rw [Tryz.params6] at hA hval hsz
  obtain ⟨v0, vs0, d0, ds0, p0, q0, hargs, rfl, rfl, h0, r0⟩ := trodAll_cons hA
  obtain ⟨v1, vs1, d1, ds1, p1, q1, rfl, rfl, rfl, h1, r1⟩ := trodAll_cons r0
  obtain ⟨rfl, rfl, rfl⟩ := trodAll_nil r1
  obtain rfl : args = #[v0, v1] := by cases args; simp_all
  obtain ⟨rfl, rfl⟩ := trodVars_none hV
  have k0 := h0
  have lt0 : ∀ x ∈ p0, x.block < W.heap.size := by obtain ⟨m, hm⟩ := k0; exact DataW.trod_lt m _ _ _ hm
  obtain ⟨A0, c0, l0, rfl, hl0, hC0, hs0⟩ := open_prog (hval 0 23 v0 rfl rfl) h0
  obtain ⟨z0, y0⟩ := hs0 _ _ 0 hsz rfl rfl
  have k1 := h1
  have lt1 : ∀ x ∈ p1, x.block < W.heap.size := by obtain ⟨m, hm⟩ := k1; exact DataW.trod_lt m _ _ _ hm
  obtain ⟨A1, c1, l1, rfl, hl1, hC1, hs1⟩ := open_prog (hval 1 23 v1 rfl rfl) h1
  obtain ⟨z1, y1⟩ := hs1 _ _ 1 hsz rfl rfl
  clear hA0 hval0 hsz0 hsz
  obtain ⟨kk, hkk⟩ := plain_law l0 l1 z0 y0 z1 y1
  refine (narcissuslaw02_CodeBack.calls kk A0 c0 l0 A1 c1 l1 true W hC0 hl0 hC1 hl1 hL hkk).mono ?_
  rintro e W' ⟨rfl, bel⟩
  exact ⟨_, rfl, _, _, _, [], _, [], hW', trodAll_mk1 (shut_bool Tryz.underlying4 _), (trodAll_cons_mk (Below.trod laidOut (by kernel_rfl) (of_decide_eq_true (by kernel_rfl)) k0 bel lt0) (trodAll_cons_mk (Below.trod laidOut (by kernel_rfl) (of_decide_eq_true (by kernel_rfl)) k1 bel lt1) trodAll_mk0)), rfl, bel.frame _, fun h => by cases h⟩

theorem reads (os : Os) {H : Type} (enc : TypeId × Value → H) : ∃ places, DataW.whole enc Tryz.prog ((laidWorld os).forCall (fun _ _ => 0) ⟨#[], #[.slice none 0 0, .slice none 0 0], []⟩).memory Tryz.f6.params.toList Rows.codeBackSpec.vars false (#[.slice none 0 0, .slice none 0 0] : Array Value).toList 8 = some ([.nil, .nil], [], places) :=
  ⟨[], by kernel_rfl⟩

set_option maxRecDepth 100000 in
theorem lifted (os : Os) (started : os.Started) (H : Type) (enc : TypeId × Value → H) (F : Stop.Interp) :
    ReturnsInHanded {} Tryz.checked os 6 .any ((OpenSpec.ofChange Rows.codeBackSpec).preRow enc Tryz.prog Tryz.f6 Rows.codeBackRow.domain false Rows.codeBackRow.laid) (((OpenSpec.ofChange Rows.codeBackSpec).at F).post enc Tryz.prog Tryz.f6 false true false false) := by
  obtain ⟨places, hx⟩ := reads os enc
  have hok : Input.okWideB Tryz.checked.prog ((laidWorld os).forCall (fun _ _ => 0) ⟨#[], #[.slice none 0 0, .slice none 0 0], []⟩) 6 ⟨#[], #[.slice none 0 0, .slice none 0 0], []⟩ = true := by kernel_rfl
  refine returnsInHanded_of_row (C := Tryz.checked) (s := OpenSpec.ofChange Rows.codeBackSpec) own started (by kernel_rfl) Tryz.func6
    ⟨laidWorld os, fun _ _ => 0, ⟨#[], #[.slice none 0 0, .slice none 0 0], []⟩, World.laidAll_os _ _ _, World.shaped_of_ZipB (by kernel_rfl) (by kernel_rfl), (Input.okWide_of_okWideB (base := 0) hok).1, (Input.okWide_of_okWideB hok).2,
      OpenSpec.preRow_of_cond 8 hx (by kernel_rfl) (fun k hk => by cases hk) (by kernel_rfl) (laid_met os _), by
        simp only [Assume.holds]
        exact ⟨by simp, by simp, fun _ => Modest.zero, by simp, by simp⟩⟩ ?_
  intro W base args ds gs before hval hW _ _ hsz hL hsh _
  exact contract H enc W base args ds gs before hval hW hsz (laidW_of hsh hL)

theorem said : Rows.CodeBackSaid :=
  OpenClaim.holds_of_cond 6 Tryz.f6 rfl rfl rfl rfl rfl rfl rfl ⟨rfl, rfl, rfl, rfl, rfl⟩ rfl rfl rfl rfl rfl (by kernel_rfl) Tryz.func6 (by kernel_rfl)
    (of_decide_eq_true (by kernel_rfl)) (by unfold Func.isWrapper; first | (rw [if_pos (by decide +kernel)]; kernel_rfl) | (rw [if_neg (by decide +kernel)]; exact ⟨rfl, rfl⟩))
    (fun os started H enc _ F => by rw [OpenClaim.pre_eq_preRow]; exact lifted os started H enc F)

theorem plain_args (f : FuncId) (fn : Func) (hf : Tryz.pinned.checked.prog.funcNamed "narcissus/narcissuslaw02.CodeBack" = some f) (hfn : Tryz.pinned.checked.prog.funcs[f]? = some fn) :
    true = Tryz.pinned.checked.prog.looks [] ∧ ∀ (j : Nat) t, fn.params[j]? = some t → Tryz.pinned.checked.prog.wantsStandIn t = false := by
  obtain rfl : f = 6 := Option.some.inj ((show Tryz.prog.funcNamed "narcissus/narcissuslaw02.CodeBack" = some 6 by kernel_rfl).symm.trans hf) |>.symm
  obtain rfl : fn = Tryz.f6 := (Option.some.inj (Tryz.func6.symm.trans hfn)).symm
  refine ⟨by kernel_rfl, fun j t ht => ?_⟩
  rw [Tryz.params6] at ht
  have hm : t ∈ [23, 23] := by simpa using Array.mem_of_getElem? ht
  have hall : ([23, 23].all fun u => !Tryz.prog.wantsStandIn u) = true := by kernel_rfl
  exact (show Tryz.prog.wantsStandIn t = false by simpa using List.all_eq_true.1 hall t hm)
end Go.Proofs.YtfckjfoalpkpjaaGreatDoor.CodeBack
namespace Go.Proofs.YtfckjfoalpkpjaaGreatDoor
/-- The card. -/
theorem codeBack_holds : Rows.CodeBackCardSaid :=
  Claim7.holds_tied_plain_at .later [] _ _ _ _ CodeBack.said (fun _ h => by cases h) (by kernel_rfl) (fun _ h => by cases h) codeBack_row_tie rfl ⟨rfl, rfl⟩ (by kernel_rfl) rfl CodeBack.plain_args (by kernel_rfl)
end Go.Proofs.YtfckjfoalpkpjaaGreatDoor
