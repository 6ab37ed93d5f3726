/- For every string: what Decode accepts is the Code of what it returns, what Parse accepts is the Text of what it returns, and both return valid programs. The row lists variables of Go's library with what the program's text lays in them (strconv's two errors and its table of powers of ten, math/bits' and utf8's tables); the card ties them. -/
import Derived.Test.YtfckjfoalpkpjaaDoorQ
import Derived.Test.YtfckjfoalpkpjaaDoorC0
import Derived.Test.YtfckjfoalpkpjaaDoorF3
namespace Go.Proofs.YtfckjfoalpkpjaaDoor.CodeAccepts
open Go.ChangeShapes Go.WideShapes Go.ChangeAt Go.RowKit Go.Proofs.YtfckjfoalpkpjaaDoor.C Go.Proofs.YtfckjfoalpkpjaaDoor.Plain Go.Proofs.YtfckjfoalpkpjaaDoor.Card
open Go.ChangeMaps (open_string shut_string)
set_option linter.unusedVariables false

/-- The plain law: the printed function answers true. -/
theorem plain_law (s : ByteArray) : narcissuslaw02_CodeAccepts.f 2000020 s = some true := by
  have hj : narcissuslaw02_CodeAccepts.j0 2000020 s = some true := by
    rw [show (2000020 : Nat) = 2000019 + 1 from rfl, narcissuslaw02_CodeAccepts.j0]
    rcases parse_tells s 2000019 (by omega) with ⟨p, e, hp, ht, hz⟩ | ⟨e, _⟩
    · rw [e, Option.bind_some, if_pos rfl, text_yes (by omega) hp, if_neg (by rw [← ht, bl_len]; omega), Option.bind_some, if_pos rfl, toL, toL, bl_bs, if_pos ht.symm, validp_yes (by omega) hp, Option.bind_some, if_pos rfl, awake_tells _ (by omega)]
      rfl
    · rw [e, Option.bind_some, if_neg (by decide), awake_tells _ (by omega)]
      rfl
  unfold narcissuslaw02_CodeAccepts.f
  rcases decode_tells s 2000020 (by omega) with ⟨p, e, hp, hc, hz⟩ | ⟨e, _⟩ | ⟨e, _⟩
  · rw [e, Option.bind_some, if_pos rfl, code_yes (by omega) hp, if_neg (by rw [← hc, bl_len]; omega), Option.bind_some, if_pos rfl, toL, toL, bl_bs, if_pos hc.symm, validp_yes (by omega) hp, Option.bind_some, if_pos rfl, hj]
  · rw [e, Option.bind_some, if_neg (by decide), hj]
  · rw [e, Option.bind_some, if_neg (by decide), hj]

set_option maxRecDepth 100000 in
/-- What the row asks, of every argument and every world that holds what is listed. -/
theorem contract (H : Type) (enc : TypeId × Value → H) (W : World) (base : Nat) (args : Array Value) (ds gs : List (DataW H)) (before : List MemPlace)
    (hval0 : ∀ (j : Nat) t v, Tryd.f3.params[j]? = some t → args[j]? = some v → Value.okWide Tryd.prog W .any base t v)
    (hW : DataW.Whole enc Tryd.prog Tryd.f3.params.toList Rows.codeAcceptsSpec.vars false W args.toList ds gs before)
    (hsz0 : (DataW.weightsEach Tryd.prog (Tryd.f3.params.toList ++ Rows.codeAcceptsSpec.plain.varTypes Tryd.prog) (ds ++ gs)).all (· ≤ reachBytes) = true) (hL : LaidW W) :
    Calls Tryd.prog 3 args W fun e W' => ∃ v, e = .returned v ∧ Rows.codeAcceptsSpec.post enc Tryd.prog Tryd.f3 false true false false W args v W' := by
  have hsz : (DataW.weightsEach Tryd.prog (Tryd.f3.params.toList ++ Rows.codeAcceptsSpec.plain.varTypes Tryd.prog) (ds ++ gs)).all (· ≤ reachBytes) = true := hsz0
  have hval : ∀ (j : Nat) t v, Tryd.f3.params[j]? = some t → args[j]? = some v → Value.okWide Tryd.prog W .any base t v := hval0
  have hW' := hW
  obtain ⟨p, q, hA0, hV, rfl, hfz, hnd⟩ := hW
  have hA : DataW.TrodAll enc Tryd.prog W 0 (fun _ => true) true Tryd.f3.params.toList args.toList ds p := hA0
  rw [Tryd.params3] at hA hval hsz
  obtain ⟨v0, vs0, d0, ds0, p0, q0, hargs, rfl, rfl, h0, r0⟩ := trodAll_cons hA
  obtain ⟨rfl, rfl, rfl⟩ := trodAll_nil r0
  obtain rfl : args = #[v0] := by cases args; simp_all
  obtain ⟨rfl, rfl⟩ := trodVars_none hV
  obtain ⟨a0, rfl, rfl, rfl, y0⟩ := open_string Tryd.underlying9 (hval 0 9 v0 rfl rfl) h0
  clear hA0 hval0 hsz0 hsz
  refine (narcissuslaw02_CodeAccepts.calls 2000020 a0 true W hL (plain_law a0)).mono ?_
  rintro e W' ⟨rfl, bel⟩
  exact ⟨_, rfl, _, _, _, [], _, [], hW', trodAll_mk1 (shut_bool Tryd.underlying4 _), (trodAll_cons_mk (shut_string Tryd.underlying9 y0) trodAll_mk0), rfl, bel.frame _, fun h => by cases h⟩

theorem reads (os : Os) {H : Type} (enc : TypeId × Value → H) : ∃ places, DataW.whole enc Tryd.prog ((laidWorld os).forCall (fun _ _ => 0) ⟨#[], #[.string ByteArray.empty], []⟩).memory Tryd.f3.params.toList Rows.codeAcceptsSpec.vars false #[Value.string ByteArray.empty].toList 8 = some ([.lit (.string [])], [], places) :=
  ⟨[], by kernel_rfl⟩

set_option maxRecDepth 100000 in
theorem lifted (os : Os) (started : os.Started) (H : Type) (enc : TypeId × Value → H) (F : Stop.Interp) :
    ReturnsInHanded {} Tryd.checked os 3 .any ((OpenSpec.ofChange Rows.codeAcceptsSpec).preRow enc Tryd.prog Tryd.f3 Rows.codeAcceptsRow.domain false Rows.codeAcceptsRow.laid) (((OpenSpec.ofChange Rows.codeAcceptsSpec).at F).post enc Tryd.prog Tryd.f3 false true false false) := by
  obtain ⟨places, hx⟩ := reads os enc
  have hok : Input.okWideB Tryd.checked.prog ((laidWorld os).forCall (fun _ _ => 0) ⟨#[], #[.string ByteArray.empty], []⟩) 3 ⟨#[], #[.string ByteArray.empty], []⟩ = true := by kernel_rfl
  refine returnsInHanded_of_row (C := Tryd.checked) (s := OpenSpec.ofChange Rows.codeAcceptsSpec) own started (by kernel_rfl) Tryd.func3
    ⟨laidWorld os, fun _ _ => 0, ⟨#[], #[.string ByteArray.empty], []⟩, World.laidAll_os _ _ _, World.shaped_of_ZipB (by kernel_rfl) (by kernel_rfl), (Input.okWide_of_okWideB (base := 0) hok).1, (Input.okWide_of_okWideB hok).2,
      OpenSpec.preRow_of_cond 8 hx (by kernel_rfl) (fun k hk => by cases hk) (by kernel_rfl) (laid_met os _), by
        simp only [Assume.holds]
        exact ⟨by simp, by simp, fun _ => Modest.zero, by simp, by simp⟩⟩ ?_
  intro W base args ds gs before hval hW _ _ hsz hL hsh _
  exact contract H enc W base args ds gs before hval hW hsz (laidW_of hsh hL)

theorem said : Rows.CodeAcceptsSaid :=
  OpenClaim.holds_of_cond 3 Tryd.f3 rfl rfl rfl rfl rfl rfl rfl ⟨rfl, rfl, rfl, rfl, rfl⟩ rfl rfl rfl rfl rfl (by kernel_rfl) Tryd.func3 (by kernel_rfl)
    (of_decide_eq_true (by kernel_rfl)) (by unfold Func.isWrapper; first | (rw [if_pos (by decide +kernel)]; kernel_rfl) | (rw [if_neg (by decide +kernel)]; exact ⟨rfl, rfl⟩))
    (fun os started H enc _ F => by rw [OpenClaim.pre_eq_preRow]; exact lifted os started H enc F)

theorem plain_args (f : FuncId) (fn : Func) (hf : Tryd.pinned.checked.prog.funcNamed "narcissus/narcissuslaw02.CodeAccepts" = some f) (hfn : Tryd.pinned.checked.prog.funcs[f]? = some fn) :
    true = Tryd.pinned.checked.prog.looks [] ∧ ∀ (j : Nat) t, fn.params[j]? = some t → Tryd.pinned.checked.prog.wantsStandIn t = false := by
  obtain rfl : f = 3 := Option.some.inj ((show Tryd.prog.funcNamed "narcissus/narcissuslaw02.CodeAccepts" = some 3 by kernel_rfl).symm.trans hf) |>.symm
  obtain rfl : fn = Tryd.f3 := (Option.some.inj (Tryd.func3.symm.trans hfn)).symm
  refine ⟨by kernel_rfl, fun j t ht => ?_⟩
  rw [Tryd.params3] at ht
  have hm : t ∈ [9] := by simpa using Array.mem_of_getElem? ht
  have hall : ([9].all fun u => !Tryd.prog.wantsStandIn u) = true := by kernel_rfl
  exact (show Tryd.prog.wantsStandIn t = false by simpa using List.all_eq_true.1 hall t hm)
end Go.Proofs.YtfckjfoalpkpjaaDoor.CodeAccepts
namespace Go.Proofs.YtfckjfoalpkpjaaDoor
/-- The card. -/
theorem codeAccepts_holds : Rows.CodeAcceptsCardSaid :=
  Claim7.holds_tied_plain_at .later [] _ _ _ _ CodeAccepts.said (fun _ h => by cases h) (by kernel_rfl) (fun _ h => by cases h) codeAccepts_row_tie rfl ⟨rfl, rfl⟩ (by kernel_rfl) rfl CodeAccepts.plain_args (by kernel_rfl)
end Go.Proofs.YtfckjfoalpkpjaaDoor
