/- Texts of this claim, together: what the functions return, and what they say in plain words. -/
import Derived.Test.YtpnmmpfidiegcaaUM
import Derived.Test.YtpnmmpfidiegcaaUJ
import Derived.Test.YtpnmmpfidiegcaaRows
import Derived.Test.YtpnmmpfidiegcaaUB
import Derived.WalkKit
import Derived.ProofKit
import Derived.OpenShut
import Derived.ShutString
import Derived.ChangeOld
import Derived.Below
import Derived.SizedLaws
import Derived.Deep.DeepHandedRow
import Derived.Lib.LaidTab
import Derived.Stop.LaidErr
import Derived.Shelf.Vars
import Derived.Lay
section
namespace Go.Proofs.Ytpnmmpfidiegcaa.C
open Go.RowKit Go.Proofs.YtpnmmpfidiegcaaW.PrintWords Go.Proofs.YtpnmmpfidiegcaaW.PrintLast Go.Proofs.YtpnmmpfidiegcaaW.PrintMore
open Go.Proofs.Ytpnmmpfidiegcaa.Plain (univ)
set_option linter.unusedVariables false
set_option linter.unusedSimpArgs false
def u0 : US := ⟨[], .map [], .map [], 0, 0⟩
def uAll : US := (((uCount uU7 (((uCount uU6 (((uCount uNext ((((((uStore (((uNext (((uFetch 8 ((uKind uU5 ⟨#[115, 116, 111, 114, 101]⟩ (uKind uU4 ⟨#[115, 116, 111, 114, 101]⟩ (uKind uU3 ⟨#[115, 116, 111, 114, 101]⟩ (uKind uU2 ⟨#[115, 116, 111, 114, 101]⟩ (uKind uU1 ⟨#[115, 116, 111, 114, 101]⟩ (((((((((((((((u0.ins ⟨3, 1, 0, 0, ⟨#[]⟩⟩).ins ⟨4, 8, 0, 0, ⟨#[]⟩⟩).ins ⟨1, 2, 1, 0, ⟨#[]⟩⟩).ins ⟨2, 4, 8, 4, ⟨#[]⟩⟩).ins ⟨0, 14, 0, 0, ⟨#[49, 48, 48]⟩⟩).here ⟨#[108, 111, 111, 112]⟩).jmp 2 ⟨#[103, 111]⟩).ins ⟨3, 0, 4, 0, ⟨#[]⟩⟩).jmp 14 ⟨#[101, 110, 100]⟩).here ⟨#[103, 111]⟩).ins ⟨3, 13, 2, 0, ⟨#[]⟩⟩).ins ⟨3, 5, 13, 0, ⟨#[]⟩⟩).ins ⟨4, 6, 13, 0, ⟨#[]⟩⟩).ins ⟨3, 7, 6, 0, ⟨#[]⟩⟩).ins ⟨4, 6, 6, 0, ⟨#[]⟩⟩)))))).ins ⟨1, 10, 7, 0, ⟨#[]⟩⟩)).jmp 8 ⟨#[116, 97, 107, 101, 110]⟩).here ⟨#[110, 101, 120, 116]⟩)).jmp 14 ⟨#[108, 111, 111, 112]⟩).here ⟨#[115, 116, 111, 114, 101]⟩)).jmp 14 ⟨#[110, 101, 120, 116]⟩).here ⟨#[116, 97, 107, 101, 110]⟩).ins ⟨3, 13, 6, 0, ⟨#[]⟩⟩).ins ⟨4, 10, 6, 0, ⟨#[]⟩⟩).jmp 13 ⟨#[98, 97, 99, 107]⟩)).jmp 14 ⟨#[108, 111, 111, 112]⟩).here ⟨#[98, 97, 99, 107]⟩)).ins ⟨1, 2, 1, 0, ⟨#[]⟩⟩).ins ⟨1, 10, 3, 0, ⟨#[]⟩⟩)).jmp 14 ⟨#[108, 111, 111, 112]⟩).here ⟨#[101, 110, 100]⟩)
def jumpsU : List (Nat × ByteArray × Int) := [(5, ⟨#[103, 111]⟩, 8), (7, ⟨#[101, 110, 100]⟩, 129), (13, ⟨#[46, 98, 97]⟩, 16), (15, ⟨#[115, 116, 111, 114, 101]⟩, 85), (17, ⟨#[46, 99, 97]⟩, 27), (20, ⟨#[46, 101, 97]⟩, 22), (21, ⟨#[46, 102, 97]⟩, 25), (24, ⟨#[46, 100, 97]⟩, 20), (26, ⟨#[115, 116, 111, 114, 101]⟩, 85), (28, ⟨#[46, 103, 97]⟩, 47), (31, ⟨#[46, 105, 97]⟩, 33), (32, ⟨#[46, 106, 97]⟩, 36), (35, ⟨#[46, 104, 97]⟩, 31), (39, ⟨#[46, 108, 97]⟩, 41), (40, ⟨#[46, 109, 97]⟩, 44), (43, ⟨#[46, 107, 97]⟩, 39), (46, ⟨#[115, 116, 111, 114, 101]⟩, 85), (48, ⟨#[46, 110, 97]⟩, 59), (51, ⟨#[46, 112, 97]⟩, 53), (52, ⟨#[46, 113, 97]⟩, 56), (55, ⟨#[46, 111, 97]⟩, 51), (58, ⟨#[115, 116, 111, 114, 101]⟩, 85), (60, ⟨#[46, 114, 97]⟩, 71), (63, ⟨#[46, 116, 97]⟩, 65), (64, ⟨#[46, 117, 97]⟩, 68), (67, ⟨#[46, 115, 97]⟩, 63), (70, ⟨#[115, 116, 111, 114, 101]⟩, 85), (74, ⟨#[46, 119, 97]⟩, 76), (75, ⟨#[46, 120, 97]⟩, 79), (78, ⟨#[46, 118, 97]⟩, 74), (80, ⟨#[116, 97, 107, 101, 110]⟩, 105), (84, ⟨#[108, 111, 111, 112]⟩, 5), (88, ⟨#[46, 122, 97]⟩, 90), (89, ⟨#[46, 97, 98]⟩, 95), (94, ⟨#[46, 121, 97]⟩, 88), (97, ⟨#[46, 99, 98]⟩, 99), (98, ⟨#[46, 100, 98]⟩, 103), (102, ⟨#[46, 98, 98]⟩, 97), (104, ⟨#[110, 101, 120, 116]⟩, 81), (107, ⟨#[98, 97, 99, 107]⟩, 116), (108, ⟨#[46, 102, 98]⟩, 110), (109, ⟨#[46, 103, 98]⟩, 115), (114, ⟨#[46, 101, 98]⟩, 108), (115, ⟨#[108, 111, 111, 112]⟩, 5), (116, ⟨#[46, 105, 98]⟩, 118), (117, ⟨#[46, 106, 98]⟩, 121), (120, ⟨#[46, 104, 98]⟩, 116), (123, ⟨#[46, 108, 98]⟩, 125), (124, ⟨#[46, 109, 98]⟩, 128), (127, ⟨#[46, 107, 98]⟩, 123), (128, ⟨#[108, 111, 111, 112]⟩, 5)]
def placesU : List (ByteArray × Int) := [(⟨#[46, 97, 98]⟩, 95), (⟨#[46, 98, 97]⟩, 16), (⟨#[46, 98, 98]⟩, 97), (⟨#[46, 99, 97]⟩, 27), (⟨#[46, 99, 98]⟩, 99), (⟨#[46, 100, 97]⟩, 20), (⟨#[46, 100, 98]⟩, 103), (⟨#[46, 101, 97]⟩, 22), (⟨#[46, 101, 98]⟩, 108), (⟨#[46, 102, 97]⟩, 25), (⟨#[46, 102, 98]⟩, 110), (⟨#[46, 103, 97]⟩, 47), (⟨#[46, 103, 98]⟩, 115), (⟨#[46, 104, 97]⟩, 31), (⟨#[46, 104, 98]⟩, 116), (⟨#[46, 105, 97]⟩, 33), (⟨#[46, 105, 98]⟩, 118), (⟨#[46, 106, 97]⟩, 36), (⟨#[46, 106, 98]⟩, 121), (⟨#[46, 107, 97]⟩, 39), (⟨#[46, 107, 98]⟩, 123), (⟨#[46, 108, 97]⟩, 41), (⟨#[46, 108, 98]⟩, 125), (⟨#[46, 109, 97]⟩, 44), (⟨#[46, 109, 98]⟩, 128), (⟨#[46, 110, 97]⟩, 59), (⟨#[46, 111, 97]⟩, 51), (⟨#[46, 112, 97]⟩, 53), (⟨#[46, 113, 97]⟩, 56), (⟨#[46, 114, 97]⟩, 71), (⟨#[46, 115, 97]⟩, 63), (⟨#[46, 116, 97]⟩, 65), (⟨#[46, 117, 97]⟩, 68), (⟨#[46, 118, 97]⟩, 74), (⟨#[46, 119, 97]⟩, 76), (⟨#[46, 120, 97]⟩, 79), (⟨#[46, 121, 97]⟩, 88), (⟨#[46, 122, 97]⟩, 90), (⟨#[98, 97, 99, 107]⟩, 116), (⟨#[101, 110, 100]⟩, 129), (⟨#[103, 111]⟩, 8), (⟨#[108, 111, 111, 112]⟩, 5), (⟨#[110, 101, 120, 116]⟩, 81), (⟨#[115, 116, 111, 114, 101]⟩, 85), (⟨#[116, 97, 107, 101, 110]⟩, 105)]
theorem uAll_E : uAll.E = .map (jumpsU.map fun t => (.int .i64 (t.1 : Int), .lit (.string t.2.1.data.toList))) := by kernel_rfl
theorem uAll_D : uAll.D = .map (placesU.map fun t => (.string t.1.data.toList, .lit (.int .i64 t.2))) := by kernel_rfl
theorem univ_linked : univ = uAll.p.mapIdx (fun j y => match jumpsU.find? (fun t => t.1 == j) with | some t => ⟨y.f0, y.f1, t.2.2 - (j : Int), y.f3, y.f4⟩ | none => y) := by kernel_rfl
theorem uAll_len : uAll.p.length = 129 := by kernel_rfl
theorem jumps_ok : ∀ t ∈ jumpsU, t.1 < 129 ∧ t.2.1.size ≤ 1000000 ∧ jumpsU.find? (fun u => u.1 == t.1) = some t ∧ placesU.find? (fun d => d.1.data.toList == t.2.1.data.toList) = some (t.2.1, t.2.2) ∧ -1000 ≤ t.2.2 ∧ t.2.2 ≤ 1000 := by decide +kernel
theorem find_key (x : Int) : ∀ l : List (Nat × ByteArray × Int), (l.map fun t => ((Lit.int .i64 (t.1 : Int)), (DataW.lit (.string t.2.1.data.toList) : Dm))).find? (fun p => p.1.sameKey (.int .i64 x)) = (l.find? fun t => decide ((t.1 : Int) = x)).map fun t => ((Lit.int .i64 (t.1 : Int)), (DataW.lit (.string t.2.1.data.toList) : Dm))
  | [] => rfl
  | t :: l => by
    rw [List.map_cons, List.find?_cons, List.find?_cons, find_key x l]
    have e : (Lit.int .i64 (t.1 : Int)).sameKey (.int .i64 x) = decide ((t.1 : Int) = x) := by simp [Lit.sameKey]
    dsimp only
    rw [e]
    cases decide ((t.1 : Int) = x) <;> rfl
theorem find_name (s : List UInt8) : ∀ l : List (ByteArray × Int), (l.map fun t => ((Lit.string t.1.data.toList), (DataW.lit (.int .i64 t.2) : Dm))).find? (fun p => p.1.sameKey (.string s)) = (l.find? fun t => t.1.data.toList == s).map fun t => ((Lit.string t.1.data.toList), (DataW.lit (.int .i64 t.2) : Dm))
  | [] => rfl
  | t :: l => by
    rw [List.map_cons, List.find?_cons, List.find?_cons, find_name s l]
    have e : (Lit.string t.1.data.toList).sameKey (.string s) = (t.1.data.toList == s) := rfl
    dsimp only
    rw [e]
    cases (t.1.data.toList == s) <;> rfl
set_option maxRecDepth 100000 in
theorem linked_u : Linked uAll.p univ uAll.D uAll.E := by
  have hlen : univ.length = uAll.p.length := by rw [univ_linked, List.length_mapIdx]
  have hat : ∀ (j : Nat) (h' : j < univ.length) (h : j < uAll.p.length), univ[j] = match jumpsU.find? (fun t => t.1 == j) with | some t => ⟨uAll.p[j].f0, uAll.p[j].f1, t.2.2 - (j : Int), uAll.p[j].f3, uAll.p[j].f4⟩ | none => uAll.p[j] := fun j h' h => by
    have e : univ[j]? = _ := congrArg (fun l => l[j]?) univ_linked
    rw [List.getElem?_eq_getElem h', List.getElem?_mapIdx, List.getElem?_eq_getElem h] at e
    exact Option.some.inj e
  refine ⟨hlen, fun x hx => ?_, fun j h h' hh => ?_⟩
  · rw [uAll_E, Maps.has_eq, List.any_eq_true] at hx
    obtain ⟨e, he, hk⟩ := hx
    obtain ⟨t, ht, rfl⟩ := List.mem_map.1 he
    have hxt : x = (t.1 : Int) := by
      have : decide (IntKind.i64 = IntKind.i64 ∧ (t.1 : Int) = x) = true := hk
      exact (of_decide_eq_true this).2.symm
    obtain ⟨o1, o2, o3, o4, o5, o6⟩ := jumps_ok t ht
    refine ⟨t.1, t.2.1, t.2.2, hxt, by rw [uAll_len]; exact o1, o2, fun zd => ?_, ?_, o5, o6, fun h h' => ?_⟩
    · have o3' : jumpsU.find? (fun u => decide ((u.1 : Int) = x)) = some t := by
        rw [← o3]
        congr 1
        funext u
        rw [hxt]
        rw [show (u.1 == t.1) = decide (u.1 = t.1) from rfl]
        exact decide_eq_decide.2 ⟨fun h => by omega, fun h => by omega⟩
      rw [uAll_E, DataW.atKey, find_key, o3']
      rfl
    · rw [uAll_D, DataW.atKey, find_name, o4]
      rfl
    · exact (hat t.1 h' h).trans (by rw [o3])
  · refine (hat j h' h).trans ?_
    cases hf : jumpsU.find? (fun t => t.1 == j) with
    | none => rfl
    | some t =>
      have h1 := List.mem_of_find?_eq_some hf
      have h2 := List.find?_some hf
      rw [uAll_E, Maps.has_eq] at hh
      have h3 : ((jumpsU.map fun t => ((Lit.int .i64 (t.1 : Int)), (DataW.lit (.string t.2.1.data.toList) : Dm))).any fun p => p.1.sameKey (.int .i64 (j : Int))) = true := List.any_eq_true.2 ⟨_, List.mem_map.2 ⟨t, h1, rfl⟩, by
        have : t.1 = j := by simpa using h2
        subst this
        simp [Lit.sameKey]⟩
      rw [h3] at hh
      cases hh
theorem done_u {B : Nat} {w : World} {wb aw bm bf k : Nat} (h : IsU B w wb aw bm bf uAll k) :
    Calls Try.prog 35 #[.pointer (some ⟨aw, 0, none⟩)] w fun e w' => ∃ v, e = .returned v ∧ Kd.R k52 52 w' B (fun _ => True) v univ ∧ Below B w w' :=
  Done_calls h.2.1 (by rw [uAll_len]; decide) linked_u
theorem begin_u {w w0 : World} {aw bm bf : Nat} (hA : IsA w.heap.size w0 aw bm bf 0 [] (.map []) (.map [])) (hbl : Below w.heap.size w w0) :
    IsU w.heap.size ((w0.alloc (.cells #[.pointer (some ⟨aw, 0, none⟩), .int .i64 0] 42)).alloc (.cells #[.pointer (some ⟨w0.heap.size, 0, none⟩)] 38)) w0.heap.size aw bm bf ⟨[], .map [], .map [], 0, 0⟩ 500 ∧
    Box ((w0.alloc (.cells #[.pointer (some ⟨aw, 0, none⟩), .int .i64 0] 42)).alloc (.cells #[.pointer (some ⟨w0.heap.size, 0, none⟩)] 38)) (w0.heap.size + 1) w0.heap.size ∧
    Below w.heap.size w ((w0.alloc (.cells #[.pointer (some ⟨aw, 0, none⟩), .int .i64 0] 42)).alloc (.cells #[.pointer (some ⟨w0.heap.size, 0, none⟩)] 38)) := by
  have e1 : (w0.alloc (.cells #[.pointer (some ⟨aw, 0, none⟩), .int .i64 0] 42)).heap.size = w0.heap.size + 1 := by simp
  have hb1 := blk_new w0 (.cells #[.pointer (some ⟨aw, 0, none⟩), .int .i64 0] 42 (0, 0))
  have hb2 := blk_new (w0.alloc (.cells #[.pointer (some ⟨aw, 0, none⟩), .int .i64 0] 42)) (.cells #[.pointer (some ⟨w0.heap.size, 0, none⟩)] 38 (0, 0))
  rw [e1] at hb2
  have ha1 := below_alloc (Below.refl _ w0) (.cells #[.pointer (some ⟨aw, 0, none⟩), .int .i64 0] 42 (0, 0))
  have ha2 := below_alloc ha1 (.cells #[.pointer (some ⟨w0.heap.size, 0, none⟩)] 38 (0, 0))
  exact ⟨⟨((below_alloc (Below.refl _ _) (.cells #[.pointer (some ⟨w0.heap.size, 0, none⟩)] 38 (0, 0))).block _ (blk_lt hb1)).trans hb1, hA.below ha2, hbl.size, by decide, by decide, by decide⟩, hb2, below_then hbl hbl.size ha2⟩
set_option maxHeartbeats 64000000 in
set_option maxRecDepth 100000 in
theorem Universal_calls (w : World) : Calls Try.prog 4 #[] w fun e w' => ∃ v, e = .returned v ∧ Kd.R k52 52 w' w.heap.size (fun _ => True) v univ ∧ Below w.heap.size w w' := by
  go_enter Try.func4, Try.ntmps4
  go_wp2_with (first | (go_at_call 14; (with_reducible refine (New_calls (B := w.heap.size) _ (by simp)).mono ?_); rintro e w0 ⟨aw, bm, bf, rfl, hA, hbl⟩; obtain ⟨hu, hx, hb⟩ := begin_u hA hbl; have HU := Aside0.mk hu; have HX := Aside0.mk hx; have HK := Aside0.mk (BU.refl ((w0.alloc (.cells #[.pointer (some ⟨aw, 0, none⟩), .int .i64 0] 42)).alloc (.cells #[.pointer (some ⟨w0.heap.size, 0, none⟩)] 38))); have HB := Aside0.mk hb; have cw := hu.c0; have cb := hx.c0; clear hA hbl hu hx hb) | (go_at_call 35; refine (done_u (wb := w0.heap.size) (bm := bm) (bf := bf) HU.out).mono ?_; rintro e w2 ⟨v, rfl, hR, hb⟩; have HR := Aside0.mk hR; have HBF := Aside0.mk (HB.out.trans hb); clear hR hb) | (go_at_call 15; (with_reducible refine (u_head HU.out _ _).mono ?_); rintro e w1 ⟨rfl, hu, hbk, hbl⟩; have HU := Aside0.mk hu; have HK := Aside0.mk (HK.out.trans hbk); have HB := Aside0.mk (HB.out.trans hbl); replace cw := hu.c0; have HX := Aside0.mk (HX.out.on hbk); replace cb := HX.out.c0; (try have HG := Aside0.mk (HG.out.on hbk)); (try replace cg := HG.out.c0); clear hu hbk hbl) | (go_at_call 16; (with_reducible refine (u_tail HU.out _ _).mono ?_); rintro e w1 ⟨rfl, hu, hbk, hbl⟩; have HU := Aside0.mk hu; have HK := Aside0.mk (HK.out.trans hbk); have HB := Aside0.mk (HB.out.trans hbl); replace cw := hu.c0; have HX := Aside0.mk (HX.out.on hbk); replace cb := HX.out.c0; (try have HG := Aside0.mk (HG.out.on hbk)); (try replace cg := HG.out.c0); clear hu hbk hbl) | (go_at_call 17; (with_reducible refine (u_move HU.out _ _).mono ?_); rintro e w1 ⟨rfl, hu, hbk, hbl⟩; have HU := Aside0.mk hu; have HK := Aside0.mk (HK.out.trans hbk); have HB := Aside0.mk (HB.out.trans hbl); replace cw := hu.c0; have HX := Aside0.mk (HX.out.on hbk); replace cb := HX.out.c0; (try have HG := Aside0.mk (HG.out.on hbk)); (try replace cg := HG.out.c0); clear hu hbk hbl) | (go_at_call 18; (with_reducible refine (u_cons HU.out _ _ _).mono ?_); rintro e w1 ⟨rfl, hu, hbk, hbl⟩; have HU := Aside0.mk hu; have HK := Aside0.mk (HK.out.trans hbk); have HB := Aside0.mk (HB.out.trans hbl); replace cw := hu.c0; have HX := Aside0.mk (HX.out.on hbk); replace cb := HX.out.c0; (try have HG := Aside0.mk (HG.out.on hbk)); (try replace cg := HG.out.c0); clear hu hbk hbl) | (go_at_call 19; (with_reducible refine (u_set HU.out _ _).mono ?_); rintro e w1 ⟨rfl, hu, hbk, hbl⟩; have HU := Aside0.mk hu; have HK := Aside0.mk (HK.out.trans hbk); have HB := Aside0.mk (HB.out.trans hbl); replace cw := hu.c0; have HX := Aside0.mk (HX.out.on hbk); replace cb := HX.out.c0; (try have HG := Aside0.mk (HG.out.on hbk)); (try replace cg := HG.out.c0); clear hu hbk hbl) | (go_at_call 20; (with_reducible refine (u_here HU.out _ (by first | exact nmS_size _ | decide)).mono ?_); rintro e w1 ⟨rfl, hu, hbk, hbl⟩; have HU := Aside0.mk hu; have HK := Aside0.mk (HK.out.trans hbk); have HB := Aside0.mk (HB.out.trans hbl); replace cw := hu.c0; have HX := Aside0.mk (HX.out.on hbk); replace cb := HX.out.c0; (try have HG := Aside0.mk (HG.out.on hbk)); (try replace cg := HG.out.c0); clear hu hbk hbl) | (go_at_call 21; (with_reducible refine (u_jump HU.out _ _ (by first | exact nmS_size _ | decide)).mono ?_); rintro e w1 ⟨rfl, hu, hbk, hbl⟩; have HU := Aside0.mk hu; have HK := Aside0.mk (HK.out.trans hbk); have HB := Aside0.mk (HB.out.trans hbl); replace cw := hu.c0; have HX := Aside0.mk (HX.out.on hbk); replace cb := HX.out.c0; (try have HG := Aside0.mk (HG.out.on hbk)); (try replace cg := HG.out.c0); clear hu hbk hbl) | (go_at_call 22; (with_reducible refine (u_leap _ (by first | exact nmS_size _ | decide) HU.out).mono ?_); rintro e w1 ⟨rfl, hu, hbk, hbl⟩; have HU := Aside0.mk hu; have HK := Aside0.mk (HK.out.trans hbk); have HB := Aside0.mk (HB.out.trans hbl); replace cw := hu.c0; have HX := Aside0.mk (HX.out.on hbk); replace cb := HX.out.c0; (try have HG := Aside0.mk (HG.out.on hbk)); (try replace cg := HG.out.c0); clear hu hbk hbl) | (go_at_call 26; (with_reducible refine (u_fetch _ HU.out).mono ?_); rintro e w1 ⟨rfl, hu, hbk, hbl⟩; have HU := Aside0.mk hu; have HK := Aside0.mk (HK.out.trans hbk); have HB := Aside0.mk (HB.out.trans hbl); replace cw := hu.c0; have HX := Aside0.mk (HX.out.on hbk); replace cb := HX.out.c0; (try have HG := Aside0.mk (HG.out.on hbk)); (try replace cg := HG.out.c0); clear hu hbk hbl) | (go_at_call 30; (with_reducible refine (u_next HU.out).mono ?_); rintro e w1 ⟨rfl, hu, hbk, hbl⟩; have HU := Aside0.mk hu; have HK := Aside0.mk (HK.out.trans hbk); have HB := Aside0.mk (HB.out.trans hbl); replace cw := hu.c0; have HX := Aside0.mk (HX.out.on hbk); replace cb := HX.out.c0; (try have HG := Aside0.mk (HG.out.on hbk)); (try replace cg := HG.out.c0); clear hu hbk hbl) | (go_at_call 31; (with_reducible refine (u_store HU.out).mono ?_); rintro e w1 ⟨rfl, hu, hbk, hbl⟩; have HU := Aside0.mk hu; have HK := Aside0.mk (HK.out.trans hbk); have HB := Aside0.mk (HB.out.trans hbl); replace cw := hu.c0; have HX := Aside0.mk (HX.out.on hbk); replace cb := HX.out.c0; (try have HG := Aside0.mk (HG.out.on hbk)); (try replace cg := HG.out.c0); clear hu hbk hbl) | (go_at_call 23; (with_reducible refine (u_kind1 _ (by first | exact nmS_size _ | decide) HU.out HX.out).mono ?_); rintro e w1 ⟨rfl, hu, hbk, hbl⟩; have HG : Aside0 (Gox (w1.alloc (.cells #[.func (.func 25) #[] #[.pointer (some ⟨w0.heap.size + 1, 0, none⟩)]] 1 (0, 0))) w1.heap.size (w0.heap.size + 1)) := ⟨blk_new w1 (.cells #[.func (.func 25) #[] #[.pointer (some ⟨w0.heap.size + 1, 0, none⟩)]] 1 (0, 0))⟩; have HX := Aside0.mk ((HX.out.on hbk).on (BU.alloc w1 (.cells #[.func (.func 25) #[] #[.pointer (some ⟨w0.heap.size + 1, 0, none⟩)]] 1 (0, 0)))); have HK := Aside0.mk ((HK.out.trans hbk).trans (BU.alloc w1 (.cells #[.func (.func 25) #[] #[.pointer (some ⟨w0.heap.size + 1, 0, none⟩)]] 1 (0, 0)))); have HB := Aside0.mk ((HB.out.trans hbl).alloc (bel_size hu.1 hu.2.2.1) (.cells #[.func (.func 25) #[] #[.pointer (some ⟨w0.heap.size + 1, 0, none⟩)]] 1 (0, 0))); have HU := Aside0.mk (hu.alloc (.cells #[.func (.func 25) #[] #[.pointer (some ⟨w0.heap.size + 1, 0, none⟩)]] 1 (0, 0))); replace cw := HU.out.c0; replace cb := HX.out.c0; have cg := HG.out.c0; clear hu hbk hbl) | (go_at_call 23; (with_reducible refine (u_kind2 _ (by first | exact nmS_size _ | decide) HU.out HX.out).mono ?_); rintro e w1 ⟨rfl, hu, hbk, hbl⟩; have HU := Aside0.mk hu; have HK := Aside0.mk (HK.out.trans hbk); have HB := Aside0.mk (HB.out.trans hbl); replace cw := hu.c0; have HX := Aside0.mk (HX.out.on hbk); replace cb := HX.out.c0; (try have HG := Aside0.mk (HG.out.on hbk)); (try replace cg := HG.out.c0); clear hu hbk hbl) | (go_at_call 23; (with_reducible refine (u_kind3 _ (by first | exact nmS_size _ | decide) HU.out HX.out).mono ?_); rintro e w1 ⟨rfl, hu, hbk, hbl⟩; have HU := Aside0.mk hu; have HK := Aside0.mk (HK.out.trans hbk); have HB := Aside0.mk (HB.out.trans hbl); replace cw := hu.c0; have HX := Aside0.mk (HX.out.on hbk); replace cb := HX.out.c0; (try have HG := Aside0.mk (HG.out.on hbk)); (try replace cg := HG.out.c0); clear hu hbk hbl) | (go_at_call 23; (with_reducible refine (u_kind4 _ (by first | exact nmS_size _ | decide) HU.out HX.out HG.out).mono ?_); rintro e w1 ⟨rfl, hu, hbk, hbl⟩; have HU := Aside0.mk hu; have HK := Aside0.mk (HK.out.trans hbk); have HB := Aside0.mk (HB.out.trans hbl); replace cw := hu.c0; have HX := Aside0.mk (HX.out.on hbk); replace cb := HX.out.c0; (try have HG := Aside0.mk (HG.out.on hbk)); (try replace cg := HG.out.c0); clear hu hbk hbl) | (go_at_call 23; (with_reducible refine (u_kind5 _ (by first | exact nmS_size _ | decide) HU.out HX.out HG.out).mono ?_); rintro e w1 ⟨rfl, hu, hbk, hbl⟩; have HU := Aside0.mk hu; have HK := Aside0.mk (HK.out.trans hbk); have HB := Aside0.mk (HB.out.trans hbl); replace cw := hu.c0; have HX := Aside0.mk (HX.out.on hbk); replace cb := HX.out.c0; (try have HG := Aside0.mk (HG.out.on hbk)); (try replace cg := HG.out.c0); clear hu hbk hbl) | (go_at_call 32; (with_reducible refine (u_countN HU.out).mono ?_); rintro e w1 ⟨rfl, hu, hbk, hbl⟩; have HU := Aside0.mk hu; have HK := Aside0.mk (HK.out.trans hbk); have HB := Aside0.mk (HB.out.trans hbl); replace cw := hu.c0; have HX := Aside0.mk (HX.out.on hbk); replace cb := HX.out.c0; (try have HG := Aside0.mk (HG.out.on hbk)); (try replace cg := HG.out.c0); clear hu hbk hbl) | (go_at_call 32; (with_reducible refine (u_count6 HU.out HX.out).mono ?_); rintro e w1 ⟨rfl, hu, hbk, hbl⟩; have HU := Aside0.mk hu; have HK := Aside0.mk (HK.out.trans hbk); have HB := Aside0.mk (HB.out.trans hbl); replace cw := hu.c0; have HX := Aside0.mk (HX.out.on hbk); replace cb := HX.out.c0; (try have HG := Aside0.mk (HG.out.on hbk)); (try replace cg := HG.out.c0); clear hu hbk hbl) | (go_at_call 32; (with_reducible refine (u_count7 HU.out HX.out).mono ?_); rintro e w1 ⟨rfl, hu, hbk, hbl⟩; have HU := Aside0.mk hu; have HK := Aside0.mk (HK.out.trans hbk); have HB := Aside0.mk (HB.out.trans hbl); replace cw := hu.c0; have HX := Aside0.mk (HX.out.on hbk); replace cb := HX.out.c0; (try have HG := Aside0.mk (HG.out.on hbk)); (try replace cg := HG.out.c0); clear hu hbk hbl))
  go_ret
  exact ⟨_, rfl, HR.out, HBF.out⟩
end Go.Proofs.Ytpnmmpfidiegcaa.C
end
section
namespace Go.Proofs.Ytpnmmpfidiegcaa.C
open Go.RowKit Go.Proofs.YtpnmmpfidiegcaaW.PrintWords Go.Proofs.YtpnmmpfidiegcaaW.PrintLast Go.Proofs.YtpnmmpfidiegcaaW.PrintMore
open Go.Proofs.Ytpnmmpfidiegcaa.Plain (totN tot_init reg_tot Tr Rg OKP after init runM codeT univ dec okp_iff Right univ_ends univ_lasts Calm)
set_option linter.unusedVariables false
set_option linter.unusedSimpArgs false
def FitsU (p : Prg) : Prop := p.length * 48 ≤ 140737488351232 ∧ ∀ i ∈ p, i.f4.size ≤ 140737488351232
theorem universal_yes (w : World) : Calls Try.prog 4 #[] w fun e w' => ∃ A c, e = .returned (.slice A 129 c) ∧ 129 ≤ c ∧ Kd.C k52 w' A 129 univ ∧ Below w.heap.size w w' := by
  refine (Universal_calls w).mono ?_
  rintro e w' ⟨v, rfl, hR, hb⟩
  obtain ⟨A, c, ev, hcap, hC⟩ := Kd.R_reads hR
  rw [show univ.length = 129 from rfl] at ev hcap hC
  exact ⟨A, c, by rw [ev], hcap, hC, hb⟩
theorem goodp_okp {p : Prg} {a b : Nat} (h : GoodP p a b) (ha : a ≤ 4000) (hb : b ≤ 2000000) : OKP p := okp_iff.2 ⟨by have := h.1; omega, by have := h.2.1; omega, h.2.2⟩
def Yes (w : World) (e : Ending) (w' : World) : Prop := e = .returned (.bool true) ∧ Below w.heap.size w w'
set_option maxHeartbeats 2000000 in
theorem univ_out (A : Option Addr) (c m : Nat) (p : Prg) (x : ByteArray) (w : World) (hm : p.length = m) (hC : Kd.C k52 w A m p) (hf : FitsU p) (h : ¬ GoodP p 200 5000 ∨ GoodP p 200 5000 ∧ ¬ GrowOk x 2000) :
    Calls Try.prog 3 #[.slice A m c, .string x] w (Yes w) := by
  have HM := Aside0.mk hm
  have HC := Aside0.mk hC
  have HF := Aside0.mk hf.2
  have HK : Aside0 ((200 : Int) = ((200 : Nat) : Int) ∧ (5000 : Int) = ((5000 : Nat) : Int) ∧ 200 ≤ 4000 ∧ 5000 ≤ 2000000 ∧ (GrowOk x 2000 → x.size ≤ 100000000) ∧ (2000 : Int) ≤ 100000000) := ⟨rfl, rfl, by decide, by decide, fun h => by have := h.1; omega, by decide⟩
  have HB := Aside0.mk (Below.refl w.heap.size w)
  rcases h with h | ⟨hgd, hx⟩
  case' inl => have HG := Aside0.mk h; clear h
  case' inr => have HG := Aside0.mk hgd; have HXN := Aside0.mk hx; clear hgd hx
  all_goals
    by_cases hg : GrowOk x 2000
    all_goals try exact absurd hg HXN.out
    all_goals
      have HGR := Aside0.mk hg
      clear hC hf hg hm
      go_enter Try.func3, Try.ntmps3
      go_wp2_with (first
        | (go_at_call 4; (with_reducible refine (universal_yes _).mono ?_); rintro e w1 ⟨Au, cu, rfl, hcu, hCu, hb⟩; have HCU := Aside0.mk hcu; have HU := Aside0.mk hCu; have HBU := Aside0.mk (Below.refl w1.heap.size w1); have HB := Aside0.mk (below_then HB.out HB.out.size hb); clear hcu hCu hb)
        | (go_at_call 5; first
            | ((with_reducible refine (grow_no x 2000 _ HGR.out HK.out.2.2.2.2.2).mono ?_); rintro e w2 ⟨rfl, hb⟩; have HB := Aside0.mk (below_then HB.out HB.out.size hb); have HU := Aside0.mk (Kd.C_below HU.out hb); clear hb)
            | ((with_reducible refine (grow_yes x 2000 _ HGR.out (HK.out.2.2.2.2.1 HGR.out)).mono ?_); rintro e w2 ⟨vx, rfl, hx, hb⟩; have HB := Aside0.mk (below_then HB.out HB.out.size hb); have HU := Aside0.mk (Kd.C_below HU.out hb); clear hb))
        | (go_at_call 6; first
            | ((with_reducible refine (good_no HM.out (Kd.C_below HC.out HB.out) HK.out.2.2.1 HK.out.2.2.2.1 HF.out HG.out 200 5000 HK.out.1 HK.out.2.1).mono ?_); rintro e w3 ⟨rfl, hb⟩; have HB := Aside0.mk (below_then HB.out HB.out.size hb); have HU := Aside0.mk (Kd.C_below HU.out hb); clear hb)
            | ((with_reducible refine (good_yes HM.out (Kd.C_below HC.out HB.out) HK.out.2.2.1 HK.out.2.2.2.1 HF.out HG.out 200 5000 HK.out.1 HK.out.2.1).mono ?_); rintro e w3 ⟨rfl, hb⟩; have HB := Aside0.mk (below_then HB.out HB.out.size hb); have HU := Aside0.mk (Kd.C_below HU.out hb); clear hb))
        | (go_at_call 7; (with_reducible refine (simulates_yes HU.out HCU.out).mono ?_); rintro e w4 ⟨rfl, hb⟩; have HB := Aside0.mk (below_then HB.out HB.out.size hb); clear hb))
      go_ret
      exact ⟨rfl, HB.out⟩
theorem after_count (p : Prg) : ∀ (k : Nat) (a : Int) (r : Rg), (after p k a r).2.2.1 ≤ k
  | 0, _, _ => Nat.le_refl _
  | k + 1, a, r => by
    rw [after]
    by_cases h : a = (p.length : Int)
    · rw [if_pos h]; exact Nat.zero_le _
    · rw [if_neg h]
      cases hx : Plain.exec (p.getD a.toNat ⟨0, 0, 0, 0, ⟨#[]⟩⟩) r with
      | none => exact Nat.zero_le _
      | some q => exact Nat.succ_le_succ (after_count p k _ _)
theorem runM_how (p : Prg) (t : Tr) (k : Nat) : (∃ y n, runM p t k = (y, n, 0) ∧ n ≤ k ∧ y = (after p k 0 (init t)).2.1 0) ∨ (runM p t k).2.2 = 7 ∨ (runM p t k).2.2 = 3 := by
  unfold runM
  by_cases h : (after p k 0 (init t)).2.2.2 = true
  · rw [if_pos h]
    by_cases e : (after p k 0 (init t)).1 = (p.length : Int)
    · rw [if_pos e]
      exact .inl ⟨_, _, rfl, after_count p k 0 _, rfl⟩
    · rw [if_neg e]
      exact .inr (.inl rfl)
  · rw [if_neg h]
    exact .inr (.inr rfl)
set_option maxHeartbeats 2000000 in
theorem univ_large (A : Option Addr) (c m : Nat) (p : Prg) (x : ByteArray) (t : Tr) (w : World) (hm : p.length = m) (hC : Kd.C k52 w A m p) (hf : FitsU p) (hg : GoodP p 200 5000) (hx : GrowOk x 2000) (hp : OKP p) (ht : dec x.data.toList = t) (hz : t.size ≤ 2000000) (hr : (runM p t 300).2.2 = 3) :
    Calls Try.prog 3 #[.slice A m c, .string x] w (Yes w) := by
  have HM := Aside0.mk hm
  have HC := Aside0.mk hC
  have HF := Aside0.mk hf.2
  have HG := Aside0.mk hg
  have HGR := Aside0.mk hx
  have HP := Aside0.mk hp
  have HTE := Aside0.mk ht
  have HTZ := Aside0.mk hz
  have HK : Aside0 ((200 : Int) = ((200 : Nat) : Int) ∧ (5000 : Int) = ((5000 : Nat) : Int) ∧ 200 ≤ 4000 ∧ 5000 ≤ 2000000 ∧ (GrowOk x 2000 → x.size ≤ 100000000) ∧ (300 : Int) = ((300 : Nat) : Int) ∧ 300 ≤ 1000000000) := ⟨rfl, rfl, by decide, by decide, fun h => by have := h.1; omega, rfl, by decide⟩
  have HB := Aside0.mk (Below.refl w.heap.size w)
  have HR := Aside0.mk hr
  clear hm hC hf hg hx hp ht hz hr
  go_enter Try.func3, Try.ntmps3
  go_wp2_with (first
    | (go_at_call 4; (with_reducible refine (universal_yes _).mono ?_); rintro e w1 ⟨Au, cu, rfl, hcu, hCu, hb⟩; have HCU := Aside0.mk hcu; have HU := Aside0.mk hCu; have HB := Aside0.mk (below_then HB.out HB.out.size hb); clear hcu hCu hb)
    | (go_at_call 5; (with_reducible refine (grow_yes x 2000 _ HGR.out (HK.out.2.2.2.2.1 HGR.out)).mono ?_); rintro e w2 ⟨vx, rfl, hvx, hb⟩; rw [HTE.out] at hvx; have HX := Aside0.mk hvx; have HB := Aside0.mk (below_then HB.out HB.out.size hb); have HU := Aside0.mk (Kd.C_below HU.out hb); clear hb hvx)
    | (go_at_call 6; (with_reducible refine (good_yes HM.out (Kd.C_below HC.out HB.out) HK.out.2.2.1 HK.out.2.2.2.1 HF.out HG.out 200 5000 HK.out.1 HK.out.2.1).mono ?_); rintro e w3 ⟨rfl, hb⟩; have HB := Aside0.mk (below_then HB.out HB.out.size hb); have HU := Aside0.mk (Kd.C_below HU.out hb); have HX := Aside0.mk (Nd.keep (NK.below hb) _ _ HX.out); clear hb)
    | (go_at_call 7; (with_reducible refine (simulates_yes HU.out HCU.out).mono ?_); rintro e w4 ⟨rfl, hb⟩; have HB := Aside0.mk (below_then HB.out HB.out.size hb); have HU := Aside0.mk (Kd.C_below HU.out hb); have HX := Aside0.mk (Nd.keep (NK.below hb) _ _ HX.out); clear hb)
    | (go_at_call 9; (with_reducible refine (calm_go _ _ _ p t _ 300 300 _ HK.out.2.2.2.2.2.1 HM.out (Kd.C_below HC.out HB.out) HP.out HX.out HTZ.out HK.out.2.2.2.2.2.2).mono ?_); rintro e w5 ⟨b, rfl, hcm, hb⟩; have HCM := Aside0.mk hcm; have HB := Aside0.mk (below_then HB.out HB.out.size hb); have HU := Aside0.mk (Kd.C_below HU.out hb); have HX := Aside0.mk (Nd.keep (NK.below hb) _ _ HX.out); clear hb hcm)
    | (go_at_call 8; (with_reducible refine (play_large (p := p) (t := t) 300 300 HK.out.2.2.2.2.2.1 HM.out (Kd.C_below HC.out HB.out) HP.out HX.out HTZ.out HK.out.2.2.2.2.2.2 HR.out).mono ?_); rintro e w6 ⟨n, rfl, hb⟩; have HB := Aside0.mk (below_then HB.out HB.out.size hb); have HU := Aside0.mk (Kd.C_below HU.out hb); have HX := Aside0.mk (Nd.keep (NK.below hb) _ _ HX.out); clear hb))
  all_goals (
    go_ret
    exact ⟨rfl, HB.out⟩)
end Go.Proofs.Ytpnmmpfidiegcaa.C
end
section
namespace Go.Proofs.Ytpnmmpfidiegcaa.C
open Go.RowKit Go.Proofs.YtpnmmpfidiegcaaW.PrintWords Go.Proofs.YtpnmmpfidiegcaaW.PrintLast Go.Proofs.YtpnmmpfidiegcaaW.PrintMore
open Go.Proofs.Ytpnmmpfidiegcaa.Plain (totN tot_init reg_tot Tr Rg OKP after init runM codeT univ dec okp_iff Right univ_ends univ_lasts)
set_option linter.unusedVariables false
set_option linter.unusedSimpArgs false
theorem code_small2 {p : Prg} (hp : OKP p) (hg : GoodP p 200 5000) {t : Tr} (ht : t.size ≤ 2000) : (codeT p).size ≤ 1000000000000 ∧ t.size ≤ 1000000000000 ∧ (Tr.cons (codeT p) t).size ≤ 2000000 := by
  have h1 := Plain.codeT_bound hp
  have h2 : p.length * (301 + 2 * p.length) ≤ 200 * (301 + 2 * 200) := Nat.mul_le_mul hg.1 (by have := hg.1; omega)
  have h3 := hg.2.1
  have h4 : (Tr.cons (codeT p) t).size = 1 + (codeT p).size + t.size := rfl
  have h5 : 200 * (301 + 2 * 200) = 140200 := by decide
  rw [h5] at h2
  rw [h4]
  generalize (codeT p).size = C at *
  generalize p.length * (301 + 2 * p.length) = Q at *
  generalize Plain.sizes p = Z at *
  clear h4 h5 hp hg
  omega
theorem not_false {b : Bool} (h : (!b) = false) : b = true := by cases b; cases h; rfl
theorem most_int {m n : Nat} (hm : m ≤ 200) (hn : n ≤ 300) : 100 * (m + 40) * (n + 1) ≤ 1000000000 := by
  have h1 : 100 * (m + 40) ≤ 24000 := by omega
  have h2 : n + 1 ≤ 301 := by omega
  exact Nat.le_trans (Nat.mul_le_mul h1 h2) (by decide)
theorem wrap_most {m n : Nat} (hm : m ≤ 200) (hn : n ≤ 300) : wrap64 (100 * ((m : Int) + 40) * ((n : Int) + 1)) = ((100 * (m + 40) * (n + 1) : Nat) : Int) := by
  have h := most_int hm hn
  have e : (100 * ((m : Int) + 40) * ((n : Int) + 1)) = ((100 * (m + 40) * (n + 1) : Nat) : Int) := by push_cast; rfl
  rw [e]
  generalize 100 * (m + 40) * (n + 1) = q at h
  exact IntWalk.wrap64_in _ (by omega)
set_option maxRecDepth 100000 in
set_option maxHeartbeats 2000000 in
theorem univ_ended (A : Option Addr) (c m : Nat) (p : Prg) (x : ByteArray) (t y : Tr) (n : Nat) (w : World) (hm : p.length = m) (hC : Kd.C k52 w A m p) (hf : FitsU p) (hg : GoodP p 200 5000) (hx : GrowOk x 2000) (hp : OKP p) (ht : dec x.data.toList = t) (hz : t.size ≤ 2000) (hr : runM p t 300 = (y, n, 0)) (hn : n ≤ 300)
    (hy : Plain.Calm p 300 0 (init t) → y.size ≤ 100000000) :
    Calls Try.prog 3 #[.slice A m c, .string x] w (Yes w) := by
  have hm2 : m ≤ 200 := by have := hg.1; omega
  have HEND : Aside0 (Plain.Calm p 300 0 (init t) → ∃ n', runM univ (.cons (codeT p) t) (100 * (m + 40) * (n + 1)) = (y, n', 0)) := ⟨fun h => by
    have := univ_ends hp (okp_right hp) h hr (100 * (m + 40) * (n + 1)) (by rw [hm]; exact Nat.le_refl _)
    exact this⟩
  have HMO := Aside0.mk (most_int hm2 hn)
  have HMW := Aside0.mk (wrap_most hm2 hn)
  have HCZ := Aside0.mk (code_small2 hp hg hz)
  have HUN : Aside0 (univ.length = 129 ∧ OKP univ) := ⟨rfl, univ_okp⟩
  have HM := Aside0.mk hm
  have HC := Aside0.mk hC
  have HF := Aside0.mk hf.2
  have HG := Aside0.mk hg
  have HGR := Aside0.mk hx
  have HP := Aside0.mk hp
  have HTE := Aside0.mk ht
  have HTZ : Aside0 (t.size ≤ 2000000) := ⟨by omega⟩
  have HY := Aside0.mk hy
  have HK : Aside0 ((200 : Int) = ((200 : Nat) : Int) ∧ (5000 : Int) = ((5000 : Nat) : Int) ∧ 200 ≤ 4000 ∧ 5000 ≤ 2000000 ∧ (GrowOk x 2000 → x.size ≤ 100000000) ∧ (300 : Int) = ((300 : Nat) : Int) ∧ 300 ≤ 1000000000) := ⟨rfl, rfl, by decide, by decide, fun h => by have := h.1; omega, rfl, by decide⟩
  have HB := Aside0.mk (Below.refl w.heap.size w)
  have HR := Aside0.mk hr
  clear hm hC hf hg hx hp ht hz hr hy
  go_enter Try.func3, Try.ntmps3
  go_wp2_with (first
    | (go_at_call 4; (with_reducible refine (universal_yes _).mono ?_); rintro e w1 ⟨Au, cu, rfl, hcu, hCu, hb⟩; have HCU := Aside0.mk hcu; have HU := Aside0.mk hCu; have HB := Aside0.mk (below_then HB.out HB.out.size hb); clear hcu hCu hb)
    | (go_at_call 5; (with_reducible refine (grow_yes x 2000 _ HGR.out (HK.out.2.2.2.2.1 HGR.out)).mono ?_); rintro e w2 ⟨vx, rfl, hvx, hb⟩; rw [HTE.out] at hvx; have HX := Aside0.mk hvx; have HB := Aside0.mk (below_then HB.out HB.out.size hb); have HU := Aside0.mk (Kd.C_below HU.out hb); clear hb hvx)
    | (go_at_call 6; (with_reducible refine (good_yes HM.out (Kd.C_below HC.out HB.out) HK.out.2.2.1 HK.out.2.2.2.1 HF.out HG.out 200 5000 HK.out.1 HK.out.2.1).mono ?_); rintro e w3 ⟨rfl, hb⟩; have HB := Aside0.mk (below_then HB.out HB.out.size hb); have HU := Aside0.mk (Kd.C_below HU.out hb); have HX := Aside0.mk (Nd.keep (NK.below hb) _ _ HX.out); clear hb)
    | (go_at_call 7; (with_reducible refine (simulates_yes HU.out HCU.out).mono ?_); rintro e w4 ⟨rfl, hb⟩; have HB := Aside0.mk (below_then HB.out HB.out.size hb); have HU := Aside0.mk (Kd.C_below HU.out hb); have HX := Aside0.mk (Nd.keep (NK.below hb) _ _ HX.out); clear hb)
    | (go_at_call 9; (with_reducible refine (calm_go _ _ _ p t _ 300 300 _ HK.out.2.2.2.2.2.1 HM.out (Kd.C_below HC.out HB.out) HP.out HX.out HTZ.out HK.out.2.2.2.2.2.2).mono ?_); rintro e w5 ⟨b, rfl, hcm, hb⟩; have HCM := Aside0.mk hcm; have HB := Aside0.mk (below_then HB.out HB.out.size hb); have HU := Aside0.mk (Kd.C_below HU.out hb); have HV := Aside0.mk (Nd.keep (NK.below hb) _ _ HV.out); have HX := Aside0.mk (Nd.keep (NK.below hb) _ _ HX.out); clear hb hcm)
    | (go_at_call 11; (with_reducible refine (codeU_yes (A := A) HM.out (Kd.C_below HC.out HB.out) HP.out).mono ?_); rintro e w7 ⟨vc, rfl, hvc, hb⟩; have HVC := Aside0.mk hvc; have HV := Aside0.mk (Nd.keep (NK.below hb) _ _ HV.out); have HB := Aside0.mk (below_then HB.out HB.out.size hb); have HU := Aside0.mk (Kd.C_below HU.out hb); have HX := Aside0.mk (Nd.keep (NK.below hb) _ _ HX.out); clear hb hvc)
    | (go_at_call 10; (with_reducible refine (Cons_calls (codeT p) t vc vx _ HVC.out HX.out HCZ.out.1 HCZ.out.2.1).mono ?_); rintro e w8 ⟨vp, rfl, hvp, hb⟩; have HVP := Aside0.mk hvp; have HV := Aside0.mk (Nd.keep (NK.below hb) _ _ HV.out); have HB := Aside0.mk (below_then HB.out HB.out.size hb); have HU := Aside0.mk (Kd.C_below HU.out hb); clear hb hvp)
    | (go_at_call 8; first
        | ((with_reducible refine (play_end (A := A) (p := p) (t := t) 300 300 HK.out.2.2.2.2.2.1 HM.out (Kd.C_below HC.out HB.out) HP.out HX.out HTZ.out HK.out.2.2.2.2.2.2 HR.out).mono ?_); rintro e w6 ⟨v, rfl, hv, hb⟩; have HV := Aside0.mk hv; have HB := Aside0.mk (below_then HB.out HB.out.size hb); have HU := Aside0.mk (Kd.C_below HU.out hb); have HX := Aside0.mk (Nd.keep (NK.below hb) _ _ HX.out); clear hb hv)
        | (have hcalm := HCM.out (by first | trivial | exact not_false (by assumption)); obtain ⟨n', hend⟩ := HEND.out hcalm; have HEN := Aside0.mk hend; have HYZ := Aside0.mk (HY.out hcalm); clear hcalm hend; (with_reducible refine (play_end (A := Au) (p := univ) (t := Tr.cons (codeT p) t) (100 * (m + 40) * (n + 1)) _ HMW.out HUN.out.1 HU.out HUN.out.2 HVP.out HCZ.out.2.2 HMO.out HEN.out).mono ?_); rintro e w9 ⟨v2, rfl, hv, hb⟩; have HV2 := Aside0.mk hv; have HV := Aside0.mk (Nd.keep (NK.below hb) _ _ HV.out); have HB := Aside0.mk (below_then HB.out HB.out.size hb); clear hb hv))
    | (go_at_call 12; (with_reducible refine (equal_yes y v v2 _ HV.out HV2.out HYZ.out).mono ?_); rintro e w10 ⟨rfl, hb⟩; have HB := Aside0.mk (below_then HB.out HB.out.size hb); clear hb))
  all_goals (
    go_ret
    exact ⟨rfl, HB.out⟩)
set_option maxHeartbeats 2000000 in
theorem univ_going (A : Option Addr) (c m : Nat) (p : Prg) (x : ByteArray) (t : Tr) (w : World) (hm : p.length = m) (hC : Kd.C k52 w A m p) (hf : FitsU p) (hg : GoodP p 200 5000) (hx : GrowOk x 2000) (hp : OKP p) (ht : dec x.data.toList = t) (hz : t.size ≤ 2000) (hr : (runM p t 300).2.2 = 7) :
    Calls Try.prog 3 #[.slice A m c, .string x] w (Yes w) := by
  have HEND : Aside0 (Plain.Calm p 300 0 (init t) → Repeats p t → (runM univ (.cons (codeT p) t) 20000).2.2 = 7) := ⟨fun h ⟨i, k, h1, h2, h3, h4, h5, h6⟩ =>
    univ_lasts hp (okp_right hp) (Nat.le_trans h2 (by decide)) h h1 h3 h4 h5 h6 20000⟩
  have HCZ := Aside0.mk (code_small2 hp hg hz)
  have HUN : Aside0 (univ.length = 129 ∧ OKP univ) := ⟨rfl, univ_okp⟩
  have HM := Aside0.mk hm
  have HC := Aside0.mk hC
  have HF := Aside0.mk hf.2
  have HG := Aside0.mk hg
  have HGR := Aside0.mk hx
  have HP := Aside0.mk hp
  have HTE := Aside0.mk ht
  have HTZ : Aside0 (t.size ≤ 2000000) := ⟨by omega⟩
  have HK : Aside0 ((200 : Int) = ((200 : Nat) : Int) ∧ (5000 : Int) = ((5000 : Nat) : Int) ∧ 200 ≤ 4000 ∧ 5000 ≤ 2000000 ∧ (GrowOk x 2000 → x.size ≤ 100000000) ∧ (300 : Int) = ((300 : Nat) : Int) ∧ 300 ≤ 1000000000 ∧ (20000 : Int) = ((20000 : Nat) : Int) ∧ 20000 ≤ 1000000000) := ⟨rfl, rfl, by decide, by decide, fun h => by have := h.1; omega, rfl, by decide, rfl, by decide⟩
  have HB := Aside0.mk (Below.refl w.heap.size w)
  have HR := Aside0.mk hr
  clear hm hC hf hg hx hp ht hz hr
  go_enter Try.func3, Try.ntmps3
  go_wp2_with (first
    | (go_at_call 4; (with_reducible refine (universal_yes _).mono ?_); rintro e w1 ⟨Au, cu, rfl, hcu, hCu, hb⟩; have HCU := Aside0.mk hcu; have HU := Aside0.mk hCu; have HB := Aside0.mk (below_then HB.out HB.out.size hb); clear hcu hCu hb)
    | (go_at_call 5; (with_reducible refine (grow_yes x 2000 _ HGR.out (HK.out.2.2.2.2.1 HGR.out)).mono ?_); rintro e w2 ⟨vx, rfl, hvx, hb⟩; rw [HTE.out] at hvx; have HX := Aside0.mk hvx; have HB := Aside0.mk (below_then HB.out HB.out.size hb); have HU := Aside0.mk (Kd.C_below HU.out hb); clear hb hvx)
    | (go_at_call 6; (with_reducible refine (good_yes HM.out (Kd.C_below HC.out HB.out) HK.out.2.2.1 HK.out.2.2.2.1 HF.out HG.out 200 5000 HK.out.1 HK.out.2.1).mono ?_); rintro e w3 ⟨rfl, hb⟩; have HB := Aside0.mk (below_then HB.out HB.out.size hb); have HU := Aside0.mk (Kd.C_below HU.out hb); have HX := Aside0.mk (Nd.keep (NK.below hb) _ _ HX.out); clear hb)
    | (go_at_call 7; (with_reducible refine (simulates_yes HU.out HCU.out).mono ?_); rintro e w4 ⟨rfl, hb⟩; have HB := Aside0.mk (below_then HB.out HB.out.size hb); have HU := Aside0.mk (Kd.C_below HU.out hb); have HX := Aside0.mk (Nd.keep (NK.below hb) _ _ HX.out); clear hb)
    | (go_at_call 9; (with_reducible refine (calm_go _ _ _ p t _ 300 300 _ HK.out.2.2.2.2.2.1 HM.out (Kd.C_below HC.out HB.out) HP.out HX.out HTZ.out HK.out.2.2.2.2.2.2.1).mono ?_); rintro e w5 ⟨b, rfl, hcm, hb⟩; have HCM := Aside0.mk hcm; have HB := Aside0.mk (below_then HB.out HB.out.size hb); have HU := Aside0.mk (Kd.C_below HU.out hb); have HX := Aside0.mk (Nd.keep (NK.below hb) _ _ HX.out); clear hb hcm)
    | (go_at_call 13; (with_reducible refine (again_go _ _ _ p t _ _ HM.out (Kd.C_below HC.out HB.out) HP.out HX.out HTZ.out).mono ?_); rintro e w5 ⟨b2, rfl, hag, hb⟩; have HAG := Aside0.mk hag; have HB := Aside0.mk (below_then HB.out HB.out.size hb); have HU := Aside0.mk (Kd.C_below HU.out hb); have HX := Aside0.mk (Nd.keep (NK.below hb) _ _ HX.out); clear hb hag)
    | (go_at_call 11; (with_reducible refine (codeU_yes (A := A) HM.out (Kd.C_below HC.out HB.out) HP.out).mono ?_); rintro e w7 ⟨vc, rfl, hvc, hb⟩; have HVC := Aside0.mk hvc; have HB := Aside0.mk (below_then HB.out HB.out.size hb); have HU := Aside0.mk (Kd.C_below HU.out hb); have HX := Aside0.mk (Nd.keep (NK.below hb) _ _ HX.out); clear hb hvc)
    | (go_at_call 10; (with_reducible refine (Cons_calls (codeT p) t vc vx _ HVC.out HX.out HCZ.out.1 HCZ.out.2.1).mono ?_); rintro e w8 ⟨vp, rfl, hvp, hb⟩; have HVP := Aside0.mk hvp; have HB := Aside0.mk (below_then HB.out HB.out.size hb); have HU := Aside0.mk (Kd.C_below HU.out hb); clear hb hvp)
    | (go_at_call 8; first
        | ((with_reducible refine (play_on (A := A) (p := p) (t := t) 300 300 HK.out.2.2.2.2.2.1 HM.out (Kd.C_below HC.out HB.out) HP.out HX.out HTZ.out HK.out.2.2.2.2.2.2.1 HR.out).mono ?_); rintro e w6 ⟨nn, rfl, hb⟩; have HB := Aside0.mk (below_then HB.out HB.out.size hb); have HU := Aside0.mk (Kd.C_below HU.out hb); have HX := Aside0.mk (Nd.keep (NK.below hb) _ _ HX.out); clear hb)
        | (have HEN := Aside0.mk (HEND.out (HCM.out (by first | trivial | exact not_false (by assumption))) (HAG.out (by first | trivial | exact not_false (by assumption)))); (with_reducible refine (play_on (A := Au) (p := univ) (t := Tr.cons (codeT p) t) 20000 20000 HK.out.2.2.2.2.2.2.2.1 HUN.out.1 HU.out HUN.out.2 HVP.out HCZ.out.2.2 HK.out.2.2.2.2.2.2.2.2 HEN.out).mono ?_); rintro e w9 ⟨nn2, rfl, hb⟩; have HB := Aside0.mk (below_then HB.out HB.out.size hb); clear hb)))
  all_goals (
    go_ret
    exact ⟨rfl, HB.out⟩)
theorem narcissustop_TopUniversal.calls (A : Option Addr) (c : Nat) (p : Prg) (x : ByteArray) (w : World) (hC : Kd.C k52 w A p.length p) (hf : FitsU p) :
    Calls Try.prog 3 #[.slice A p.length c, .string x] w (Yes w) := by
  by_cases hg : GoodP p 200 5000
  · by_cases hx : GrowOk x 2000
    · have hp : OKP p := goodp_okp hg (by decide) (by decide)
      have hxs : x.size ≤ 2000 := by have := hx.1; omega
      have hX : (dec x.data.toList).size ≤ 2000 := by rw [dec_size hx.2]; exact hxs
      rcases runM_how p (dec x.data.toList) 300 with ⟨y, n, h1, h2, h3⟩ | h | h
      · refine univ_ended A c _ p x _ y n w rfl hC hf hg hx hp rfl hX h1 h2 fun hc => ?_
        have h4 := hc 300 (Nat.le_refl _)
        have h5 := reg_tot (after p 300 0 (init (dec x.data.toList))).2.1 (i := 0) (n := 32) (by decide)
        rw [h3]
        omega
      · exact univ_going A c _ p x _ w rfl hC hf hg hx hp rfl hX h
      · exact univ_large A c _ p x _ w rfl hC hf hg hx hp rfl (by omega) h
    · exact univ_out A c _ p x w rfl hC hf (.inr ⟨hg, hx⟩)
  · exact univ_out A c _ p x w rfl hC hf (.inl hg)
end Go.Proofs.Ytpnmmpfidiegcaa.C
end
section
namespace Go.Proofs.Ytpnmmpfidiegcaa.Card
open Go.ChangeShapes Go.WideShapes Go.ChangeAt Go.RowKit
theorem own : ownKnob Try.prog.godebug = none := by kernel_rfl
theorem laidOut : laidOutB Try.prog = true := by kernel_rfl
theorem cStr : Try.prog.cellsOf 9 = 1 := by kernel_rfl
noncomputable abbrev laidWorld (os : Os) : World := World.laidAll Try.prog os []
end Go.Proofs.Ytpnmmpfidiegcaa.Card
end
