/- Texts of this claim, together: what the functions return, and what they say in plain words. -/
import Derived.Test.YtpnmmpfidiegcaaUL
import Derived.Test.YtpnmmpfidiegcaaUK
import Derived.Maps.StringElems
section
namespace Go.Proofs.Ytpnmmpfidiegcaa.C
open Go.RowKit Go.Proofs.YtpnmmpfidiegcaaW.PrintWords Go.Proofs.YtpnmmpfidiegcaaW.PrintLast Go.Proofs.YtpnmmpfidiegcaaW.PrintMore
set_option linter.unusedVariables false
set_option linter.unusedSimpArgs false
section
variable {B : Nat} {wb aw bm bf : Nat}
abbrev Gox (w : World) (gb xb : Nat) : Prop := w.heap[gb]? = some (.cells #[.func (.func 25) #[] #[.pointer (some ⟨xb, 0, none⟩)]] 1 (0, 0))
theorem Gox.on {w w' : World} {gb xb : Nat} (h : Gox w gb xb) (hb : BU w w') : Gox w' gb xb := hb _ _ _ (by decide) (by decide) (by decide) h
theorem Gox.c0 {w : World} {gb xb : Nat} (h : Gox w gb xb) : w.cell? ⟨gb, 0, none⟩ = some (.func (.func 25) #[] #[.pointer (some ⟨xb, 0, none⟩)]) := (blk_cell h 0).trans rfl
set_option maxHeartbeats 4000000 in
theorem u_U2 {w : World} {s : US} {k : Nat} {xb : Nat} (h : IsU B w wb aw bm bf s (k + 24)) (hx : Box w xb wb) : Calls Try.prog 25 #[.pointer (some ⟨xb, 0, none⟩)] w (WroteU B w wb aw bm bf (uU2 s) k) := by
  have HU := Aside0.mk h
  have HK := Aside0.mk (BU.refl w)
  have HB := Aside0.mk (Below.refl B w)
  have cw := h.c0
  have HX := Aside0.mk hx
  have cb := hx.c0
  clear hx
  clear h
  go_enter Try.func25, Try.ntmps25
  go_wp2_with (first | (go_at_call 17; (with_reducible refine (u_move HU.out _ _).mono ?_); rintro e w1 ⟨rfl, hu, hbk, hbl⟩; have HU := Aside0.mk hu; have HK := Aside0.mk (HK.out.trans hbk); have HB := Aside0.mk (HB.out.trans hbl); replace cw := hu.c0; have HX := Aside0.mk (HX.out.on hbk); replace cb := HX.out.c0; clear hu hbk hbl) | (go_at_call 26; (with_reducible refine (u_fetch _ HU.out).mono ?_); rintro e w1 ⟨rfl, hu, hbk, hbl⟩; have HU := Aside0.mk hu; have HK := Aside0.mk (HK.out.trans hbk); have HB := Aside0.mk (HB.out.trans hbl); replace cw := hu.c0; have HX := Aside0.mk (HX.out.on hbk); replace cb := HX.out.c0; clear hu hbk hbl))
  go_end0
  exact ⟨rfl, HU.out.less (by omega), HK.out, HB.out⟩
set_option maxHeartbeats 4000000 in
theorem u_U3 {w : World} {s : US} {k : Nat} {xb : Nat} (h : IsU B w wb aw bm bf s (k + 48)) (hx : Box w xb wb) : Calls Try.prog 27 #[.pointer (some ⟨xb, 0, none⟩)] w (WroteU B w wb aw bm bf (uU3 s) k) := by
  have HU := Aside0.mk h
  have HK := Aside0.mk (BU.refl w)
  have HB := Aside0.mk (Below.refl B w)
  have cw := h.c0
  have HX := Aside0.mk hx
  have cb := hx.c0
  clear hx
  clear h
  go_enter Try.func27, Try.ntmps27
  go_wp2_with (first | (go_at_call 15; (with_reducible refine (u_head HU.out _ _).mono ?_); rintro e w1 ⟨rfl, hu, hbk, hbl⟩; have HU := Aside0.mk hu; have HK := Aside0.mk (HK.out.trans hbk); have HB := Aside0.mk (HB.out.trans hbl); replace cw := hu.c0; have HX := Aside0.mk (HX.out.on hbk); replace cb := HX.out.c0; clear hu hbk hbl) | (go_at_call 16; (with_reducible refine (u_tail HU.out _ _).mono ?_); rintro e w1 ⟨rfl, hu, hbk, hbl⟩; have HU := Aside0.mk hu; have HK := Aside0.mk (HK.out.trans hbk); have HB := Aside0.mk (HB.out.trans hbl); replace cw := hu.c0; have HX := Aside0.mk (HX.out.on hbk); replace cb := HX.out.c0; clear hu hbk hbl) | (go_at_call 18; (with_reducible refine (u_cons HU.out _ _ _).mono ?_); rintro e w1 ⟨rfl, hu, hbk, hbl⟩; have HU := Aside0.mk hu; have HK := Aside0.mk (HK.out.trans hbk); have HB := Aside0.mk (HB.out.trans hbl); replace cw := hu.c0; have HX := Aside0.mk (HX.out.on hbk); replace cb := HX.out.c0; clear hu hbk hbl) | (go_at_call 26; (with_reducible refine (u_fetch _ HU.out).mono ?_); rintro e w1 ⟨rfl, hu, hbk, hbl⟩; have HU := Aside0.mk hu; have HK := Aside0.mk (HK.out.trans hbk); have HB := Aside0.mk (HB.out.trans hbl); replace cw := hu.c0; have HX := Aside0.mk (HX.out.on hbk); replace cb := HX.out.c0; clear hu hbk hbl))
  go_end0
  exact ⟨rfl, HU.out.less (by omega), HK.out, HB.out⟩
set_option maxHeartbeats 4000000 in
theorem u_U4 {w : World} {s : US} {k : Nat} {xb gb : Nat} (h : IsU B w wb aw bm bf s (k + 25)) (hx : Box w xb wb) (hg : Gox w gb xb) : Calls Try.prog 28 #[.pointer (some ⟨gb, 0, none⟩), .pointer (some ⟨xb, 0, none⟩)] w (WroteU B w wb aw bm bf (uU4 s) k) := by
  have HU := Aside0.mk h
  have HK := Aside0.mk (BU.refl w)
  have HB := Aside0.mk (Below.refl B w)
  have cw := h.c0
  have HX := Aside0.mk hx
  have cb := hx.c0
  have HG := Aside0.mk hg
  have cg := hg.c0
  clear h hx hg
  go_enter Try.func28, Try.ntmps28
  go_wp2_with (first | (go_at_call 15; (with_reducible refine (u_head HU.out _ _).mono ?_); rintro e w1 ⟨rfl, hu, hbk, hbl⟩; have HU := Aside0.mk hu; have HK := Aside0.mk (HK.out.trans hbk); have HB := Aside0.mk (HB.out.trans hbl); replace cw := hu.c0; have HX := Aside0.mk (HX.out.on hbk); replace cb := HX.out.c0; have HG := Aside0.mk (HG.out.on hbk); replace cg := HG.out.c0; clear hu hbk hbl) | (go_at_call 25; (with_reducible refine (u_U2 HU.out HX.out).mono ?_); rintro e w1 ⟨rfl, hu, hbk, hbl⟩; have HU := Aside0.mk hu; have HK := Aside0.mk (HK.out.trans hbk); have HB := Aside0.mk (HB.out.trans hbl); replace cw := hu.c0; have HX := Aside0.mk (HX.out.on hbk); replace cb := HX.out.c0; have HG := Aside0.mk (HG.out.on hbk); replace cg := HG.out.c0; clear hu hbk hbl))
  go_end0
  exact ⟨rfl, HU.out.less (by omega), HK.out, HB.out⟩
set_option maxHeartbeats 4000000 in
theorem u_U5 {w : World} {s : US} {k : Nat} {xb gb : Nat} (h : IsU B w wb aw bm bf s (k + 25)) (hx : Box w xb wb) (hg : Gox w gb xb) : Calls Try.prog 29 #[.pointer (some ⟨gb, 0, none⟩), .pointer (some ⟨xb, 0, none⟩)] w (WroteU B w wb aw bm bf (uU5 s) k) := by
  have HU := Aside0.mk h
  have HK := Aside0.mk (BU.refl w)
  have HB := Aside0.mk (Below.refl B w)
  have cw := h.c0
  have HX := Aside0.mk hx
  have cb := hx.c0
  have HG := Aside0.mk hg
  have cg := hg.c0
  clear h hx hg
  go_enter Try.func29, Try.ntmps29
  go_wp2_with (first | (go_at_call 16; (with_reducible refine (u_tail HU.out _ _).mono ?_); rintro e w1 ⟨rfl, hu, hbk, hbl⟩; have HU := Aside0.mk hu; have HK := Aside0.mk (HK.out.trans hbk); have HB := Aside0.mk (HB.out.trans hbl); replace cw := hu.c0; have HX := Aside0.mk (HX.out.on hbk); replace cb := HX.out.c0; have HG := Aside0.mk (HG.out.on hbk); replace cg := HG.out.c0; clear hu hbk hbl) | (go_at_call 25; (with_reducible refine (u_U2 HU.out HX.out).mono ?_); rintro e w1 ⟨rfl, hu, hbk, hbl⟩; have HU := Aside0.mk hu; have HK := Aside0.mk (HK.out.trans hbk); have HB := Aside0.mk (HB.out.trans hbl); replace cw := hu.c0; have HX := Aside0.mk (HX.out.on hbk); replace cb := HX.out.c0; have HG := Aside0.mk (HG.out.on hbk); replace cg := HG.out.c0; clear hu hbk hbl))
  go_end0
  exact ⟨rfl, HU.out.less (by omega), HK.out, HB.out⟩
set_option maxHeartbeats 4000000 in
theorem u_kind1 {w : World} {s : US} {k : Nat} {xb : Nat} (on : ByteArray) (hn : on.size ≤ 1000000) (h : IsU B w wb aw bm bf s (k + 6)) (hx : Box w xb wb) : Calls Try.prog 23 #[.pointer (some ⟨wb, 0, none⟩), .func (.func 24) #[] #[.pointer (some ⟨xb, 0, none⟩)], .string on] w (WroteU B w wb aw bm bf (uKind uU1 on s) k) := by
  have HU := Aside0.mk h
  have HK := Aside0.mk (BU.refl w)
  have HB := Aside0.mk (Below.refl B w)
  have cw := h.c0
  have HX := Aside0.mk hx
  have cb := hx.c0
  clear hx
  clear h
  go_enter Try.func23, Try.ntmps23
  go_wp2_with (first | (go_at_call 46; (with_reducible refine (u_name HU.out).mono ?_); rintro e w1 ⟨rfl, hu, hbk, hbl⟩; have HU := Aside0.mk hu; have HK := Aside0.mk (HK.out.trans hbk); have HB := Aside0.mk (HB.out.trans hbl); replace cw := hu.c0; have HX := Aside0.mk (HX.out.on hbk); replace cb := HX.out.c0; clear hu hbk hbl) | (go_at_call 20; (with_reducible refine (u_here HU.out _ (by first | exact nmS_size _ | decide)).mono ?_); rintro e w1 ⟨rfl, hu, hbk, hbl⟩; have HU := Aside0.mk hu; have HK := Aside0.mk (HK.out.trans hbk); have HB := Aside0.mk (HB.out.trans hbl); replace cw := hu.c0; have HX := Aside0.mk (HX.out.on hbk); replace cb := HX.out.c0; clear hu hbk hbl) | (go_at_call 21; (with_reducible refine (u_jump HU.out _ _ (by first | exact nmS_size _ | decide)).mono ?_); rintro e w1 ⟨rfl, hu, hbk, hbl⟩; have HU := Aside0.mk hu; have HK := Aside0.mk (HK.out.trans hbk); have HB := Aside0.mk (HB.out.trans hbl); replace cw := hu.c0; have HX := Aside0.mk (HX.out.on hbk); replace cb := HX.out.c0; clear hu hbk hbl) | (go_at_call 22; (with_reducible refine (u_leap _ (by first | exact hn | exact nmS_size _ | decide) HU.out).mono ?_); rintro e w1 ⟨rfl, hu, hbk, hbl⟩; have HU := Aside0.mk hu; have HK := Aside0.mk (HK.out.trans hbk); have HB := Aside0.mk (HB.out.trans hbl); replace cw := hu.c0; have HX := Aside0.mk (HX.out.on hbk); replace cb := HX.out.c0; clear hu hbk hbl) | (go_at_call 16; (with_reducible refine (u_tail HU.out _ _).mono ?_); rintro e w1 ⟨rfl, hu, hbk, hbl⟩; have HU := Aside0.mk hu; have HK := Aside0.mk (HK.out.trans hbk); have HB := Aside0.mk (HB.out.trans hbl); replace cw := hu.c0; have HX := Aside0.mk (HX.out.on hbk); replace cb := HX.out.c0; clear hu hbk hbl) | (go_at_call 24; (with_reducible refine (u_U1 HU.out HX.out).mono ?_); rintro e w1 ⟨rfl, hu, hbk, hbl⟩; have HU := Aside0.mk hu; have HK := Aside0.mk (HK.out.trans hbk); have HB := Aside0.mk (HB.out.trans hbl); replace cw := hu.c0; have HX := Aside0.mk (HX.out.on hbk); replace cb := HX.out.c0; clear hu hbk hbl))
  go_end0
  exact ⟨rfl, HU.out.less (by omega), HK.out, HB.out⟩
set_option maxHeartbeats 4000000 in
theorem u_kind2 {w : World} {s : US} {k : Nat} {xb : Nat} (on : ByteArray) (hn : on.size ≤ 1000000) (h : IsU B w wb aw bm bf s (k + 30)) (hx : Box w xb wb) : Calls Try.prog 23 #[.pointer (some ⟨wb, 0, none⟩), .func (.func 25) #[] #[.pointer (some ⟨xb, 0, none⟩)], .string on] w (WroteU B w wb aw bm bf (uKind uU2 on s) k) := by
  have HU := Aside0.mk h
  have HK := Aside0.mk (BU.refl w)
  have HB := Aside0.mk (Below.refl B w)
  have cw := h.c0
  have HX := Aside0.mk hx
  have cb := hx.c0
  clear hx
  clear h
  go_enter Try.func23, Try.ntmps23
  go_wp2_with (first | (go_at_call 46; (with_reducible refine (u_name HU.out).mono ?_); rintro e w1 ⟨rfl, hu, hbk, hbl⟩; have HU := Aside0.mk hu; have HK := Aside0.mk (HK.out.trans hbk); have HB := Aside0.mk (HB.out.trans hbl); replace cw := hu.c0; have HX := Aside0.mk (HX.out.on hbk); replace cb := HX.out.c0; clear hu hbk hbl) | (go_at_call 20; (with_reducible refine (u_here HU.out _ (by first | exact nmS_size _ | decide)).mono ?_); rintro e w1 ⟨rfl, hu, hbk, hbl⟩; have HU := Aside0.mk hu; have HK := Aside0.mk (HK.out.trans hbk); have HB := Aside0.mk (HB.out.trans hbl); replace cw := hu.c0; have HX := Aside0.mk (HX.out.on hbk); replace cb := HX.out.c0; clear hu hbk hbl) | (go_at_call 21; (with_reducible refine (u_jump HU.out _ _ (by first | exact nmS_size _ | decide)).mono ?_); rintro e w1 ⟨rfl, hu, hbk, hbl⟩; have HU := Aside0.mk hu; have HK := Aside0.mk (HK.out.trans hbk); have HB := Aside0.mk (HB.out.trans hbl); replace cw := hu.c0; have HX := Aside0.mk (HX.out.on hbk); replace cb := HX.out.c0; clear hu hbk hbl) | (go_at_call 22; (with_reducible refine (u_leap _ (by first | exact hn | exact nmS_size _ | decide) HU.out).mono ?_); rintro e w1 ⟨rfl, hu, hbk, hbl⟩; have HU := Aside0.mk hu; have HK := Aside0.mk (HK.out.trans hbk); have HB := Aside0.mk (HB.out.trans hbl); replace cw := hu.c0; have HX := Aside0.mk (HX.out.on hbk); replace cb := HX.out.c0; clear hu hbk hbl) | (go_at_call 16; (with_reducible refine (u_tail HU.out _ _).mono ?_); rintro e w1 ⟨rfl, hu, hbk, hbl⟩; have HU := Aside0.mk hu; have HK := Aside0.mk (HK.out.trans hbk); have HB := Aside0.mk (HB.out.trans hbl); replace cw := hu.c0; have HX := Aside0.mk (HX.out.on hbk); replace cb := HX.out.c0; clear hu hbk hbl) | (go_at_call 25; (with_reducible refine (u_U2 HU.out HX.out).mono ?_); rintro e w1 ⟨rfl, hu, hbk, hbl⟩; have HU := Aside0.mk hu; have HK := Aside0.mk (HK.out.trans hbk); have HB := Aside0.mk (HB.out.trans hbl); replace cw := hu.c0; have HX := Aside0.mk (HX.out.on hbk); replace cb := HX.out.c0; clear hu hbk hbl))
  go_end0
  exact ⟨rfl, HU.out.less (by omega), HK.out, HB.out⟩
set_option maxHeartbeats 4000000 in
theorem u_kind3 {w : World} {s : US} {k : Nat} {xb : Nat} (on : ByteArray) (hn : on.size ≤ 1000000) (h : IsU B w wb aw bm bf s (k + 54)) (hx : Box w xb wb) : Calls Try.prog 23 #[.pointer (some ⟨wb, 0, none⟩), .func (.func 27) #[] #[.pointer (some ⟨xb, 0, none⟩)], .string on] w (WroteU B w wb aw bm bf (uKind uU3 on s) k) := by
  have HU := Aside0.mk h
  have HK := Aside0.mk (BU.refl w)
  have HB := Aside0.mk (Below.refl B w)
  have cw := h.c0
  have HX := Aside0.mk hx
  have cb := hx.c0
  clear hx
  clear h
  go_enter Try.func23, Try.ntmps23
  go_wp2_with (first | (go_at_call 46; (with_reducible refine (u_name HU.out).mono ?_); rintro e w1 ⟨rfl, hu, hbk, hbl⟩; have HU := Aside0.mk hu; have HK := Aside0.mk (HK.out.trans hbk); have HB := Aside0.mk (HB.out.trans hbl); replace cw := hu.c0; have HX := Aside0.mk (HX.out.on hbk); replace cb := HX.out.c0; clear hu hbk hbl) | (go_at_call 20; (with_reducible refine (u_here HU.out _ (by first | exact nmS_size _ | decide)).mono ?_); rintro e w1 ⟨rfl, hu, hbk, hbl⟩; have HU := Aside0.mk hu; have HK := Aside0.mk (HK.out.trans hbk); have HB := Aside0.mk (HB.out.trans hbl); replace cw := hu.c0; have HX := Aside0.mk (HX.out.on hbk); replace cb := HX.out.c0; clear hu hbk hbl) | (go_at_call 21; (with_reducible refine (u_jump HU.out _ _ (by first | exact nmS_size _ | decide)).mono ?_); rintro e w1 ⟨rfl, hu, hbk, hbl⟩; have HU := Aside0.mk hu; have HK := Aside0.mk (HK.out.trans hbk); have HB := Aside0.mk (HB.out.trans hbl); replace cw := hu.c0; have HX := Aside0.mk (HX.out.on hbk); replace cb := HX.out.c0; clear hu hbk hbl) | (go_at_call 22; (with_reducible refine (u_leap _ (by first | exact hn | exact nmS_size _ | decide) HU.out).mono ?_); rintro e w1 ⟨rfl, hu, hbk, hbl⟩; have HU := Aside0.mk hu; have HK := Aside0.mk (HK.out.trans hbk); have HB := Aside0.mk (HB.out.trans hbl); replace cw := hu.c0; have HX := Aside0.mk (HX.out.on hbk); replace cb := HX.out.c0; clear hu hbk hbl) | (go_at_call 16; (with_reducible refine (u_tail HU.out _ _).mono ?_); rintro e w1 ⟨rfl, hu, hbk, hbl⟩; have HU := Aside0.mk hu; have HK := Aside0.mk (HK.out.trans hbk); have HB := Aside0.mk (HB.out.trans hbl); replace cw := hu.c0; have HX := Aside0.mk (HX.out.on hbk); replace cb := HX.out.c0; clear hu hbk hbl) | (go_at_call 27; (with_reducible refine (u_U3 HU.out HX.out).mono ?_); rintro e w1 ⟨rfl, hu, hbk, hbl⟩; have HU := Aside0.mk hu; have HK := Aside0.mk (HK.out.trans hbk); have HB := Aside0.mk (HB.out.trans hbl); replace cw := hu.c0; have HX := Aside0.mk (HX.out.on hbk); replace cb := HX.out.c0; clear hu hbk hbl))
  go_end0
  exact ⟨rfl, HU.out.less (by omega), HK.out, HB.out⟩
set_option maxHeartbeats 4000000 in
theorem u_kind4 {w : World} {s : US} {k : Nat} {xb gb : Nat} (on : ByteArray) (hn : on.size ≤ 1000000) (h : IsU B w wb aw bm bf s (k + 31)) (hx : Box w xb wb) (hg : Gox w gb xb) : Calls Try.prog 23 #[.pointer (some ⟨wb, 0, none⟩), .func (.func 28) #[] #[.pointer (some ⟨gb, 0, none⟩), .pointer (some ⟨xb, 0, none⟩)], .string on] w (WroteU B w wb aw bm bf (uKind uU4 on s) k) := by
  have HU := Aside0.mk h
  have HK := Aside0.mk (BU.refl w)
  have HB := Aside0.mk (Below.refl B w)
  have cw := h.c0
  have HX := Aside0.mk hx
  have cb := hx.c0
  have HG := Aside0.mk hg
  have cg := hg.c0
  clear h hx hg
  go_enter Try.func23, Try.ntmps23
  go_wp2_with (first | (go_at_call 46; (with_reducible refine (u_name HU.out).mono ?_); rintro e w1 ⟨rfl, hu, hbk, hbl⟩; have HU := Aside0.mk hu; have HK := Aside0.mk (HK.out.trans hbk); have HB := Aside0.mk (HB.out.trans hbl); replace cw := hu.c0; have HX := Aside0.mk (HX.out.on hbk); replace cb := HX.out.c0; have HG := Aside0.mk (HG.out.on hbk); replace cg := HG.out.c0; clear hu hbk hbl) | (go_at_call 20; (with_reducible refine (u_here HU.out _ (by first | exact nmS_size _ | decide)).mono ?_); rintro e w1 ⟨rfl, hu, hbk, hbl⟩; have HU := Aside0.mk hu; have HK := Aside0.mk (HK.out.trans hbk); have HB := Aside0.mk (HB.out.trans hbl); replace cw := hu.c0; have HX := Aside0.mk (HX.out.on hbk); replace cb := HX.out.c0; have HG := Aside0.mk (HG.out.on hbk); replace cg := HG.out.c0; clear hu hbk hbl) | (go_at_call 21; (with_reducible refine (u_jump HU.out _ _ (by first | exact nmS_size _ | decide)).mono ?_); rintro e w1 ⟨rfl, hu, hbk, hbl⟩; have HU := Aside0.mk hu; have HK := Aside0.mk (HK.out.trans hbk); have HB := Aside0.mk (HB.out.trans hbl); replace cw := hu.c0; have HX := Aside0.mk (HX.out.on hbk); replace cb := HX.out.c0; have HG := Aside0.mk (HG.out.on hbk); replace cg := HG.out.c0; clear hu hbk hbl) | (go_at_call 22; (with_reducible refine (u_leap _ (by first | exact hn | exact nmS_size _ | decide) HU.out).mono ?_); rintro e w1 ⟨rfl, hu, hbk, hbl⟩; have HU := Aside0.mk hu; have HK := Aside0.mk (HK.out.trans hbk); have HB := Aside0.mk (HB.out.trans hbl); replace cw := hu.c0; have HX := Aside0.mk (HX.out.on hbk); replace cb := HX.out.c0; have HG := Aside0.mk (HG.out.on hbk); replace cg := HG.out.c0; clear hu hbk hbl) | (go_at_call 16; (with_reducible refine (u_tail HU.out _ _).mono ?_); rintro e w1 ⟨rfl, hu, hbk, hbl⟩; have HU := Aside0.mk hu; have HK := Aside0.mk (HK.out.trans hbk); have HB := Aside0.mk (HB.out.trans hbl); replace cw := hu.c0; have HX := Aside0.mk (HX.out.on hbk); replace cb := HX.out.c0; have HG := Aside0.mk (HG.out.on hbk); replace cg := HG.out.c0; clear hu hbk hbl) | (go_at_call 28; (with_reducible refine (u_U4 HU.out HX.out HG.out).mono ?_); rintro e w1 ⟨rfl, hu, hbk, hbl⟩; have HU := Aside0.mk hu; have HK := Aside0.mk (HK.out.trans hbk); have HB := Aside0.mk (HB.out.trans hbl); replace cw := hu.c0; have HX := Aside0.mk (HX.out.on hbk); replace cb := HX.out.c0; have HG := Aside0.mk (HG.out.on hbk); replace cg := HG.out.c0; clear hu hbk hbl))
  go_end0
  exact ⟨rfl, HU.out.less (by omega), HK.out, HB.out⟩
set_option maxHeartbeats 4000000 in
theorem u_kind5 {w : World} {s : US} {k : Nat} {xb gb : Nat} (on : ByteArray) (hn : on.size ≤ 1000000) (h : IsU B w wb aw bm bf s (k + 31)) (hx : Box w xb wb) (hg : Gox w gb xb) : Calls Try.prog 23 #[.pointer (some ⟨wb, 0, none⟩), .func (.func 29) #[] #[.pointer (some ⟨gb, 0, none⟩), .pointer (some ⟨xb, 0, none⟩)], .string on] w (WroteU B w wb aw bm bf (uKind uU5 on s) k) := by
  have HU := Aside0.mk h
  have HK := Aside0.mk (BU.refl w)
  have HB := Aside0.mk (Below.refl B w)
  have cw := h.c0
  have HX := Aside0.mk hx
  have cb := hx.c0
  have HG := Aside0.mk hg
  have cg := hg.c0
  clear h hx hg
  go_enter Try.func23, Try.ntmps23
  go_wp2_with (first | (go_at_call 46; (with_reducible refine (u_name HU.out).mono ?_); rintro e w1 ⟨rfl, hu, hbk, hbl⟩; have HU := Aside0.mk hu; have HK := Aside0.mk (HK.out.trans hbk); have HB := Aside0.mk (HB.out.trans hbl); replace cw := hu.c0; have HX := Aside0.mk (HX.out.on hbk); replace cb := HX.out.c0; have HG := Aside0.mk (HG.out.on hbk); replace cg := HG.out.c0; clear hu hbk hbl) | (go_at_call 20; (with_reducible refine (u_here HU.out _ (by first | exact nmS_size _ | decide)).mono ?_); rintro e w1 ⟨rfl, hu, hbk, hbl⟩; have HU := Aside0.mk hu; have HK := Aside0.mk (HK.out.trans hbk); have HB := Aside0.mk (HB.out.trans hbl); replace cw := hu.c0; have HX := Aside0.mk (HX.out.on hbk); replace cb := HX.out.c0; have HG := Aside0.mk (HG.out.on hbk); replace cg := HG.out.c0; clear hu hbk hbl) | (go_at_call 21; (with_reducible refine (u_jump HU.out _ _ (by first | exact nmS_size _ | decide)).mono ?_); rintro e w1 ⟨rfl, hu, hbk, hbl⟩; have HU := Aside0.mk hu; have HK := Aside0.mk (HK.out.trans hbk); have HB := Aside0.mk (HB.out.trans hbl); replace cw := hu.c0; have HX := Aside0.mk (HX.out.on hbk); replace cb := HX.out.c0; have HG := Aside0.mk (HG.out.on hbk); replace cg := HG.out.c0; clear hu hbk hbl) | (go_at_call 22; (with_reducible refine (u_leap _ (by first | exact hn | exact nmS_size _ | decide) HU.out).mono ?_); rintro e w1 ⟨rfl, hu, hbk, hbl⟩; have HU := Aside0.mk hu; have HK := Aside0.mk (HK.out.trans hbk); have HB := Aside0.mk (HB.out.trans hbl); replace cw := hu.c0; have HX := Aside0.mk (HX.out.on hbk); replace cb := HX.out.c0; have HG := Aside0.mk (HG.out.on hbk); replace cg := HG.out.c0; clear hu hbk hbl) | (go_at_call 16; (with_reducible refine (u_tail HU.out _ _).mono ?_); rintro e w1 ⟨rfl, hu, hbk, hbl⟩; have HU := Aside0.mk hu; have HK := Aside0.mk (HK.out.trans hbk); have HB := Aside0.mk (HB.out.trans hbl); replace cw := hu.c0; have HX := Aside0.mk (HX.out.on hbk); replace cb := HX.out.c0; have HG := Aside0.mk (HG.out.on hbk); replace cg := HG.out.c0; clear hu hbk hbl) | (go_at_call 29; (with_reducible refine (u_U5 HU.out HX.out HG.out).mono ?_); rintro e w1 ⟨rfl, hu, hbk, hbl⟩; have HU := Aside0.mk hu; have HK := Aside0.mk (HK.out.trans hbk); have HB := Aside0.mk (HB.out.trans hbl); replace cw := hu.c0; have HX := Aside0.mk (HX.out.on hbk); replace cb := HX.out.c0; have HG := Aside0.mk (HG.out.on hbk); replace cg := HG.out.c0; clear hu hbk hbl))
  go_end0
  exact ⟨rfl, HU.out.less (by omega), HK.out, HB.out⟩
set_option maxHeartbeats 4000000 in
theorem u_countN {w : World} {s : US} {k : Nat} (h : IsU B w wb aw bm bf s (k + 13)) : Calls Try.prog 32 #[.pointer (some ⟨wb, 0, none⟩), .func (.func 30) #[.pointer (some ⟨wb, 0, none⟩)] #[]] w (WroteU B w wb aw bm bf (uCount uNext s) k) := by
  have HU := Aside0.mk h
  have HK := Aside0.mk (BU.refl w)
  have HB := Aside0.mk (Below.refl B w)
  have cw := h.c0
  clear h
  go_enter Try.func32, Try.ntmps32
  go_wp2_with (first | (go_at_call 46; (with_reducible refine (u_name HU.out).mono ?_); rintro e w1 ⟨rfl, hu, hbk, hbl⟩; have HU := Aside0.mk hu; have HK := Aside0.mk (HK.out.trans hbk); have HB := Aside0.mk (HB.out.trans hbl); replace cw := hu.c0; clear hu hbk hbl) | (go_at_call 20; (with_reducible refine (u_here HU.out _ (by first | exact nmS_size _ | decide)).mono ?_); rintro e w1 ⟨rfl, hu, hbk, hbl⟩; have HU := Aside0.mk hu; have HK := Aside0.mk (HK.out.trans hbk); have HB := Aside0.mk (HB.out.trans hbl); replace cw := hu.c0; clear hu hbk hbl) | (go_at_call 21; (with_reducible refine (u_jump HU.out _ _ (by first | exact nmS_size _ | decide)).mono ?_); rintro e w1 ⟨rfl, hu, hbk, hbl⟩; have HU := Aside0.mk hu; have HK := Aside0.mk (HK.out.trans hbk); have HB := Aside0.mk (HB.out.trans hbl); replace cw := hu.c0; clear hu hbk hbl) | (go_at_call 22; (with_reducible refine (u_leap _ (by first | exact nmS_size _ | decide) HU.out).mono ?_); rintro e w1 ⟨rfl, hu, hbk, hbl⟩; have HU := Aside0.mk hu; have HK := Aside0.mk (HK.out.trans hbk); have HB := Aside0.mk (HB.out.trans hbl); replace cw := hu.c0; clear hu hbk hbl) | (go_at_call 16; (with_reducible refine (u_tail HU.out _ _).mono ?_); rintro e w1 ⟨rfl, hu, hbk, hbl⟩; have HU := Aside0.mk hu; have HK := Aside0.mk (HK.out.trans hbk); have HB := Aside0.mk (HB.out.trans hbl); replace cw := hu.c0; clear hu hbk hbl) | (go_at_call 30; (with_reducible refine (u_next HU.out).mono ?_); rintro e w1 ⟨rfl, hu, hbk, hbl⟩; have HU := Aside0.mk hu; have HK := Aside0.mk (HK.out.trans hbk); have HB := Aside0.mk (HB.out.trans hbl); replace cw := hu.c0; clear hu hbk hbl))
  go_end0
  exact ⟨rfl, HU.out.less (by omega), HK.out, HB.out⟩
end
set_option maxHeartbeats 2000000 in
theorem New_calls {B : Nat} (w : World) (hB : B ≤ w.heap.size) : Calls Try.prog 14 #[] w fun e w' => ∃ aw bm bf, e = .returned (.pointer (some ⟨aw, 0, none⟩)) ∧ IsA B w' aw bm bf 0 [] (.map []) (.map []) ∧ Below w.heap.size w w' := by
  have hmm := @run_makeMap Try.prog
  go_enter Try.func14, Try.ntmps14
  go_wp2
  go_ret
  have h1 := ((World.ownsMap_made (H := Unit) w Try.prog 9 (plainElem Try.prog 3)).alloc (.map #[] 0)).alloc (.cells #[.map (some w.heap.size), .map (some (w.heap.size + 1)), .slice none 0 0] 71 (0, 0))
  have h2 := (World.ownsMap_made (H := Unit) (w.alloc (.map #[] 0)) Try.prog 3 (plainElem Try.prog 9)).alloc (.cells #[.map (some w.heap.size), .map (some (w.heap.size + 1)), .slice none 0 0] 71 (0, 0))
  have e1 : (w.alloc (.map #[] 0)).heap.size = w.heap.size + 1 := by simp
  have e2 : ((w.alloc (.map #[] 0)).alloc (.map #[] 0)).heap.size = w.heap.size + 1 + 1 := by simp
  have hb := blk_new ((w.alloc (.map #[] 0)).alloc (.map #[] 0)) (.cells #[.map (some w.heap.size), .map (some (w.heap.size + 1)), .slice none 0 0] 71 (0, 0))
  rw [e1] at h2
  rw [e2] at hb
  exact ⟨w.heap.size + 1 + 1, w.heap.size, w.heap.size + 1, rfl, ⟨.slice none 0 0, hb, Kd.R_nil _ _ _ _ _, h1, h2, by omega, by omega, by omega, by omega, by simp⟩, below_alloc (below_alloc (below_alloc (Below.refl _ _) _) _) _⟩
end Go.Proofs.Ytpnmmpfidiegcaa.C
end
section
namespace Go.Proofs.Ytpnmmpfidiegcaa.C
open Go.Maps (Keyed)
open Go.RowKit Go.Proofs.YtpnmmpfidiegcaaW.PrintWords Go.Proofs.YtpnmmpfidiegcaaW.PrintLast Go.Proofs.YtpnmmpfidiegcaaW.PrintMore
set_option linter.unusedVariables false
set_option linter.unusedSimpArgs false
theorem zeroI (w : World) : (zeroValue 3).run Try.prog w = .ok (.int .i64 0) w := by kernel_rfl
def Linked (p P : Pr) (D E : Dm) : Prop := P.length = p.length ∧ (∀ x : Int, Maps.has E (.int .i64 x) = true → ∃ (j : Nat) (nm : ByteArray) (q : Int), x = (j : Int) ∧ j < p.length ∧ nm.size ≤ 1000000 ∧ (∀ zd, E.atKey (.int .i64 x) zd = .lit (.string nm.data.toList)) ∧ D.atKey (.string nm.data.toList) (.lit (.int .i64 0)) = .lit (.int .i64 q) ∧ -1000 ≤ q ∧ q ≤ 1000 ∧ ∀ (h : j < p.length) (h' : j < P.length), P[j] = ⟨p[j].f0, p[j].f1, q - (j : Int), p[j].f3, p[j].f4⟩) ∧
  ∀ (j : Nat) (h : j < p.length) (h' : j < P.length), Maps.has E (.int .i64 (j : Int)) = false → P[j] = p[j]
def Mixed (p P q : Pr) (left : Lit → Bool) : Prop := q.length = p.length ∧ (∀ (j : Nat) (h : j < p.length) (h' : j < q.length), left (.int .i64 (j : Int)) = true → q[j] = p[j]) ∧ ∀ (j : Nat) (h : j < P.length) (h' : j < q.length), left (.int .i64 (j : Int)) = false → q[j] = P[j]
theorem put_b {B g n cap j : Nat} {w : World} {q : Pr} (h : Kd.R k52 52 w B (fun _ => True) (.slice (some ⟨g, 0, none⟩) n cap) q) (hj : j < q.length) (i0 : w.cell? ⟨g, j * 5, none⟩ = some (.int .i64 q[j].f0)) (i1 : w.cell? ⟨g, j * 5 + 1, none⟩ = some (.int .i64 q[j].f1)) (i2 : w.cell? ⟨g, j * 5 + 2, none⟩ = some (.int .i64 q[j].f2)) (i3 : w.cell? ⟨g, j * 5 + 3, none⟩ = some (.int .i64 q[j].f3)) (i4 : w.cell? ⟨g, j * 5 + 4, none⟩ = some (.string q[j].f4)) (u : Int) :
    Kd.R k52 52 (w.setCell ⟨g, j * 5 + 2, none⟩ (.int .i64 u)) B (fun _ => True) (.slice (some ⟨g, 0, none⟩) n cap) (q.set j ⟨q[j].f0, q[j].f1, u, q[j].f3, q[j].f4⟩) ∧ w.grownBy (w.setCell ⟨g, j * 5 + 2, none⟩ (.int .i64 u)) (some g) := by
  have hn := (Kd.R_reads' h).1
  have := Kd.R_seg (okp := fun _ => False) h (j : Int) (by omega) (by omega) (c := [.int .i64 q[j].f0, .int .i64 q[j].f1, .int .i64 q[j].f2, .int .i64 q[j].f3, .string q[j].f4]) (seg := [.int .i64 u]) (j := 2) (x' := ⟨q[j].f0, q[j].f1, u, q[j].f3, q[j].f4⟩) rfl (fun m x hx => by
    rw [Int.toNat_natCast]
    match m, hx with
    | 0, hx => cases hx; exact i0
    | 1, hx => cases hx; exact i1
    | 2, hx => cases hx; exact i2
    | 3, hx => cases hx; exact i3
    | 4, hx => cases hx; exact i4
    | m + 5, hx => simp at hx) (show 3 ≤ 5 by decide) (k52_mkM _ _ _ (⟨q[j].f0, q[j].f1, u, q[j].f3, q[j].f4⟩ : S52)) (fun k hk => hk.elim)
  rw [Int.toNat_natCast] at this
  exact this
set_option maxHeartbeats 8000000 in
set_option maxRecDepth 100000 in
theorem Done_calls {B aw bm bf c : Nat} {p P : Pr} {D E : Dm} {w : World} (h : IsA B w aw bm bf c p D E) (hp : 0 < p.length) (hl : Linked p P D E) :
    Calls Try.prog 35 #[.pointer (some ⟨aw, 0, none⟩)] w fun e w' => ∃ v, e = .returned v ∧ Kd.R k52 52 w' B (fun _ => True) v P ∧ Below B w w' := by
  obtain ⟨v, h1, h2, h3, h4, h5, h6, h7, h8, h9⟩ := h
  obtain ⟨g, cap, rfl, hgB, hgl, hgc⟩ := Kd.R_form h2 hp
  have c1 := (blk_cell h1 1).trans rfl
  have H1 := Aside0.mk h1
  have H2 := Aside0.mk h2
  have H3 := Aside0.mk h3
  have H4 := Aside0.mk h4
  have H5 := Aside0.mk (show bm ≠ bf ∧ B ≤ aw ∧ B ≤ bm ∧ B ≤ bf ∧ p.length ≤ 1000 from ⟨h5, h6, h7, h8, h9⟩)
  have HBS := Aside0.mk (bel_size h1 h6)
  have HL := Aside0.mk hl
  have HG := Aside0.mk hgc
  clear h1 h2 h3 h4 h5 h6 h7 h8 h9 hl hgc
  go_enter Try.func35, Try.ntmps35
  go_wp2_with (first
    | (at_range; refine wpList_range_own _ rfl _ 67 rfl 3 9 lawI Try.underlying67 _ bf c E rfl H4.out ?_; intro w0 hrg0 hg0 hs0)
    | go_in)
  go_frame
  go_loopw [3] (fun _ wr => ∃ (left : Lit → Bool) (cnt : Nat) (q : Pr), Aside0 (wr.ranges Try.prog 3 (plainElem Try.prog 9) bf w.heap.size c E left cnt) ∧ Aside0 (∀ kl, left kl = true → Maps.has E kl = true) ∧ Aside0 (Mixed p P q left) ∧
      Aside0 (wr.heap[aw]? = some (.cells #[.map (some bm), .map (some bf), .slice (some ⟨g, 0, none⟩) p.length cap] 71 (0, 0))) ∧ Aside0 (Kd.R k52 52 wr B (fun _ => True) (.slice (some ⟨g, 0, none⟩) p.length cap) q) ∧ Aside0 (AtM wr bm c D) ∧ Aside0 (Below B w wr) ∧ w.heap.size + 1 ≤ wr.heap.size)
    (fun _ wr => wr.rangeLeft bf w.heap.size)
  case atStart =>
    refine ⟨_, _, p, ⟨hrg0⟩, ⟨fun _ h => h⟩, ⟨⟨rfl, fun _ _ _ _ => rfl, fun j h h' hh => (HL.out.2.2 j (by rw [← HL.out.1]; exact h) h hh).symm⟩⟩, ⟨blk_grown H1.out hg0 (by simp)⟩, ⟨Kd.R_mono (Kd.R_grown H2.out hg0 (fun k _ => by simp)) (fun _ h => h)⟩, ⟨H3.out.kept hg0 (by simp)⟩, ⟨(Below.refl B w).grown hg0 HBS.out (fun k e => by cases e)⟩, by omega⟩
  case round =>
    obtain ⟨left, cnt, q, HRG, HLH, HMX, HA1, HR, HAT, HB, hsz⟩ := hrel
    go_wp2_with (first
      | (at_next; refine wpList_next_ranges _ rfl _ rfl 3 lawI (plainElem Try.prog 9) (Value.int .i64) Value.string (fun key kl hk => by obtain ⟨x, rfl, _⟩ := Maps.keyOf_int_inv Try.underlying3 hk; exact ⟨x, rfl⟩) (fun v y hv => by obtain ⟨s, rfl, _⟩ := plainElem_string_inv Try.underlying9 hv; exact ⟨s, rfl⟩) bf w.heap.size c E _ _ rfl HRG.out ?_ ?_)
      | go_in)
    · intro hc0 hl0
      have hq : q = P := by
        refine List.ext_getElem (by rw [HMX.out.1, HL.out.1]) fun j h1 h2 => HMX.out.2.2 j h2 h1 (hl0 _)
      have c2 := (blk_cell HA1.out 2).trans rfl
      go_wp2
      go_ret
      rw [← hq]
      exact ⟨_, rfl, HR.out, HB.out⟩
    · intro x s kl y ps w1 cnt1 hkey hlk hv hat hrg1 hlt hg1 hs1 hen
      obtain ⟨x', ex, rfl, _⟩ := Maps.keyOf_int_inv Try.underlying3 hkey
      cases ex
      obtain ⟨s', es, hy, hss⟩ := plainElem_string_inv Try.underlying9 hv
      cases es
      obtain ⟨j, nm, Q, rfl, hj, hnz, hE, hD, hq1, hq2, hPj⟩ := HL.out.2.1 x (HLH.out _ hlk)
      have hns : nm.data.toList = s.data.toList := by
        have e1 := hat .nil
        rw [hE] at e1
        injection hy with hy1 _
        rw [hy1] at e1
        injection e1 with e1
        injection e1
      rw [hns] at hD
      have hAT := HAT.out.kept hg1 (fun e => by have := HAT.out.lt; have h2 := H3.out.lt; have := Option.some.inj e; omega)
      obtain ⟨cc, hrun, hat2, _⟩ := hAT.drew.lookup_int lawS Try.underlying66 Try.underlying3 (zeroI _) (Go.WideMaps.keyOf_string_mk Try.underlying9 hss)
      obtain rfl : cc = Q := by
        rw [hD] at hat2
        injection hat2 with hat2
        injection hat2 with _ hat2
        exact hat2.symm
      have hA1 : w1.heap[aw]? = _ := blk_grown HA1.out hg1 (fun e => by have := blk_lt H1.out; have := Option.some.inj e; omega)
      have hR1 : Kd.R k52 52 w1 B (fun _ => True) (.slice (some ⟨g, 0, none⟩) p.length cap) q := by
        refine Kd.R_mono (Kd.R_grown (Kd.R_bound HR.out) hg1 (fun k hk e => ?_)) (fun _ _ => trivial)
        obtain ⟨_, _, _, q', _, cells, hc⟩ := hk
        obtain ⟨es, clock, since, seen, c0, _, _, _, _, hi, _⟩ := HRG.out
        rw [Option.some.inj e, hi] at hc
        injection hc with hc
        cases hc
      have c0 := (blk_cell hA1 0).trans rfl
      have c2 := (blk_cell hA1 2).trans rfl
      have d0 := pw_cell_below (below_drew (Below.refl _ _)) c0
      have d2 := pw_cell_below (below_drew (Below.refl _ _)) c2
      have hjq : j < q.length := by rw [HMX.out.1]; exact hj
      obtain ⟨cells, hgc⟩ : ∃ cells, w1.heap[g]? = some (.cells cells 52 (0, 0)) := by
        obtain ⟨g', cap', e', _, _, hc'⟩ := Kd.R_form hR1 (by omega)
        injection e' with e' _ _
        injection e' with e'
        injection e' with e' _ _
        subst e'
        exact hc'
      have hfz := blk_frozen hgc (j * 5 + 2)
      obtain ⟨ad, ead, i0, i1, i2, i3, i4⟩ := at_T52 (Kd.R_reads' hR1).2.2 (j : Int) (by omega) (by omega)
      obtain rfl : (⟨g, 0, none⟩ : Addr) = ad := Option.some.inj ead
      have hrd : rd_T52 q (j : Int) = q[j] := by unfold rd_T52; simp [hjq]
      rw [hrd, Int.toNat_natCast, add_plain] at i0 i1 i2 i3 i4
      have a2 : w1.drew.cell? ⟨g, j * 5 + 2, none⟩ = some (.int .i64 q[j].f2) := pw_cell_below (below_drew (Below.refl _ _)) i2
      have hp5 := H5.out.2.2.2.2
      have b1 : (j : Int) < (p.length : Int) := by omega
      have HR1 := Aside0.mk hR1
      have HRG1 := Aside0.mk hrg1
      have HG1 := Aside0.mk hg1
      have HAT1 := Aside0.mk hAT
      have HA2 := Aside0.mk hA1
      have HPJ := Aside0.mk hPj
      have HI := Aside0.mk i0
      have HI1 := Aside0.mk i1
      have HI2 := Aside0.mk i2
      have HI3 := Aside0.mk i3
      have HI4 := Aside0.mk i4
      have HJ := Aside0.mk hj
      have HLT := Aside0.mk hlt
      have HS1 := Aside0.mk hs1
      have HGC := Aside0.mk hgc
      have HLK := Aside0.mk hlk
      clear hkey hlk hv hat hrg1 hlt hg1 hs1 hy hE hD hns hAT hat2 hA1 hR1 hPj i0 i1 i2 i3 i4 hrd ead hgc
      go_wp2
      go_region_law (fail)
      all_goals
        have hwr : IntKind.i64.wrap (cc - (j : Int)) = cc - (j : Int) := by
          have : wrap64 (cc - (j : Int)) = cc - (j : Int) := by unfold wrap64; omega
          first | exact this | (simp only [i64_w]; exact this)
        rw [hwr]
        obtain ⟨k1, k2⟩ := put_b HR1.out (by rw [HMX.out.1]; exact HJ.out) HI.out HI1.out HI2.out HI3.out HI4.out (cc - (j : Int))
        have hg2 : w1.grownBy (w1.setCell ⟨g, j * 5 + 2, none⟩ (.int .i64 (cc - (j : Int)))).drew (some g) := ⟨k2.os, k2.tape, k2.output, k2.size, k2.block⟩
        have hbg : bf ≠ g := map_block HRG1.out.owns HGC.out
        have hbm : bm ≠ g := map_block HAT1.out HGC.out
        have haw : aw ≠ g := fun e => by
          have h1 := HA2.out
          rw [e, HGC.out] at h1
          injection h1 with h1
          injection h1 with _ h1
          exact absurd h1 (by decide)
        have hrg2 := HRG1.out.kept hg2 (fun e => hbg (Option.some.inj e)) (fun e => by have := Option.some.inj e; omega)
        go_roundw
        case measure => rw [hrg2.left_eq, HRG.out.left_eq]; exact HLT.out
        case rel =>
          refine ⟨_, _, _, _, _, _, _, _, _, _, _, _, _, _, _, _, _, _, _, _, _, _, _, ?_, rfl⟩
          have hql := HMX.out.1
          refine ⟨_, cnt1, _, ⟨hrg2⟩, ⟨fun z hz => HLH.out z (by cases h : left z with | true => rfl | false => rw [h] at hz; cases hz)⟩, ⟨⟨by rw [List.length_set]; exact hql, fun j' h1 h2 h3 => ?_, fun j' h1 h2 h3 => ?_⟩⟩, ⟨blk_grown HA2.out hg2 (fun e => haw (Option.some.inj e))⟩, ⟨Kd.R_drew k1⟩, ⟨HAT1.out.kept hg2 (fun e => hbm (Option.some.inj e))⟩, ⟨(HB.out.grown HG1.out (Nat.le_trans HBS.out (by omega)) (fun k e => by cases e; exact HBS.out)).grown hg2 (by have := HS1.out; have := HBS.out; omega) (fun k e => by cases e; exact hgB)⟩, by have := HS1.out; have := k2.size; show _ ≤ (w1.setCell ⟨g, j * 5 + 2, none⟩ (.int .i64 (cc - (j : Int)))).heap.size; omega⟩
          · replace h3 : (left (.int .i64 (j' : Int)) && !(Lit.int .i64 (j' : Int)).sameKey (.int .i64 (j : Int))) = true := h3
            have hl : left (.int .i64 (j' : Int)) = true ∧ j' ≠ j := by
              cases h : left (.int .i64 (j' : Int)) with
              | false => rw [h] at h3; cases h3
              | true =>
                refine ⟨rfl, fun e => ?_⟩
                subst e
                rw [h] at h3
                simp [Lit.sameKey] at h3
            rw [List.getElem_set_ne (Ne.symm hl.2)]
            exact HMX.out.2.1 j' h1 (by rw [hql]; exact h1) hl.1
          · replace h3 : (left (.int .i64 (j' : Int)) && !(Lit.int .i64 (j' : Int)).sameKey (.int .i64 (j : Int))) = false := h3
            by_cases e : j' = j
            · subst e
              rw [List.getElem_set_self]
              have hq := HMX.out.2.1 j' HJ.out (by rw [hql]; exact HJ.out) HLK.out
              rw [HPJ.out HJ.out h1, hq]
            · rw [List.getElem_set_ne (Ne.symm e)]
              refine HMX.out.2.2 j' h1 (by rw [List.length_set] at h2; exact h2) ?_
              cases h : left (.int .i64 (j' : Int)) with
              | false => rfl
              | true =>
                rw [h] at h3
                simp [Lit.sameKey] at h3
                exact absurd (by omega) e
end Go.Proofs.Ytpnmmpfidiegcaa.C
end
