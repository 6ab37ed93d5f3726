/- Texts of this claim, together: what the functions return, and what they say in plain words. -/
import Derived.Test.YtpnmmpfidiegcaaUK
section
namespace Go.Proofs.Ytpnmmpfidiegcaa.C
open Go.RowKit Go.Proofs.YtpnmmpfidiegcaaW.PrintWords Go.Proofs.YtpnmmpfidiegcaaW.PrintLast Go.Proofs.YtpnmmpfidiegcaaW.PrintMore
set_option linter.unusedVariables false
set_option linter.unusedSimpArgs false
def uNext (s : US) : US := ((s.ins ⟨4, 2, 2, 0, ⟨#[]⟩⟩).ins ⟨0, 13, 0, 0, ⟨#[48]⟩⟩).ins ⟨2, 3, 13, 3, ⟨#[]⟩⟩
def uCount (d : US → US) (s : US) : US := (((d ((((s.nam.nam.nam.here (nmS (s.n + 1))).jmp 10 (nmS (s.n + 2))).jmp 14 (nmS (s.n + 3))).here (nmS (s.n + 2)))).ins ⟨4, 10, 10, 0, ⟨#[]⟩⟩).jmp 14 (nmS (s.n + 1))).here (nmS (s.n + 3))
def uFetch1 (s : US) : US := s.ins ⟨4, 11, 11, 0, ⟨#[]⟩⟩
def uFetch (q : Int) (s : US) : US := (uCount uFetch1 (s.ins ⟨1, 11, 4, 0, ⟨#[]⟩⟩)).ins ⟨3, q, 11, 0, ⟨#[]⟩⟩
def uStore1 (s : US) : US := ((s.ins ⟨3, 13, 11, 0, ⟨#[]⟩⟩).ins ⟨2, 12, 13, 12, ⟨#[]⟩⟩).ins ⟨4, 11, 11, 0, ⟨#[]⟩⟩
def uStoreA (s : US) : US := ((uCount uStore1 (((s.ins ⟨1, 11, 4, 0, ⟨#[]⟩⟩).ins ⟨0, 12, 0, 0, ⟨#[48]⟩⟩).ins ⟨1, 10, 7, 0, ⟨#[]⟩⟩)).ins ⟨4, 11, 11, 0, ⟨#[]⟩⟩).ins ⟨2, 11, 8, 11, ⟨#[]⟩⟩
def uStoreB (s : US) : US := ((((((((((s.nam.nam.nam.here (nmS (s.n + 1))).jmp 12 (nmS (s.n + 2))).jmp 14 (nmS (s.n + 3))).here (nmS (s.n + 2))).ins ⟨3, 13, 12, 0, ⟨#[]⟩⟩).ins ⟨2, 11, 13, 11, ⟨#[]⟩⟩).ins ⟨4, 12, 12, 0, ⟨#[]⟩⟩).jmp 14 (nmS (s.n + 1))).here (nmS (s.n + 3)))).ins ⟨1, 4, 11, 0, ⟨#[]⟩⟩
def uStore (s : US) : US := uStoreB (uStoreA s)
def uKind (d : US → US) (on : ByteArray) (s : US) : US := (((d (s.nam.jmp 5 (nmS (s.n + 1)))).jmp 14 on).here (nmS (s.n + 1))).ins ⟨4, 5, 5, 0, ⟨#[]⟩⟩
def uU1 (s : US) : US := s.ins ⟨1, 8, 6, 0, ⟨#[]⟩⟩
def uU2 (s : US) : US := uFetch 8 (s.ins ⟨1, 10, 6, 0, ⟨#[]⟩⟩)
def uU3 (s : US) : US := (uFetch 8 ((uFetch 9 (s.ins ⟨3, 10, 6, 0, ⟨#[]⟩⟩)).ins ⟨4, 10, 6, 0, ⟨#[]⟩⟩)).ins ⟨2, 8, 9, 8, ⟨#[]⟩⟩
def uU4 (s : US) : US := (uU2 s).ins ⟨3, 8, 8, 0, ⟨#[]⟩⟩
def uU5 (s : US) : US := (uU2 s).ins ⟨4, 8, 8, 0, ⟨#[]⟩⟩
def uU6 (s : US) : US := s.ins ⟨4, 3, 3, 0, ⟨#[]⟩⟩
def uU7 (s : US) : US := s.ins ⟨4, 2, 2, 0, ⟨#[]⟩⟩
section
variable {B : Nat} {wb aw bm bf : Nat}
abbrev Box (w : World) (xb wb : Nat) : Prop := w.heap[xb]? = some (.cells #[.pointer (some ⟨wb, 0, none⟩)] 38 (0, 0))
theorem Box.on {w w' : World} {xb wb : Nat} (h : Box w xb wb) (hb : BU w w') : Box w' xb wb := hb _ _ _ (by decide) (by decide) (by decide) h
theorem Box.c0 {w : World} {xb wb : Nat} (h : Box w xb wb) : w.cell? ⟨xb, 0, none⟩ = some (.pointer (some ⟨wb, 0, none⟩)) := (blk_cell h 0).trans rfl
set_option maxHeartbeats 4000000 in
theorem u_leap {w : World} {s : US} {k : Nat} (nm : ByteArray) (hn : nm.size ≤ 1000000) (h : IsU B w wb aw bm bf s (k + 1)) : Calls Try.prog 22 #[.pointer (some ⟨wb, 0, none⟩), .string nm] w (WroteU B w wb aw bm bf (s.jmp 14 nm) k) := by
  have HU := Aside0.mk h
  have HK := Aside0.mk (BU.refl w)
  have HB := Aside0.mk (Below.refl B w)
  have cw := h.c0
  clear h
  go_enter Try.func22, Try.ntmps22
  go_wp2_with (first | (go_at_call 21; (with_reducible refine (u_jump HU.out _ _ (by first | exact hn | exact nmS_size _ | decide)).mono ?_); rintro e w1 ⟨rfl, hu, hbk, hbl⟩; have HU := Aside0.mk hu; have HK := Aside0.mk (HK.out.trans hbk); have HB := Aside0.mk (HB.out.trans hbl); replace cw := hu.c0; clear hu hbk hbl))
  go_end0
  exact ⟨rfl, HU.out.less (by omega), HK.out, HB.out⟩
set_option maxHeartbeats 4000000 in
theorem u_next {w : World} {s : US} {k : Nat} (h : IsU B w wb aw bm bf s (k + 3)) : Calls Try.prog 30 #[.pointer (some ⟨wb, 0, none⟩)] w (WroteU B w wb aw bm bf (uNext s) k) := by
  have HU := Aside0.mk h
  have HK := Aside0.mk (BU.refl w)
  have HB := Aside0.mk (Below.refl B w)
  have cw := h.c0
  clear h
  go_enter Try.func30, Try.ntmps30
  go_wp2_with (first | (go_at_call 16; (with_reducible refine (u_tail HU.out _ _).mono ?_); rintro e w1 ⟨rfl, hu, hbk, hbl⟩; have HU := Aside0.mk hu; have HK := Aside0.mk (HK.out.trans hbk); have HB := Aside0.mk (HB.out.trans hbl); replace cw := hu.c0; clear hu hbk hbl) | (go_at_call 19; (with_reducible refine (u_set HU.out _ _).mono ?_); rintro e w1 ⟨rfl, hu, hbk, hbl⟩; have HU := Aside0.mk hu; have HK := Aside0.mk (HK.out.trans hbk); have HB := Aside0.mk (HB.out.trans hbl); replace cw := hu.c0; clear hu hbk hbl) | (go_at_call 18; (with_reducible refine (u_cons HU.out _ _ _).mono ?_); rintro e w1 ⟨rfl, hu, hbk, hbl⟩; have HU := Aside0.mk hu; have HK := Aside0.mk (HK.out.trans hbk); have HB := Aside0.mk (HB.out.trans hbl); replace cw := hu.c0; clear hu hbk hbl))
  go_end0
  exact ⟨rfl, HU.out.less (by omega), HK.out, HB.out⟩
set_option maxHeartbeats 4000000 in
theorem u_fetch1 {w : World} {s : US} {k : Nat} {xb : Nat} (h : IsU B w wb aw bm bf s (k + 1)) (hx : Box w xb wb) : Calls Try.prog 47 #[.pointer (some ⟨xb, 0, none⟩)] w (WroteU B w wb aw bm bf (uFetch1 s) k) := by
  have HU := Aside0.mk h
  have HK := Aside0.mk (BU.refl w)
  have HB := Aside0.mk (Below.refl B w)
  have cw := h.c0
  have HX := Aside0.mk hx
  have cb := hx.c0
  clear hx
  clear h
  go_enter Try.func47, Try.ntmps47
  go_wp2_with (first | (go_at_call 16; (with_reducible refine (u_tail HU.out _ _).mono ?_); rintro e w1 ⟨rfl, hu, hbk, hbl⟩; have HU := Aside0.mk hu; have HK := Aside0.mk (HK.out.trans hbk); have HB := Aside0.mk (HB.out.trans hbl); replace cw := hu.c0; have HX := Aside0.mk (HX.out.on hbk); replace cb := HX.out.c0; clear hu hbk hbl))
  go_end0
  exact ⟨rfl, HU.out.less (by omega), HK.out, HB.out⟩
set_option maxHeartbeats 4000000 in
theorem u_store1 {w : World} {s : US} {k : Nat} {xb : Nat} (h : IsU B w wb aw bm bf s (k + 3)) (hx : Box w xb wb) : Calls Try.prog 48 #[.pointer (some ⟨xb, 0, none⟩)] w (WroteU B w wb aw bm bf (uStore1 s) k) := by
  have HU := Aside0.mk h
  have HK := Aside0.mk (BU.refl w)
  have HB := Aside0.mk (Below.refl B w)
  have cw := h.c0
  have HX := Aside0.mk hx
  have cb := hx.c0
  clear hx
  clear h
  go_enter Try.func48, Try.ntmps48
  go_wp2_with (first | (go_at_call 15; (with_reducible refine (u_head HU.out _ _).mono ?_); rintro e w1 ⟨rfl, hu, hbk, hbl⟩; have HU := Aside0.mk hu; have HK := Aside0.mk (HK.out.trans hbk); have HB := Aside0.mk (HB.out.trans hbl); replace cw := hu.c0; have HX := Aside0.mk (HX.out.on hbk); replace cb := HX.out.c0; clear hu hbk hbl) | (go_at_call 18; (with_reducible refine (u_cons HU.out _ _ _).mono ?_); rintro e w1 ⟨rfl, hu, hbk, hbl⟩; have HU := Aside0.mk hu; have HK := Aside0.mk (HK.out.trans hbk); have HB := Aside0.mk (HB.out.trans hbl); replace cw := hu.c0; have HX := Aside0.mk (HX.out.on hbk); replace cb := HX.out.c0; clear hu hbk hbl) | (go_at_call 16; (with_reducible refine (u_tail HU.out _ _).mono ?_); rintro e w1 ⟨rfl, hu, hbk, hbl⟩; have HU := Aside0.mk hu; have HK := Aside0.mk (HK.out.trans hbk); have HB := Aside0.mk (HB.out.trans hbl); replace cw := hu.c0; have HX := Aside0.mk (HX.out.on hbk); replace cb := HX.out.c0; clear hu hbk hbl))
  go_end0
  exact ⟨rfl, HU.out.less (by omega), HK.out, HB.out⟩
set_option maxHeartbeats 4000000 in
theorem u_U1 {w : World} {s : US} {k : Nat} {xb : Nat} (h : IsU B w wb aw bm bf s (k + 1)) (hx : Box w xb wb) : Calls Try.prog 24 #[.pointer (some ⟨xb, 0, none⟩)] w (WroteU B w wb aw bm bf (uU1 s) k) := by
  have HU := Aside0.mk h
  have HK := Aside0.mk (BU.refl w)
  have HB := Aside0.mk (Below.refl B w)
  have cw := h.c0
  have HX := Aside0.mk hx
  have cb := hx.c0
  clear hx
  clear h
  go_enter Try.func24, Try.ntmps24
  go_wp2_with (first | (go_at_call 17; (with_reducible refine (u_move HU.out _ _).mono ?_); rintro e w1 ⟨rfl, hu, hbk, hbl⟩; have HU := Aside0.mk hu; have HK := Aside0.mk (HK.out.trans hbk); have HB := Aside0.mk (HB.out.trans hbl); replace cw := hu.c0; have HX := Aside0.mk (HX.out.on hbk); replace cb := HX.out.c0; clear hu hbk hbl))
  go_end0
  exact ⟨rfl, HU.out.less (by omega), HK.out, HB.out⟩
set_option maxHeartbeats 4000000 in
theorem u_U6 {w : World} {s : US} {k : Nat} {xb : Nat} (h : IsU B w wb aw bm bf s (k + 1)) (hx : Box w xb wb) : Calls Try.prog 33 #[.pointer (some ⟨xb, 0, none⟩)] w (WroteU B w wb aw bm bf (uU6 s) k) := by
  have HU := Aside0.mk h
  have HK := Aside0.mk (BU.refl w)
  have HB := Aside0.mk (Below.refl B w)
  have cw := h.c0
  have HX := Aside0.mk hx
  have cb := hx.c0
  clear hx
  clear h
  go_enter Try.func33, Try.ntmps33
  go_wp2_with (first | (go_at_call 16; (with_reducible refine (u_tail HU.out _ _).mono ?_); rintro e w1 ⟨rfl, hu, hbk, hbl⟩; have HU := Aside0.mk hu; have HK := Aside0.mk (HK.out.trans hbk); have HB := Aside0.mk (HB.out.trans hbl); replace cw := hu.c0; have HX := Aside0.mk (HX.out.on hbk); replace cb := HX.out.c0; clear hu hbk hbl))
  go_end0
  exact ⟨rfl, HU.out.less (by omega), HK.out, HB.out⟩
set_option maxHeartbeats 4000000 in
theorem u_U7 {w : World} {s : US} {k : Nat} {xb : Nat} (h : IsU B w wb aw bm bf s (k + 1)) (hx : Box w xb wb) : Calls Try.prog 34 #[.pointer (some ⟨xb, 0, none⟩)] w (WroteU B w wb aw bm bf (uU7 s) k) := by
  have HU := Aside0.mk h
  have HK := Aside0.mk (BU.refl w)
  have HB := Aside0.mk (Below.refl B w)
  have cw := h.c0
  have HX := Aside0.mk hx
  have cb := hx.c0
  clear hx
  clear h
  go_enter Try.func34, Try.ntmps34
  go_wp2_with (first | (go_at_call 16; (with_reducible refine (u_tail HU.out _ _).mono ?_); rintro e w1 ⟨rfl, hu, hbk, hbl⟩; have HU := Aside0.mk hu; have HK := Aside0.mk (HK.out.trans hbk); have HB := Aside0.mk (HB.out.trans hbl); replace cw := hu.c0; have HX := Aside0.mk (HX.out.on hbk); replace cb := HX.out.c0; clear hu hbk hbl))
  go_end0
  exact ⟨rfl, HU.out.less (by omega), HK.out, HB.out⟩
set_option maxHeartbeats 4000000 in
theorem u_countF {w : World} {s : US} {k : Nat} {xb : Nat} (h : IsU B w wb aw bm bf s (k + 11)) (hx : Box w xb wb) : Calls Try.prog 32 #[.pointer (some ⟨wb, 0, none⟩), .func (.func 47) #[] #[.pointer (some ⟨xb, 0, none⟩)]] w (WroteU B w wb aw bm bf (uCount uFetch1 s) k) := by
  have HU := Aside0.mk h
  have HK := Aside0.mk (BU.refl w)
  have HB := Aside0.mk (Below.refl B w)
  have cw := h.c0
  have HX := Aside0.mk hx
  have cb := hx.c0
  clear hx
  clear h
  go_enter Try.func32, Try.ntmps32
  go_wp2_with (first | (go_at_call 46; (with_reducible refine (u_name HU.out).mono ?_); rintro e w1 ⟨rfl, hu, hbk, hbl⟩; have HU := Aside0.mk hu; have HK := Aside0.mk (HK.out.trans hbk); have HB := Aside0.mk (HB.out.trans hbl); replace cw := hu.c0; have HX := Aside0.mk (HX.out.on hbk); replace cb := HX.out.c0; clear hu hbk hbl) | (go_at_call 20; (with_reducible refine (u_here HU.out _ (by first | exact nmS_size _ | decide)).mono ?_); rintro e w1 ⟨rfl, hu, hbk, hbl⟩; have HU := Aside0.mk hu; have HK := Aside0.mk (HK.out.trans hbk); have HB := Aside0.mk (HB.out.trans hbl); replace cw := hu.c0; have HX := Aside0.mk (HX.out.on hbk); replace cb := HX.out.c0; clear hu hbk hbl) | (go_at_call 21; (with_reducible refine (u_jump HU.out _ _ (by first | exact nmS_size _ | decide)).mono ?_); rintro e w1 ⟨rfl, hu, hbk, hbl⟩; have HU := Aside0.mk hu; have HK := Aside0.mk (HK.out.trans hbk); have HB := Aside0.mk (HB.out.trans hbl); replace cw := hu.c0; have HX := Aside0.mk (HX.out.on hbk); replace cb := HX.out.c0; clear hu hbk hbl) | (go_at_call 22; (with_reducible refine (u_leap _ (by first | exact nmS_size _ | decide) HU.out).mono ?_); rintro e w1 ⟨rfl, hu, hbk, hbl⟩; have HU := Aside0.mk hu; have HK := Aside0.mk (HK.out.trans hbk); have HB := Aside0.mk (HB.out.trans hbl); replace cw := hu.c0; have HX := Aside0.mk (HX.out.on hbk); replace cb := HX.out.c0; clear hu hbk hbl) | (go_at_call 16; (with_reducible refine (u_tail HU.out _ _).mono ?_); rintro e w1 ⟨rfl, hu, hbk, hbl⟩; have HU := Aside0.mk hu; have HK := Aside0.mk (HK.out.trans hbk); have HB := Aside0.mk (HB.out.trans hbl); replace cw := hu.c0; have HX := Aside0.mk (HX.out.on hbk); replace cb := HX.out.c0; clear hu hbk hbl) | (go_at_call 47; (with_reducible refine (u_fetch1 HU.out HX.out).mono ?_); rintro e w1 ⟨rfl, hu, hbk, hbl⟩; have HU := Aside0.mk hu; have HK := Aside0.mk (HK.out.trans hbk); have HB := Aside0.mk (HB.out.trans hbl); replace cw := hu.c0; have HX := Aside0.mk (HX.out.on hbk); replace cb := HX.out.c0; clear hu hbk hbl))
  go_end0
  exact ⟨rfl, HU.out.less (by omega), HK.out, HB.out⟩
set_option maxHeartbeats 4000000 in
theorem u_countS {w : World} {s : US} {k : Nat} {xb : Nat} (h : IsU B w wb aw bm bf s (k + 13)) (hx : Box w xb wb) : Calls Try.prog 32 #[.pointer (some ⟨wb, 0, none⟩), .func (.func 48) #[] #[.pointer (some ⟨xb, 0, none⟩)]] w (WroteU B w wb aw bm bf (uCount uStore1 s) k) := by
  have HU := Aside0.mk h
  have HK := Aside0.mk (BU.refl w)
  have HB := Aside0.mk (Below.refl B w)
  have cw := h.c0
  have HX := Aside0.mk hx
  have cb := hx.c0
  clear hx
  clear h
  go_enter Try.func32, Try.ntmps32
  go_wp2_with (first | (go_at_call 46; (with_reducible refine (u_name HU.out).mono ?_); rintro e w1 ⟨rfl, hu, hbk, hbl⟩; have HU := Aside0.mk hu; have HK := Aside0.mk (HK.out.trans hbk); have HB := Aside0.mk (HB.out.trans hbl); replace cw := hu.c0; have HX := Aside0.mk (HX.out.on hbk); replace cb := HX.out.c0; clear hu hbk hbl) | (go_at_call 20; (with_reducible refine (u_here HU.out _ (by first | exact nmS_size _ | decide)).mono ?_); rintro e w1 ⟨rfl, hu, hbk, hbl⟩; have HU := Aside0.mk hu; have HK := Aside0.mk (HK.out.trans hbk); have HB := Aside0.mk (HB.out.trans hbl); replace cw := hu.c0; have HX := Aside0.mk (HX.out.on hbk); replace cb := HX.out.c0; clear hu hbk hbl) | (go_at_call 21; (with_reducible refine (u_jump HU.out _ _ (by first | exact nmS_size _ | decide)).mono ?_); rintro e w1 ⟨rfl, hu, hbk, hbl⟩; have HU := Aside0.mk hu; have HK := Aside0.mk (HK.out.trans hbk); have HB := Aside0.mk (HB.out.trans hbl); replace cw := hu.c0; have HX := Aside0.mk (HX.out.on hbk); replace cb := HX.out.c0; clear hu hbk hbl) | (go_at_call 22; (with_reducible refine (u_leap _ (by first | exact nmS_size _ | decide) HU.out).mono ?_); rintro e w1 ⟨rfl, hu, hbk, hbl⟩; have HU := Aside0.mk hu; have HK := Aside0.mk (HK.out.trans hbk); have HB := Aside0.mk (HB.out.trans hbl); replace cw := hu.c0; have HX := Aside0.mk (HX.out.on hbk); replace cb := HX.out.c0; clear hu hbk hbl) | (go_at_call 16; (with_reducible refine (u_tail HU.out _ _).mono ?_); rintro e w1 ⟨rfl, hu, hbk, hbl⟩; have HU := Aside0.mk hu; have HK := Aside0.mk (HK.out.trans hbk); have HB := Aside0.mk (HB.out.trans hbl); replace cw := hu.c0; have HX := Aside0.mk (HX.out.on hbk); replace cb := HX.out.c0; clear hu hbk hbl) | (go_at_call 48; (with_reducible refine (u_store1 HU.out HX.out).mono ?_); rintro e w1 ⟨rfl, hu, hbk, hbl⟩; have HU := Aside0.mk hu; have HK := Aside0.mk (HK.out.trans hbk); have HB := Aside0.mk (HB.out.trans hbl); replace cw := hu.c0; have HX := Aside0.mk (HX.out.on hbk); replace cb := HX.out.c0; clear hu hbk hbl))
  go_end0
  exact ⟨rfl, HU.out.less (by omega), HK.out, HB.out⟩
set_option maxHeartbeats 4000000 in
theorem u_count6 {w : World} {s : US} {k : Nat} {xb : Nat} (h : IsU B w wb aw bm bf s (k + 11)) (hx : Box w xb wb) : Calls Try.prog 32 #[.pointer (some ⟨wb, 0, none⟩), .func (.func 33) #[] #[.pointer (some ⟨xb, 0, none⟩)]] w (WroteU B w wb aw bm bf (uCount uU6 s) k) := by
  have HU := Aside0.mk h
  have HK := Aside0.mk (BU.refl w)
  have HB := Aside0.mk (Below.refl B w)
  have cw := h.c0
  have HX := Aside0.mk hx
  have cb := hx.c0
  clear hx
  clear h
  go_enter Try.func32, Try.ntmps32
  go_wp2_with (first | (go_at_call 46; (with_reducible refine (u_name HU.out).mono ?_); rintro e w1 ⟨rfl, hu, hbk, hbl⟩; have HU := Aside0.mk hu; have HK := Aside0.mk (HK.out.trans hbk); have HB := Aside0.mk (HB.out.trans hbl); replace cw := hu.c0; have HX := Aside0.mk (HX.out.on hbk); replace cb := HX.out.c0; clear hu hbk hbl) | (go_at_call 20; (with_reducible refine (u_here HU.out _ (by first | exact nmS_size _ | decide)).mono ?_); rintro e w1 ⟨rfl, hu, hbk, hbl⟩; have HU := Aside0.mk hu; have HK := Aside0.mk (HK.out.trans hbk); have HB := Aside0.mk (HB.out.trans hbl); replace cw := hu.c0; have HX := Aside0.mk (HX.out.on hbk); replace cb := HX.out.c0; clear hu hbk hbl) | (go_at_call 21; (with_reducible refine (u_jump HU.out _ _ (by first | exact nmS_size _ | decide)).mono ?_); rintro e w1 ⟨rfl, hu, hbk, hbl⟩; have HU := Aside0.mk hu; have HK := Aside0.mk (HK.out.trans hbk); have HB := Aside0.mk (HB.out.trans hbl); replace cw := hu.c0; have HX := Aside0.mk (HX.out.on hbk); replace cb := HX.out.c0; clear hu hbk hbl) | (go_at_call 22; (with_reducible refine (u_leap _ (by first | exact nmS_size _ | decide) HU.out).mono ?_); rintro e w1 ⟨rfl, hu, hbk, hbl⟩; have HU := Aside0.mk hu; have HK := Aside0.mk (HK.out.trans hbk); have HB := Aside0.mk (HB.out.trans hbl); replace cw := hu.c0; have HX := Aside0.mk (HX.out.on hbk); replace cb := HX.out.c0; clear hu hbk hbl) | (go_at_call 16; (with_reducible refine (u_tail HU.out _ _).mono ?_); rintro e w1 ⟨rfl, hu, hbk, hbl⟩; have HU := Aside0.mk hu; have HK := Aside0.mk (HK.out.trans hbk); have HB := Aside0.mk (HB.out.trans hbl); replace cw := hu.c0; have HX := Aside0.mk (HX.out.on hbk); replace cb := HX.out.c0; clear hu hbk hbl) | (go_at_call 33; (with_reducible refine (u_U6 HU.out HX.out).mono ?_); rintro e w1 ⟨rfl, hu, hbk, hbl⟩; have HU := Aside0.mk hu; have HK := Aside0.mk (HK.out.trans hbk); have HB := Aside0.mk (HB.out.trans hbl); replace cw := hu.c0; have HX := Aside0.mk (HX.out.on hbk); replace cb := HX.out.c0; clear hu hbk hbl))
  go_end0
  exact ⟨rfl, HU.out.less (by omega), HK.out, HB.out⟩
set_option maxHeartbeats 4000000 in
theorem u_count7 {w : World} {s : US} {k : Nat} {xb : Nat} (h : IsU B w wb aw bm bf s (k + 11)) (hx : Box w xb wb) : Calls Try.prog 32 #[.pointer (some ⟨wb, 0, none⟩), .func (.func 34) #[] #[.pointer (some ⟨xb, 0, none⟩)]] w (WroteU B w wb aw bm bf (uCount uU7 s) k) := by
  have HU := Aside0.mk h
  have HK := Aside0.mk (BU.refl w)
  have HB := Aside0.mk (Below.refl B w)
  have cw := h.c0
  have HX := Aside0.mk hx
  have cb := hx.c0
  clear hx
  clear h
  go_enter Try.func32, Try.ntmps32
  go_wp2_with (first | (go_at_call 46; (with_reducible refine (u_name HU.out).mono ?_); rintro e w1 ⟨rfl, hu, hbk, hbl⟩; have HU := Aside0.mk hu; have HK := Aside0.mk (HK.out.trans hbk); have HB := Aside0.mk (HB.out.trans hbl); replace cw := hu.c0; have HX := Aside0.mk (HX.out.on hbk); replace cb := HX.out.c0; clear hu hbk hbl) | (go_at_call 20; (with_reducible refine (u_here HU.out _ (by first | exact nmS_size _ | decide)).mono ?_); rintro e w1 ⟨rfl, hu, hbk, hbl⟩; have HU := Aside0.mk hu; have HK := Aside0.mk (HK.out.trans hbk); have HB := Aside0.mk (HB.out.trans hbl); replace cw := hu.c0; have HX := Aside0.mk (HX.out.on hbk); replace cb := HX.out.c0; clear hu hbk hbl) | (go_at_call 21; (with_reducible refine (u_jump HU.out _ _ (by first | exact nmS_size _ | decide)).mono ?_); rintro e w1 ⟨rfl, hu, hbk, hbl⟩; have HU := Aside0.mk hu; have HK := Aside0.mk (HK.out.trans hbk); have HB := Aside0.mk (HB.out.trans hbl); replace cw := hu.c0; have HX := Aside0.mk (HX.out.on hbk); replace cb := HX.out.c0; clear hu hbk hbl) | (go_at_call 22; (with_reducible refine (u_leap _ (by first | exact nmS_size _ | decide) HU.out).mono ?_); rintro e w1 ⟨rfl, hu, hbk, hbl⟩; have HU := Aside0.mk hu; have HK := Aside0.mk (HK.out.trans hbk); have HB := Aside0.mk (HB.out.trans hbl); replace cw := hu.c0; have HX := Aside0.mk (HX.out.on hbk); replace cb := HX.out.c0; clear hu hbk hbl) | (go_at_call 16; (with_reducible refine (u_tail HU.out _ _).mono ?_); rintro e w1 ⟨rfl, hu, hbk, hbl⟩; have HU := Aside0.mk hu; have HK := Aside0.mk (HK.out.trans hbk); have HB := Aside0.mk (HB.out.trans hbl); replace cw := hu.c0; have HX := Aside0.mk (HX.out.on hbk); replace cb := HX.out.c0; clear hu hbk hbl) | (go_at_call 34; (with_reducible refine (u_U7 HU.out HX.out).mono ?_); rintro e w1 ⟨rfl, hu, hbk, hbl⟩; have HU := Aside0.mk hu; have HK := Aside0.mk (HK.out.trans hbk); have HB := Aside0.mk (HB.out.trans hbl); replace cw := hu.c0; have HX := Aside0.mk (HX.out.on hbk); replace cb := HX.out.c0; clear hu hbk hbl))
  go_end0
  exact ⟨rfl, HU.out.less (by omega), HK.out, HB.out⟩
set_option maxHeartbeats 4000000 in
theorem u_fetch {w : World} {s : US} {k : Nat} (q : Int) (h : IsU B w wb aw bm bf s (k + 20)) : Calls Try.prog 26 #[.pointer (some ⟨wb, 0, none⟩), .int .i64 q] w (WroteU B w wb aw bm bf (uFetch q s) k) := by
  have HU := Aside0.mk (h.alloc (.cells #[.pointer (some ⟨wb, 0, none⟩)] 38 (0, 0)))
  have hx := blk_new w (.cells #[.pointer (some ⟨wb, 0, none⟩)] 38 (0, 0))
  have HX : Aside0 (Box (w.alloc (.cells #[.pointer (some ⟨wb, 0, none⟩)] 38 (0, 0))) w.heap.size wb) := ⟨hx⟩
  have HK := Aside0.mk (BU.alloc w (.cells #[.pointer (some ⟨wb, 0, none⟩)] 38 (0, 0)))
  have HB := Aside0.mk ((Below.refl B w).alloc (bel_size h.1 h.2.2.1) (.cells #[.pointer (some ⟨wb, 0, none⟩)] 38 (0, 0)))
  have cw := HU.out.c0
  have cb := HX.out.c0
  clear h hx
  go_enter Try.func26, Try.ntmps26
  go_wp2_with (first | (go_at_call 17; (with_reducible refine (u_move HU.out _ _).mono ?_); rintro e w1 ⟨rfl, hu, hbk, hbl⟩; have HU := Aside0.mk hu; have HK := Aside0.mk (HK.out.trans hbk); have HB := Aside0.mk (HB.out.trans hbl); replace cw := hu.c0; have HX := Aside0.mk (HX.out.on hbk); replace cb := HX.out.c0; clear hu hbk hbl) | (go_at_call 15; (with_reducible refine (u_head HU.out _ _).mono ?_); rintro e w1 ⟨rfl, hu, hbk, hbl⟩; have HU := Aside0.mk hu; have HK := Aside0.mk (HK.out.trans hbk); have HB := Aside0.mk (HB.out.trans hbl); replace cw := hu.c0; have HX := Aside0.mk (HX.out.on hbk); replace cb := HX.out.c0; clear hu hbk hbl) | (go_at_call 32; (with_reducible refine (u_countF HU.out HX.out).mono ?_); rintro e w1 ⟨rfl, hu, hbk, hbl⟩; have HU := Aside0.mk hu; have HK := Aside0.mk (HK.out.trans hbk); have HB := Aside0.mk (HB.out.trans hbl); replace cw := hu.c0; have HX := Aside0.mk (HX.out.on hbk); replace cb := HX.out.c0; clear hu hbk hbl))
  go_end0
  exact ⟨rfl, HU.out.less (by omega), HK.out, HB.out⟩
set_option maxHeartbeats 4000000 in
theorem u_store {w : World} {s : US} {k : Nat} (h : IsU B w wb aw bm bf s (k + 40)) : Calls Try.prog 31 #[.pointer (some ⟨wb, 0, none⟩)] w (WroteU B w wb aw bm bf (uStore s) k) := by
  have HU := Aside0.mk (h.alloc (.cells #[.pointer (some ⟨wb, 0, none⟩)] 38 (0, 0)))
  have hx := blk_new w (.cells #[.pointer (some ⟨wb, 0, none⟩)] 38 (0, 0))
  have HX : Aside0 (Box (w.alloc (.cells #[.pointer (some ⟨wb, 0, none⟩)] 38 (0, 0))) w.heap.size wb) := ⟨hx⟩
  have HK := Aside0.mk (BU.alloc w (.cells #[.pointer (some ⟨wb, 0, none⟩)] 38 (0, 0)))
  have HB := Aside0.mk ((Below.refl B w).alloc (bel_size h.1 h.2.2.1) (.cells #[.pointer (some ⟨wb, 0, none⟩)] 38 (0, 0)))
  have cw := HU.out.c0
  have cb := HX.out.c0
  clear h hx
  go_enter Try.func31, Try.ntmps31
  go_wp2_with (first | (go_at_call 17; (with_reducible refine (u_move HU.out _ _).mono ?_); rintro e w1 ⟨rfl, hu, hbk, hbl⟩; have HU := Aside0.mk hu; have HK := Aside0.mk (HK.out.trans hbk); have HB := Aside0.mk (HB.out.trans hbl); replace cw := hu.c0; have HX := Aside0.mk (HX.out.on hbk); replace cb := HX.out.c0; clear hu hbk hbl) | (go_at_call 19; (with_reducible refine (u_set HU.out _ _).mono ?_); rintro e w1 ⟨rfl, hu, hbk, hbl⟩; have HU := Aside0.mk hu; have HK := Aside0.mk (HK.out.trans hbk); have HB := Aside0.mk (HB.out.trans hbl); replace cw := hu.c0; have HX := Aside0.mk (HX.out.on hbk); replace cb := HX.out.c0; clear hu hbk hbl) | (go_at_call 16; (with_reducible refine (u_tail HU.out _ _).mono ?_); rintro e w1 ⟨rfl, hu, hbk, hbl⟩; have HU := Aside0.mk hu; have HK := Aside0.mk (HK.out.trans hbk); have HB := Aside0.mk (HB.out.trans hbl); replace cw := hu.c0; have HX := Aside0.mk (HX.out.on hbk); replace cb := HX.out.c0; clear hu hbk hbl) | (go_at_call 18; (with_reducible refine (u_cons HU.out _ _ _).mono ?_); rintro e w1 ⟨rfl, hu, hbk, hbl⟩; have HU := Aside0.mk hu; have HK := Aside0.mk (HK.out.trans hbk); have HB := Aside0.mk (HB.out.trans hbl); replace cw := hu.c0; have HX := Aside0.mk (HX.out.on hbk); replace cb := HX.out.c0; clear hu hbk hbl) | (go_at_call 15; (with_reducible refine (u_head HU.out _ _).mono ?_); rintro e w1 ⟨rfl, hu, hbk, hbl⟩; have HU := Aside0.mk hu; have HK := Aside0.mk (HK.out.trans hbk); have HB := Aside0.mk (HB.out.trans hbl); replace cw := hu.c0; have HX := Aside0.mk (HX.out.on hbk); replace cb := HX.out.c0; clear hu hbk hbl) | (go_at_call 46; (with_reducible refine (u_name HU.out).mono ?_); rintro e w1 ⟨rfl, hu, hbk, hbl⟩; have HU := Aside0.mk hu; have HK := Aside0.mk (HK.out.trans hbk); have HB := Aside0.mk (HB.out.trans hbl); replace cw := hu.c0; have HX := Aside0.mk (HX.out.on hbk); replace cb := HX.out.c0; clear hu hbk hbl) | (go_at_call 20; (with_reducible refine (u_here HU.out _ (by first | exact nmS_size _ | decide)).mono ?_); rintro e w1 ⟨rfl, hu, hbk, hbl⟩; have HU := Aside0.mk hu; have HK := Aside0.mk (HK.out.trans hbk); have HB := Aside0.mk (HB.out.trans hbl); replace cw := hu.c0; have HX := Aside0.mk (HX.out.on hbk); replace cb := HX.out.c0; clear hu hbk hbl) | (go_at_call 21; (with_reducible refine (u_jump HU.out _ _ (by first | exact nmS_size _ | decide)).mono ?_); rintro e w1 ⟨rfl, hu, hbk, hbl⟩; have HU := Aside0.mk hu; have HK := Aside0.mk (HK.out.trans hbk); have HB := Aside0.mk (HB.out.trans hbl); replace cw := hu.c0; have HX := Aside0.mk (HX.out.on hbk); replace cb := HX.out.c0; clear hu hbk hbl) | (go_at_call 22; (with_reducible refine (u_leap _ (by first | exact nmS_size _ | decide) HU.out).mono ?_); rintro e w1 ⟨rfl, hu, hbk, hbl⟩; have HU := Aside0.mk hu; have HK := Aside0.mk (HK.out.trans hbk); have HB := Aside0.mk (HB.out.trans hbl); replace cw := hu.c0; have HX := Aside0.mk (HX.out.on hbk); replace cb := HX.out.c0; clear hu hbk hbl) | (go_at_call 32; (with_reducible refine (u_countS HU.out HX.out).mono ?_); rintro e w1 ⟨rfl, hu, hbk, hbl⟩; have HU := Aside0.mk hu; have HK := Aside0.mk (HK.out.trans hbk); have HB := Aside0.mk (HB.out.trans hbl); replace cw := hu.c0; have HX := Aside0.mk (HX.out.on hbk); replace cb := HX.out.c0; clear hu hbk hbl))
  have HBD := Aside0.mk (below_drew (Below.refl w1.heap.size w1))
  have HK := Aside0.mk (HK.out.trans (BU.of (BK.drew w1)))
  have HB := Aside0.mk (HB.out.trans (below_drew (Below.refl B w1)))
  have HU := Aside0.mk (HU.out.below HBD.out)
  have HX := Aside0.mk (HX.out.on (BU.of (BK.drew w1)))
  replace cw := HU.out.c0
  replace cb := HX.out.c0
  go_region_law (go_simp; (go_at_call 46; (with_reducible refine (u_name HU.out).mono ?_); rintro e w1 ⟨rfl, hu, hbk, hbl⟩; have HU := Aside0.mk hu; have HK := Aside0.mk (HK.out.trans hbk); have HB := Aside0.mk (HB.out.trans hbl); replace cw := hu.c0; have HX := Aside0.mk (HX.out.on hbk); replace cb := HX.out.c0; clear hu hbk hbl))
  all_goals
    go_wp2_with (first | (go_at_call 17; (with_reducible refine (u_move HU.out _ _).mono ?_); rintro e w1 ⟨rfl, hu, hbk, hbl⟩; have HU := Aside0.mk hu; have HK := Aside0.mk (HK.out.trans hbk); have HB := Aside0.mk (HB.out.trans hbl); replace cw := hu.c0; have HX := Aside0.mk (HX.out.on hbk); replace cb := HX.out.c0; clear hu hbk hbl) | (go_at_call 19; (with_reducible refine (u_set HU.out _ _).mono ?_); rintro e w1 ⟨rfl, hu, hbk, hbl⟩; have HU := Aside0.mk hu; have HK := Aside0.mk (HK.out.trans hbk); have HB := Aside0.mk (HB.out.trans hbl); replace cw := hu.c0; have HX := Aside0.mk (HX.out.on hbk); replace cb := HX.out.c0; clear hu hbk hbl) | (go_at_call 16; (with_reducible refine (u_tail HU.out _ _).mono ?_); rintro e w1 ⟨rfl, hu, hbk, hbl⟩; have HU := Aside0.mk hu; have HK := Aside0.mk (HK.out.trans hbk); have HB := Aside0.mk (HB.out.trans hbl); replace cw := hu.c0; have HX := Aside0.mk (HX.out.on hbk); replace cb := HX.out.c0; clear hu hbk hbl) | (go_at_call 18; (with_reducible refine (u_cons HU.out _ _ _).mono ?_); rintro e w1 ⟨rfl, hu, hbk, hbl⟩; have HU := Aside0.mk hu; have HK := Aside0.mk (HK.out.trans hbk); have HB := Aside0.mk (HB.out.trans hbl); replace cw := hu.c0; have HX := Aside0.mk (HX.out.on hbk); replace cb := HX.out.c0; clear hu hbk hbl) | (go_at_call 15; (with_reducible refine (u_head HU.out _ _).mono ?_); rintro e w1 ⟨rfl, hu, hbk, hbl⟩; have HU := Aside0.mk hu; have HK := Aside0.mk (HK.out.trans hbk); have HB := Aside0.mk (HB.out.trans hbl); replace cw := hu.c0; have HX := Aside0.mk (HX.out.on hbk); replace cb := HX.out.c0; clear hu hbk hbl) | (go_at_call 46; (with_reducible refine (u_name HU.out).mono ?_); rintro e w1 ⟨rfl, hu, hbk, hbl⟩; have HU := Aside0.mk hu; have HK := Aside0.mk (HK.out.trans hbk); have HB := Aside0.mk (HB.out.trans hbl); replace cw := hu.c0; have HX := Aside0.mk (HX.out.on hbk); replace cb := HX.out.c0; clear hu hbk hbl) | (go_at_call 20; (with_reducible refine (u_here HU.out _ (by first | exact nmS_size _ | decide)).mono ?_); rintro e w1 ⟨rfl, hu, hbk, hbl⟩; have HU := Aside0.mk hu; have HK := Aside0.mk (HK.out.trans hbk); have HB := Aside0.mk (HB.out.trans hbl); replace cw := hu.c0; have HX := Aside0.mk (HX.out.on hbk); replace cb := HX.out.c0; clear hu hbk hbl) | (go_at_call 21; (with_reducible refine (u_jump HU.out _ _ (by first | exact nmS_size _ | decide)).mono ?_); rintro e w1 ⟨rfl, hu, hbk, hbl⟩; have HU := Aside0.mk hu; have HK := Aside0.mk (HK.out.trans hbk); have HB := Aside0.mk (HB.out.trans hbl); replace cw := hu.c0; have HX := Aside0.mk (HX.out.on hbk); replace cb := HX.out.c0; clear hu hbk hbl) | (go_at_call 22; (with_reducible refine (u_leap _ (by first | exact nmS_size _ | decide) HU.out).mono ?_); rintro e w1 ⟨rfl, hu, hbk, hbl⟩; have HU := Aside0.mk hu; have HK := Aside0.mk (HK.out.trans hbk); have HB := Aside0.mk (HB.out.trans hbl); replace cw := hu.c0; have HX := Aside0.mk (HX.out.on hbk); replace cb := HX.out.c0; clear hu hbk hbl) | (go_at_call 32; (with_reducible refine (u_countS HU.out HX.out).mono ?_); rintro e w1 ⟨rfl, hu, hbk, hbl⟩; have HU := Aside0.mk hu; have HK := Aside0.mk (HK.out.trans hbk); have HB := Aside0.mk (HB.out.trans hbl); replace cw := hu.c0; have HX := Aside0.mk (HX.out.on hbk); replace cb := HX.out.c0; clear hu hbk hbl))
    go_end0
    exact ⟨rfl, HU.out.less (by omega), HK.out, HB.out⟩
end
end Go.Proofs.Ytpnmmpfidiegcaa.C
end
