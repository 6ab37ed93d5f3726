/- Texts of this claim, together: what the functions return, and what they say in plain words. -/
import Derived.Test.YtocoamgbpoommaaGreatDoorUJ
section
namespace Go.Proofs.YtocoamgbpoommaaGreatDoor.C
open Go.RowKit Go.Proofs.YtocoamgbpoommaaGreatDoorW.PrintWords Go.Proofs.YtocoamgbpoommaaGreatDoorW.PrintLast Go.Proofs.YtocoamgbpoommaaGreatDoorW.PrintMore
open Go.Proofs.YtocoamgbpoommaaGreatDoor.Plain (Tr dec Rg upd exec Right Reg bl IsT)
set_option linter.unusedVariables false
set_option linter.unusedSimpArgs false
set_option maxHeartbeats 4000000 in
set_option maxRecDepth 100000 in
theorem Step_set (w0 w : World) (m s : Value) (p : List S72) (k : Nat) (hk : k < p.length) (r : Rg) (hm : MachAt w0 m p) (hb : Below w0.heap.size w0 w) (hs : StateAt w0.heap.size w s k r) (hp : p.length ≤ 4000)
    (h0 : p[k].f0 = 0) (hA : Reg p[k].f1) :
    Calls Tryz.prog 67 #[m, s] w fun e w' => e = .returned (.bool true) ∧ StateAt w0.heap.size w' s (k + 1 : Nat) (upd r p[k].f1.toNat (dec (bl p[k].f4))) ∧ Below w0.heap.size w0 w' := by
  obtain ⟨g, h, A, c, xs, rfl, hg, hC, hh, hl, hq, hx⟩ := hm.below hb
  obtain ⟨b, rb, ys, rfl, hb1, hb2, hsb, hrb, hyl, hr⟩ := hs
  obtain ⟨ad, rfl, i0, i1, i2, i3, i4⟩ := at_T72 hC (k : Int) (by omega) (by omega)
  have hrd : rd_T72 p (k : Int) = p[k] := by unfold rd_T72; simp [hk]
  rw [hrd, Int.toNat_natCast] at i0 i1 i2 i3 i4
  clear hrd
  obtain ⟨vt, evt, hvt⟩ := hx k hk h0
  obtain ⟨qt, rfl⟩ := Nd.ptr hvt
  have HVT := Aside0.mk hvt
  have m1 : w.cell? ⟨g, 1, none⟩ = some (.slice (some ⟨h, 0, none⟩) p.length p.length) := (blk_cell hg 1).trans rfl
  have th : w.cell? ⟨h, k, none⟩ = some (.pointer qt) := reg_cell hh evt
  clear hx evt hvt
  generalize p[k] = x at *
  obtain ⟨f0, f1, f2, f3, f4⟩ := x
  dsimp only at *
  obtain ⟨ia, ha, ha2⟩ := reg_int hA
  subst h0 ha
  rw [Int.toNat_natCast]
  have s0 : w.cell? ⟨b, 0, none⟩ = some (.int .i64 k) := (blk_cell hsb 0).trans rfl
  have s1 : w.cell? ⟨b, 1, none⟩ = some (.slice (some ⟨rb, 0, none⟩) 32 32) := (blk_cell hsb 1).trans rfl
  have m0 : w.cell? ⟨g, 0, none⟩ = some (.slice (some ad) p.length c) := (blk_cell hg 0).trans rfl
  have k1 : (k : Int) < (p.length : Int) := by omega
  have k0 : (0 : Int) ≤ (k : Int) := by omega
  have HB := Aside0.mk hb
  have HS := Aside0.mk hsb
  have HR := Aside0.mk hrb
  have HY := Aside0.mk hyl
  have HRR := Aside0.mk hr
  have HG := Aside0.mk hg
  have HH := Aside0.mk hh
  clear hsb hrb hyl hr hm hb hg hC hh hl hq
  go_enter Tryz.func67, Tryz.ntmps67
  go_wp2
  go_region_held3 (fun w' => w'.cell? ⟨g, 0, none⟩ = some (.slice (some ad) p.length c) ∧ w'.cell? ⟨b, 0, none⟩ = some (.int .i64 k) ∧ w'.cell? (ad.add (k * 5)) = some (.int .i64 0) ∧ w'.cell? ⟨(ad.add (k * 5)).block, (ad.add (k * 5)).off + 1, none⟩ = some (.int .i64 ia) ∧ w'.cell? ⟨(ad.add (k * 5)).block, (ad.add (k * 5)).off + 2, none⟩ = some (.int .i64 f2) ∧ w'.cell? ⟨(ad.add (k * 5)).block, (ad.add (k * 5)).off + 3, none⟩ = some (.int .i64 f3) ∧ w'.cell? ⟨(ad.add (k * 5)).block, (ad.add (k * 5)).off + 4, none⟩ = some (.string f4))
    (go_keep) (fail)
  rename_i hheld
  clear hheld
  have F1 : ∀ o, Below w.heap.size w (w.alloc o).drew := fun o => below_drew (below_alloc (Below.refl _ _) o)
  have F2 : ∀ cs : Array Value, ((w.alloc (.cells cs 72 (0, 0))).drew).heap[w.heap.size]? = some (.cells cs 72 (0, 0)) := fun cs => blk_new w _
  generalize hW : (w.alloc _).drew = W
  have HW : Aside0 (Below w.heap.size w W) := ⟨hW ▸ F1 _⟩
  have hX : W.heap[w.heap.size]? = some (.cells #[.int .i64 0, .int .i64 ia, .int .i64 f2, .int .i64 f3, .string f4] 72 (0, 0)) := by rw [← hW]; exact F2 _
  clear hW F1 F2 i0 i1 i2 i3 i4
  have x0 : W.cell? ⟨w.heap.size, 0, none⟩ = some (.int .i64 0) := (blk_cell hX 0).trans rfl
  have x1 : W.cell? ⟨w.heap.size, 1, none⟩ = some (.int .i64 ia) := (blk_cell hX 1).trans rfl
  have x2 : W.cell? ⟨w.heap.size, 2, none⟩ = some (.int .i64 f2) := (blk_cell hX 2).trans rfl
  have x3 : W.cell? ⟨w.heap.size, 3, none⟩ = some (.int .i64 f3) := (blk_cell hX 3).trans rfl
  replace s0 := pw_cell_below HW.out s0
  replace s1 := pw_cell_below HW.out s1
  replace m0 := pw_cell_below HW.out m0
  have HS2 := Aside0.mk ((HW.out.block _ (blk_lt HS.out)).trans HS.out)
  have HR2 := Aside0.mk ((HW.out.block _ (blk_lt HR.out)).trans HR.out)
  have fb : W.frozen? ⟨b, 0, none⟩ = false := blk_frozen HS2.out 0
  clear hX
  replace m1 := pw_cell_below HW.out m1
  replace th := pw_cell_below HW.out th
  obtain ⟨va0, ea0, _⟩ := HRR.out ia ha2
  have ca : W.cell? ⟨rb, ia, none⟩ = some va0 := reg_cell HR2.out ea0
  have fa : W.frozen? ⟨rb, ia, none⟩ = false := blk_frozen HR2.out ia
  have j1 : (ia : Int) < 32 := by omega
  have j2 : (0 : Int) ≤ (ia : Int) := by omega
  clear ea0
  go_wp2
  go_still_tail 17, (by kernel_rfl)
  change wpList _ _ _ _ _ W.drew
  clear th
  have HSX := blk_far HS2.out (p := ⟨rb, ia, none⟩) (st_ne HS2.out HR2.out) (.pointer qt)
  have d0 : (W.setCell ⟨rb, ia, none⟩ (.pointer qt)).cell? ⟨b, 0, none⟩ = some (.int .i64 k) := (blk_cell HSX 0).trans rfl
  have d1 : (W.setCell ⟨rb, ia, none⟩ (.pointer qt)).frozen? ⟨b, 0, none⟩ = false := blk_frozen HSX 0
  clear HSX
  go_wp2
  go_ret
  exact ⟨rfl, state_done ((k + 1 : Nat) : Int) HB.out HW.out hb1 hb2 HS.out HR.out HY.out HRR.out ha2 (Nd.keep (NK.below HW.out) _ _ HVT.out)⟩
set_option maxHeartbeats 4000000 in
set_option maxRecDepth 100000 in
theorem Step_head (w0 w : World) (m s : Value) (p : List S72) (k : Nat) (hk : k < p.length) (r : Rg) (hm : MachAt w0 m p) (hb : Below w0.heap.size w0 w) (hs : StateAt w0.heap.size w s k r) (hp : p.length ≤ 4000)
    (h0 : p[k].f0 = 3) (hA : Reg p[k].f1) (hBB : Reg p[k].f2) :
    Calls Tryz.prog 67 #[m, s] w fun e w' => e = .returned (.bool true) ∧ StateAt w0.heap.size w' s (k + 1 : Nat) (upd r p[k].f1.toNat ((r p[k].f2.toNat).hd)) ∧ Below w0.heap.size w0 w' := by
  obtain ⟨g, h, A, c, xs, rfl, hg, hC, hh, hl, hq, hx⟩ := hm.below hb
  obtain ⟨b, rb, ys, rfl, hb1, hb2, hsb, hrb, hyl, hr⟩ := hs
  obtain ⟨ad, rfl, i0, i1, i2, i3, i4⟩ := at_T72 hC (k : Int) (by omega) (by omega)
  have hrd : rd_T72 p (k : Int) = p[k] := by unfold rd_T72; simp [hk]
  rw [hrd, Int.toNat_natCast] at i0 i1 i2 i3 i4
  clear hrd
  clear hx
  generalize p[k] = x at *
  obtain ⟨f0, f1, f2, f3, f4⟩ := x
  dsimp only at *
  obtain ⟨ia, ha, ha2⟩ := reg_int hA
  obtain ⟨ib, hbb, hbb2⟩ := reg_int hBB
  subst h0 ha hbb
  rw [Int.toNat_natCast, Int.toNat_natCast]
  have s0 : w.cell? ⟨b, 0, none⟩ = some (.int .i64 k) := (blk_cell hsb 0).trans rfl
  have s1 : w.cell? ⟨b, 1, none⟩ = some (.slice (some ⟨rb, 0, none⟩) 32 32) := (blk_cell hsb 1).trans rfl
  have m0 : w.cell? ⟨g, 0, none⟩ = some (.slice (some ad) p.length c) := (blk_cell hg 0).trans rfl
  have k1 : (k : Int) < (p.length : Int) := by omega
  have k0 : (0 : Int) ≤ (k : Int) := by omega
  have HB := Aside0.mk hb
  have HS := Aside0.mk hsb
  have HR := Aside0.mk hrb
  have HY := Aside0.mk hyl
  have HRR := Aside0.mk hr
  have HG := Aside0.mk hg
  have HH := Aside0.mk hh
  clear hsb hrb hyl hr hm hb hg hC hh hl hq
  go_enter Tryz.func67, Tryz.ntmps67
  go_wp2
  go_region_held3 (fun w' => w'.cell? ⟨g, 0, none⟩ = some (.slice (some ad) p.length c) ∧ w'.cell? ⟨b, 0, none⟩ = some (.int .i64 k) ∧ w'.cell? (ad.add (k * 5)) = some (.int .i64 3) ∧ w'.cell? ⟨(ad.add (k * 5)).block, (ad.add (k * 5)).off + 1, none⟩ = some (.int .i64 ia) ∧ w'.cell? ⟨(ad.add (k * 5)).block, (ad.add (k * 5)).off + 2, none⟩ = some (.int .i64 ib) ∧ w'.cell? ⟨(ad.add (k * 5)).block, (ad.add (k * 5)).off + 3, none⟩ = some (.int .i64 f3) ∧ w'.cell? ⟨(ad.add (k * 5)).block, (ad.add (k * 5)).off + 4, none⟩ = some (.string f4))
    (go_keep) (fail)
  rename_i hheld
  clear hheld
  have F1 : ∀ o, Below w.heap.size w (w.alloc o).drew := fun o => below_drew (below_alloc (Below.refl _ _) o)
  have F2 : ∀ cs : Array Value, ((w.alloc (.cells cs 72 (0, 0))).drew).heap[w.heap.size]? = some (.cells cs 72 (0, 0)) := fun cs => blk_new w _
  generalize hW : (w.alloc _).drew = W
  have HW : Aside0 (Below w.heap.size w W) := ⟨hW ▸ F1 _⟩
  have hX : W.heap[w.heap.size]? = some (.cells #[.int .i64 3, .int .i64 ia, .int .i64 ib, .int .i64 f3, .string f4] 72 (0, 0)) := by rw [← hW]; exact F2 _
  clear hW F1 F2 i0 i1 i2 i3 i4
  have x0 : W.cell? ⟨w.heap.size, 0, none⟩ = some (.int .i64 3) := (blk_cell hX 0).trans rfl
  have x1 : W.cell? ⟨w.heap.size, 1, none⟩ = some (.int .i64 ia) := (blk_cell hX 1).trans rfl
  have x2 : W.cell? ⟨w.heap.size, 2, none⟩ = some (.int .i64 ib) := (blk_cell hX 2).trans rfl
  have x3 : W.cell? ⟨w.heap.size, 3, none⟩ = some (.int .i64 f3) := (blk_cell hX 3).trans rfl
  replace s0 := pw_cell_below HW.out s0
  replace s1 := pw_cell_below HW.out s1
  replace m0 := pw_cell_below HW.out m0
  have HS2 := Aside0.mk ((HW.out.block _ (blk_lt HS.out)).trans HS.out)
  have HR2 := Aside0.mk ((HW.out.block _ (blk_lt HR.out)).trans HR.out)
  have fb : W.frozen? ⟨b, 0, none⟩ = false := blk_frozen HS2.out 0
  clear hX
  obtain ⟨va0, ea0, _⟩ := HRR.out ia ha2
  have ca : W.cell? ⟨rb, ia, none⟩ = some va0 := reg_cell HR2.out ea0
  have fa : W.frozen? ⟨rb, ia, none⟩ = false := blk_frozen HR2.out ia
  have j1 : (ia : Int) < 32 := by omega
  have j2 : (0 : Int) ≤ (ia : Int) := by omega
  clear ea0
  obtain ⟨vb, eb, hvb⟩ := HRR.out ib hbb2
  obtain ⟨qb, rfl⟩ := Nd.ptr hvb
  have cb : W.cell? ⟨rb, ib, none⟩ = some (.pointer qb) := reg_cell HR2.out eb
  have HVb := Aside0.mk hvb
  have jb1 : (ib : Int) < 32 := by omega
  have jb2 : (0 : Int) ≤ (ib : Int) := by omega
  clear eb hvb
  obtain ⟨u, hu, hcall⟩ := First_still (r ib) (.pointer qb) W.drew (Nd.keep (NK.trans (NK.below HW.out) (NK.drew _)) _ _ HVb.out)
  obtain ⟨qu, rfl⟩ := Nd.ptr hu
  have HU : Aside0 (Nd W (r ib).hd (.pointer qu)) := ⟨Nd.keep (w := W.drew) (w' := W) (fun _ _ h => h) _ _ hu⟩
  have HCALL := Aside0.mk hcall
  clear hu hcall
  go_wp2
  go_still_tail 16, (by kernel_rfl)
  still_call HCALL.out
  repeat still_step
  refine wpStill_nil ?_
  change wpList _ _ _ _ _ W.drew
  clear cb HCALL
  have HSX := blk_far HS2.out (p := ⟨rb, ia, none⟩) (st_ne HS2.out HR2.out) (.pointer qu)
  have d0 : (W.setCell ⟨rb, ia, none⟩ (.pointer qu)).cell? ⟨b, 0, none⟩ = some (.int .i64 k) := (blk_cell HSX 0).trans rfl
  have d1 : (W.setCell ⟨rb, ia, none⟩ (.pointer qu)).frozen? ⟨b, 0, none⟩ = false := blk_frozen HSX 0
  clear HSX
  go_wp2
  go_ret
  exact ⟨rfl, state_done ((k + 1 : Nat) : Int) HB.out HW.out hb1 hb2 HS.out HR.out HY.out HRR.out ha2 HU.out⟩
set_option maxHeartbeats 4000000 in
set_option maxRecDepth 100000 in
theorem Step_tail (w0 w : World) (m s : Value) (p : List S72) (k : Nat) (hk : k < p.length) (r : Rg) (hm : MachAt w0 m p) (hb : Below w0.heap.size w0 w) (hs : StateAt w0.heap.size w s k r) (hp : p.length ≤ 4000)
    (h0 : p[k].f0 = 4) (hA : Reg p[k].f1) (hBB : Reg p[k].f2) :
    Calls Tryz.prog 67 #[m, s] w fun e w' => e = .returned (.bool true) ∧ StateAt w0.heap.size w' s (k + 1 : Nat) (upd r p[k].f1.toNat ((r p[k].f2.toNat).tl)) ∧ Below w0.heap.size w0 w' := by
  obtain ⟨g, h, A, c, xs, rfl, hg, hC, hh, hl, hq, hx⟩ := hm.below hb
  obtain ⟨b, rb, ys, rfl, hb1, hb2, hsb, hrb, hyl, hr⟩ := hs
  obtain ⟨ad, rfl, i0, i1, i2, i3, i4⟩ := at_T72 hC (k : Int) (by omega) (by omega)
  have hrd : rd_T72 p (k : Int) = p[k] := by unfold rd_T72; simp [hk]
  rw [hrd, Int.toNat_natCast] at i0 i1 i2 i3 i4
  clear hrd
  clear hx
  generalize p[k] = x at *
  obtain ⟨f0, f1, f2, f3, f4⟩ := x
  dsimp only at *
  obtain ⟨ia, ha, ha2⟩ := reg_int hA
  obtain ⟨ib, hbb, hbb2⟩ := reg_int hBB
  subst h0 ha hbb
  rw [Int.toNat_natCast, Int.toNat_natCast]
  have s0 : w.cell? ⟨b, 0, none⟩ = some (.int .i64 k) := (blk_cell hsb 0).trans rfl
  have s1 : w.cell? ⟨b, 1, none⟩ = some (.slice (some ⟨rb, 0, none⟩) 32 32) := (blk_cell hsb 1).trans rfl
  have m0 : w.cell? ⟨g, 0, none⟩ = some (.slice (some ad) p.length c) := (blk_cell hg 0).trans rfl
  have k1 : (k : Int) < (p.length : Int) := by omega
  have k0 : (0 : Int) ≤ (k : Int) := by omega
  have HB := Aside0.mk hb
  have HS := Aside0.mk hsb
  have HR := Aside0.mk hrb
  have HY := Aside0.mk hyl
  have HRR := Aside0.mk hr
  have HG := Aside0.mk hg
  have HH := Aside0.mk hh
  clear hsb hrb hyl hr hm hb hg hC hh hl hq
  go_enter Tryz.func67, Tryz.ntmps67
  go_wp2
  go_region_held3 (fun w' => w'.cell? ⟨g, 0, none⟩ = some (.slice (some ad) p.length c) ∧ w'.cell? ⟨b, 0, none⟩ = some (.int .i64 k) ∧ w'.cell? (ad.add (k * 5)) = some (.int .i64 4) ∧ w'.cell? ⟨(ad.add (k * 5)).block, (ad.add (k * 5)).off + 1, none⟩ = some (.int .i64 ia) ∧ w'.cell? ⟨(ad.add (k * 5)).block, (ad.add (k * 5)).off + 2, none⟩ = some (.int .i64 ib) ∧ w'.cell? ⟨(ad.add (k * 5)).block, (ad.add (k * 5)).off + 3, none⟩ = some (.int .i64 f3) ∧ w'.cell? ⟨(ad.add (k * 5)).block, (ad.add (k * 5)).off + 4, none⟩ = some (.string f4))
    (go_keep) (fail)
  rename_i hheld
  clear hheld
  have F1 : ∀ o, Below w.heap.size w (w.alloc o).drew := fun o => below_drew (below_alloc (Below.refl _ _) o)
  have F2 : ∀ cs : Array Value, ((w.alloc (.cells cs 72 (0, 0))).drew).heap[w.heap.size]? = some (.cells cs 72 (0, 0)) := fun cs => blk_new w _
  generalize hW : (w.alloc _).drew = W
  have HW : Aside0 (Below w.heap.size w W) := ⟨hW ▸ F1 _⟩
  have hX : W.heap[w.heap.size]? = some (.cells #[.int .i64 4, .int .i64 ia, .int .i64 ib, .int .i64 f3, .string f4] 72 (0, 0)) := by rw [← hW]; exact F2 _
  clear hW F1 F2 i0 i1 i2 i3 i4
  have x0 : W.cell? ⟨w.heap.size, 0, none⟩ = some (.int .i64 4) := (blk_cell hX 0).trans rfl
  have x1 : W.cell? ⟨w.heap.size, 1, none⟩ = some (.int .i64 ia) := (blk_cell hX 1).trans rfl
  have x2 : W.cell? ⟨w.heap.size, 2, none⟩ = some (.int .i64 ib) := (blk_cell hX 2).trans rfl
  have x3 : W.cell? ⟨w.heap.size, 3, none⟩ = some (.int .i64 f3) := (blk_cell hX 3).trans rfl
  replace s0 := pw_cell_below HW.out s0
  replace s1 := pw_cell_below HW.out s1
  replace m0 := pw_cell_below HW.out m0
  have HS2 := Aside0.mk ((HW.out.block _ (blk_lt HS.out)).trans HS.out)
  have HR2 := Aside0.mk ((HW.out.block _ (blk_lt HR.out)).trans HR.out)
  have fb : W.frozen? ⟨b, 0, none⟩ = false := blk_frozen HS2.out 0
  clear hX
  obtain ⟨va0, ea0, _⟩ := HRR.out ia ha2
  have ca : W.cell? ⟨rb, ia, none⟩ = some va0 := reg_cell HR2.out ea0
  have fa : W.frozen? ⟨rb, ia, none⟩ = false := blk_frozen HR2.out ia
  have j1 : (ia : Int) < 32 := by omega
  have j2 : (0 : Int) ≤ (ia : Int) := by omega
  clear ea0
  obtain ⟨vb, eb, hvb⟩ := HRR.out ib hbb2
  obtain ⟨qb, rfl⟩ := Nd.ptr hvb
  have cb : W.cell? ⟨rb, ib, none⟩ = some (.pointer qb) := reg_cell HR2.out eb
  have HVb := Aside0.mk hvb
  have jb1 : (ib : Int) < 32 := by omega
  have jb2 : (0 : Int) ≤ (ib : Int) := by omega
  clear eb hvb
  obtain ⟨u, hu, hcall⟩ := Rest_still (r ib) (.pointer qb) W.drew (Nd.keep (NK.trans (NK.below HW.out) (NK.drew _)) _ _ HVb.out)
  obtain ⟨qu, rfl⟩ := Nd.ptr hu
  have HU : Aside0 (Nd W (r ib).tl (.pointer qu)) := ⟨Nd.keep (w := W.drew) (w' := W) (fun _ _ h => h) _ _ hu⟩
  have HCALL := Aside0.mk hcall
  clear hu hcall
  go_wp2
  go_still_tail 16, (by kernel_rfl)
  still_call HCALL.out
  repeat still_step
  refine wpStill_nil ?_
  change wpList _ _ _ _ _ W.drew
  clear cb HCALL
  have HSX := blk_far HS2.out (p := ⟨rb, ia, none⟩) (st_ne HS2.out HR2.out) (.pointer qu)
  have d0 : (W.setCell ⟨rb, ia, none⟩ (.pointer qu)).cell? ⟨b, 0, none⟩ = some (.int .i64 k) := (blk_cell HSX 0).trans rfl
  have d1 : (W.setCell ⟨rb, ia, none⟩ (.pointer qu)).frozen? ⟨b, 0, none⟩ = false := blk_frozen HSX 0
  clear HSX
  go_wp2
  go_ret
  exact ⟨rfl, state_done ((k + 1 : Nat) : Int) HB.out HW.out hb1 hb2 HS.out HR.out HY.out HRR.out ha2 HU.out⟩
set_option maxHeartbeats 4000000 in
set_option maxRecDepth 100000 in
theorem Step_cons (w0 w : World) (m s : Value) (p : List S72) (k : Nat) (hk : k < p.length) (r : Rg) (hm : MachAt w0 m p) (hb : Below w0.heap.size w0 w) (hs : StateAt w0.heap.size w s k r) (hp : p.length ≤ 4000)
    (h0 : p[k].f0 = 2) (hA : Reg p[k].f1) (hBB : Reg p[k].f2) (hCC : Reg p[k].f3) (zz : ∀ i, i < 32 → (r i).size ≤ 2000000) (hz : 1 + (r p[k].f2.toNat).size + (r p[k].f3.toNat).size ≤ 2000000) :
    Calls Tryz.prog 67 #[m, s] w fun e w' => e = .returned (.bool true) ∧ StateAt w0.heap.size w' s (k + 1 : Nat) (upd r p[k].f1.toNat (.cons (r p[k].f2.toNat) (r p[k].f3.toNat))) ∧ Below w0.heap.size w0 w' := by
  obtain ⟨g, h, A, c, xs, rfl, hg, hC, hh, hl, hq, hx⟩ := hm.below hb
  obtain ⟨b, rb, ys, rfl, hb1, hb2, hsb, hrb, hyl, hr⟩ := hs
  obtain ⟨ad, rfl, i0, i1, i2, i3, i4⟩ := at_T72 hC (k : Int) (by omega) (by omega)
  have hrd : rd_T72 p (k : Int) = p[k] := by unfold rd_T72; simp [hk]
  rw [hrd, Int.toNat_natCast] at i0 i1 i2 i3 i4
  clear hrd
  clear hx
  generalize p[k] = x at *
  obtain ⟨f0, f1, f2, f3, f4⟩ := x
  dsimp only at *
  obtain ⟨ia, ha, ha2⟩ := reg_int hA
  obtain ⟨ib, hbb, hbb2⟩ := reg_int hBB
  obtain ⟨ic, hc, hc2⟩ := reg_int hCC
  subst h0 ha hbb hc
  rw [Int.toNat_natCast, Int.toNat_natCast] at hz
  rw [Int.toNat_natCast, Int.toNat_natCast, Int.toNat_natCast]
  have s0 : w.cell? ⟨b, 0, none⟩ = some (.int .i64 k) := (blk_cell hsb 0).trans rfl
  have s1 : w.cell? ⟨b, 1, none⟩ = some (.slice (some ⟨rb, 0, none⟩) 32 32) := (blk_cell hsb 1).trans rfl
  have m0 : w.cell? ⟨g, 0, none⟩ = some (.slice (some ad) p.length c) := (blk_cell hg 0).trans rfl
  have k1 : (k : Int) < (p.length : Int) := by omega
  have k0 : (0 : Int) ≤ (k : Int) := by omega
  have HB := Aside0.mk hb
  have HS := Aside0.mk hsb
  have HR := Aside0.mk hrb
  have HY := Aside0.mk hyl
  have HRR := Aside0.mk hr
  have HG := Aside0.mk hg
  have HH := Aside0.mk hh
  clear hsb hrb hyl hr hm hb hg hC hh hl hq
  go_enter Tryz.func67, Tryz.ntmps67
  go_wp2
  go_region_held3 (fun w' => w'.cell? ⟨g, 0, none⟩ = some (.slice (some ad) p.length c) ∧ w'.cell? ⟨b, 0, none⟩ = some (.int .i64 k) ∧ w'.cell? (ad.add (k * 5)) = some (.int .i64 2) ∧ w'.cell? ⟨(ad.add (k * 5)).block, (ad.add (k * 5)).off + 1, none⟩ = some (.int .i64 ia) ∧ w'.cell? ⟨(ad.add (k * 5)).block, (ad.add (k * 5)).off + 2, none⟩ = some (.int .i64 ib) ∧ w'.cell? ⟨(ad.add (k * 5)).block, (ad.add (k * 5)).off + 3, none⟩ = some (.int .i64 ic) ∧ w'.cell? ⟨(ad.add (k * 5)).block, (ad.add (k * 5)).off + 4, none⟩ = some (.string f4))
    (go_keep) (fail)
  rename_i hheld
  clear hheld
  have F1 : ∀ o, Below w.heap.size w (w.alloc o).drew := fun o => below_drew (below_alloc (Below.refl _ _) o)
  have F2 : ∀ cs : Array Value, ((w.alloc (.cells cs 72 (0, 0))).drew).heap[w.heap.size]? = some (.cells cs 72 (0, 0)) := fun cs => blk_new w _
  generalize hW : (w.alloc _).drew = W
  have HW : Aside0 (Below w.heap.size w W) := ⟨hW ▸ F1 _⟩
  have hX : W.heap[w.heap.size]? = some (.cells #[.int .i64 2, .int .i64 ia, .int .i64 ib, .int .i64 ic, .string f4] 72 (0, 0)) := by rw [← hW]; exact F2 _
  clear hW F1 F2 i0 i1 i2 i3 i4
  have x0 : W.cell? ⟨w.heap.size, 0, none⟩ = some (.int .i64 2) := (blk_cell hX 0).trans rfl
  have x1 : W.cell? ⟨w.heap.size, 1, none⟩ = some (.int .i64 ia) := (blk_cell hX 1).trans rfl
  have x2 : W.cell? ⟨w.heap.size, 2, none⟩ = some (.int .i64 ib) := (blk_cell hX 2).trans rfl
  have x3 : W.cell? ⟨w.heap.size, 3, none⟩ = some (.int .i64 ic) := (blk_cell hX 3).trans rfl
  replace s0 := pw_cell_below HW.out s0
  replace s1 := pw_cell_below HW.out s1
  replace m0 := pw_cell_below HW.out m0
  have HS2 := Aside0.mk ((HW.out.block _ (blk_lt HS.out)).trans HS.out)
  have HR2 := Aside0.mk ((HW.out.block _ (blk_lt HR.out)).trans HR.out)
  have fb : W.frozen? ⟨b, 0, none⟩ = false := blk_frozen HS2.out 0
  clear hX
  obtain ⟨va0, ea0, _⟩ := HRR.out ia ha2
  have ca : W.cell? ⟨rb, ia, none⟩ = some va0 := reg_cell HR2.out ea0
  have fa : W.frozen? ⟨rb, ia, none⟩ = false := blk_frozen HR2.out ia
  have j1 : (ia : Int) < 32 := by omega
  have j2 : (0 : Int) ≤ (ia : Int) := by omega
  clear ea0
  have tz : decide (2000000 < (1 + (r ib).size + (r ic).size : Nat)) = false := decide_eq_false (by omega)
  clear tz
  obtain ⟨vb, eb, hvb⟩ := HRR.out ib hbb2
  obtain ⟨qb, rfl⟩ := Nd.ptr hvb
  have cb : W.cell? ⟨rb, ib, none⟩ = some (.pointer qb) := reg_cell HR2.out eb
  have HVb := Aside0.mk hvb
  have jb1 : (ib : Int) < 32 := by omega
  have jb2 : (0 : Int) ≤ (ib : Int) := by omega
  clear eb hvb
  obtain ⟨vc, ec, hvc⟩ := HRR.out ic hc2
  obtain ⟨qc, rfl⟩ := Nd.ptr hvc
  have cc : W.cell? ⟨rb, ic, none⟩ = some (.pointer qc) := reg_cell HR2.out ec
  have HVc := Aside0.mk hvc
  have jc1 : (ic : Int) < 32 := by omega
  have jc2 : (0 : Int) ≤ (ic : Int) := by omega
  clear ec hvc
  obtain ⟨N, hN⟩ : ∃ N, N = 1 + (r ib).size + (r ic).size := ⟨_, rfl⟩
  rw [← hN] at hz
  have tz : decide (2000000 < (N : Int)) = false := decide_eq_false (by omega)
  have HN := Aside0.mk hN
  have HZB : Aside0 ((r ib).size ≤ 1000000000000) := ⟨by have := zz ib hbb2; omega⟩
  have HZC : Aside0 ((r ic).size ≤ 1000000000000) := ⟨by have := zz ic hc2; omega⟩
  clear hN zz
  go_wp2
  go_still_tail 16, (by kernel_rfl)
  change wpList _ _ _ _ _ W.drew
  clear cb cc
  go_wp2_with (go_at_call 23; refine (Cons_calls (r ib) (r ic) (.pointer qb) (.pointer qc) _ (Nd.keep (NK.trans (NK.below HW.out) (NK.drew _)) _ _ HVb.out) (Nd.keep (NK.trans (NK.below HW.out) (NK.drew _)) _ _ HVc.out) HZB.out HZC.out).mono ?_; rintro e W2 ⟨u, rfl, hnu, hbu⟩; obtain ⟨gu, vu1, vu2, rfl, hgu, hu1, hu2⟩ := hnu; rw [← HN.out] at hgu; have HU : Aside0 (Nd W2 (.cons (r ib) (r ic)) (.pointer (some ⟨gu, 0, none⟩))) := ⟨⟨gu, vu1, vu2, rfl, by rw [← HN.out]; exact hgu, hu1, hu2⟩⟩; have cu : W2.cell? ⟨gu, 2, none⟩ = some (.int .i64 (N : Int)) := (blk_cell hgu 2).trans rfl; have HB2 : Aside0 (Below w.heap.size w W2) := ⟨below_then (below_drew HW.out) HW.out.size hbu⟩; have HW2 : Aside0 (Below W.heap.size W W2) := ⟨Below.trans (below_drew (Below.refl W.heap.size W)) hbu⟩; clear hbu hgu hu1 hu2; have n1 := pw_cell_below HW2.out x1; have n2 := pw_cell_below HW2.out s1; have n3 := pw_cell_below HW2.out s0; have HS3 := Aside0.mk ((HW2.out.block _ (blk_lt HS2.out)).trans HS2.out); have HR3 := Aside0.mk ((HW2.out.block _ (blk_lt HR2.out)).trans HR2.out); have n4 : W2.frozen? ⟨b, 0, none⟩ = false := blk_frozen HS3.out 0; have n5 := pw_cell_below HW2.out ca; have n6 : W2.frozen? ⟨rb, ia, none⟩ = false := blk_frozen HR3.out ia)
  go_still_tail 8, (by kernel_rfl)
  change wpList _ _ _ _ _ W2.drew
  have HSX := blk_far HS3.out (p := ⟨rb, ia, none⟩) (st_ne HS3.out HR3.out) (.pointer (some ⟨gu, 0, none⟩))
  have d0 : (W2.setCell ⟨rb, ia, none⟩ (.pointer (some ⟨gu, 0, none⟩))).cell? ⟨b, 0, none⟩ = some (.int .i64 k) := (blk_cell HSX 0).trans rfl
  have d1 : (W2.setCell ⟨rb, ia, none⟩ (.pointer (some ⟨gu, 0, none⟩))).frozen? ⟨b, 0, none⟩ = false := blk_frozen HSX 0
  clear HSX
  go_wp2
  go_ret
  exact ⟨rfl, state_done ((k + 1 : Nat) : Int) HB.out HB2.out hb1 hb2 HS.out HR.out HY.out HRR.out ha2 HU.out⟩
set_option maxHeartbeats 4000000 in
set_option maxRecDepth 100000 in
theorem Step_large (w0 w : World) (m s : Value) (p : List S72) (k : Nat) (hk : k < p.length) (r : Rg) (hm : MachAt w0 m p) (hb : Below w0.heap.size w0 w) (hs : StateAt w0.heap.size w s k r) (hp : p.length ≤ 4000)
    (h0 : p[k].f0 = 2) (hA : Reg p[k].f1) (hBB : Reg p[k].f2) (hCC : Reg p[k].f3) (zz : ∀ i, i < 32 → (r i).size ≤ 2000000) (hz : 2000000 < 1 + (r p[k].f2.toNat).size + (r p[k].f3.toNat).size) :
    Calls Tryz.prog 67 #[m, s] w fun e w' => e = .returned (.bool false) ∧ StateAt w0.heap.size w' s k r ∧ Below w0.heap.size w0 w' := by
  obtain ⟨g, h, A, c, xs, rfl, hg, hC, hh, hl, hq, hx⟩ := hm.below hb
  obtain ⟨b, rb, ys, rfl, hb1, hb2, hsb, hrb, hyl, hr⟩ := hs
  obtain ⟨ad, rfl, i0, i1, i2, i3, i4⟩ := at_T72 hC (k : Int) (by omega) (by omega)
  have hrd : rd_T72 p (k : Int) = p[k] := by unfold rd_T72; simp [hk]
  rw [hrd, Int.toNat_natCast] at i0 i1 i2 i3 i4
  clear hrd
  clear hx
  generalize p[k] = x at *
  obtain ⟨f0, f1, f2, f3, f4⟩ := x
  dsimp only at *
  obtain ⟨ia, ha, ha2⟩ := reg_int hA
  obtain ⟨ib, hbb, hbb2⟩ := reg_int hBB
  obtain ⟨ic, hc, hc2⟩ := reg_int hCC
  subst h0 ha hbb hc
  rw [Int.toNat_natCast, Int.toNat_natCast] at hz
  have s0 : w.cell? ⟨b, 0, none⟩ = some (.int .i64 k) := (blk_cell hsb 0).trans rfl
  have s1 : w.cell? ⟨b, 1, none⟩ = some (.slice (some ⟨rb, 0, none⟩) 32 32) := (blk_cell hsb 1).trans rfl
  have m0 : w.cell? ⟨g, 0, none⟩ = some (.slice (some ad) p.length c) := (blk_cell hg 0).trans rfl
  have k1 : (k : Int) < (p.length : Int) := by omega
  have k0 : (0 : Int) ≤ (k : Int) := by omega
  have HB := Aside0.mk hb
  have HS := Aside0.mk hsb
  have HR := Aside0.mk hrb
  have HY := Aside0.mk hyl
  have HRR := Aside0.mk hr
  have HG := Aside0.mk hg
  have HH := Aside0.mk hh
  clear hsb hrb hyl hr hm hb hg hC hh hl hq
  go_enter Tryz.func67, Tryz.ntmps67
  go_wp2
  go_region_held3 (fun w' => w'.cell? ⟨g, 0, none⟩ = some (.slice (some ad) p.length c) ∧ w'.cell? ⟨b, 0, none⟩ = some (.int .i64 k) ∧ w'.cell? (ad.add (k * 5)) = some (.int .i64 2) ∧ w'.cell? ⟨(ad.add (k * 5)).block, (ad.add (k * 5)).off + 1, none⟩ = some (.int .i64 ia) ∧ w'.cell? ⟨(ad.add (k * 5)).block, (ad.add (k * 5)).off + 2, none⟩ = some (.int .i64 ib) ∧ w'.cell? ⟨(ad.add (k * 5)).block, (ad.add (k * 5)).off + 3, none⟩ = some (.int .i64 ic) ∧ w'.cell? ⟨(ad.add (k * 5)).block, (ad.add (k * 5)).off + 4, none⟩ = some (.string f4))
    (go_keep) (fail)
  rename_i hheld
  clear hheld
  have F1 : ∀ o, Below w.heap.size w (w.alloc o).drew := fun o => below_drew (below_alloc (Below.refl _ _) o)
  have F2 : ∀ cs : Array Value, ((w.alloc (.cells cs 72 (0, 0))).drew).heap[w.heap.size]? = some (.cells cs 72 (0, 0)) := fun cs => blk_new w _
  generalize hW : (w.alloc _).drew = W
  have HW : Aside0 (Below w.heap.size w W) := ⟨hW ▸ F1 _⟩
  have hX : W.heap[w.heap.size]? = some (.cells #[.int .i64 2, .int .i64 ia, .int .i64 ib, .int .i64 ic, .string f4] 72 (0, 0)) := by rw [← hW]; exact F2 _
  clear hW F1 F2 i0 i1 i2 i3 i4
  have x0 : W.cell? ⟨w.heap.size, 0, none⟩ = some (.int .i64 2) := (blk_cell hX 0).trans rfl
  have x1 : W.cell? ⟨w.heap.size, 1, none⟩ = some (.int .i64 ia) := (blk_cell hX 1).trans rfl
  have x2 : W.cell? ⟨w.heap.size, 2, none⟩ = some (.int .i64 ib) := (blk_cell hX 2).trans rfl
  have x3 : W.cell? ⟨w.heap.size, 3, none⟩ = some (.int .i64 ic) := (blk_cell hX 3).trans rfl
  replace s0 := pw_cell_below HW.out s0
  replace s1 := pw_cell_below HW.out s1
  replace m0 := pw_cell_below HW.out m0
  have HS2 := Aside0.mk ((HW.out.block _ (blk_lt HS.out)).trans HS.out)
  have HR2 := Aside0.mk ((HW.out.block _ (blk_lt HR.out)).trans HR.out)
  have fb : W.frozen? ⟨b, 0, none⟩ = false := blk_frozen HS2.out 0
  clear hX
  obtain ⟨vb, eb, hvb⟩ := HRR.out ib hbb2
  obtain ⟨qb, rfl⟩ := Nd.ptr hvb
  have cb : W.cell? ⟨rb, ib, none⟩ = some (.pointer qb) := reg_cell HR2.out eb
  have HVb := Aside0.mk hvb
  have jb1 : (ib : Int) < 32 := by omega
  have jb2 : (0 : Int) ≤ (ib : Int) := by omega
  clear eb hvb
  obtain ⟨vc, ec, hvc⟩ := HRR.out ic hc2
  obtain ⟨qc, rfl⟩ := Nd.ptr hvc
  have cc : W.cell? ⟨rb, ic, none⟩ = some (.pointer qc) := reg_cell HR2.out ec
  have HVc := Aside0.mk hvc
  have jc1 : (ic : Int) < 32 := by omega
  have jc2 : (0 : Int) ≤ (ic : Int) := by omega
  clear ec hvc
  obtain ⟨N, hN⟩ : ∃ N, N = 1 + (r ib).size + (r ic).size := ⟨_, rfl⟩
  rw [← hN] at hz
  have tz : decide (2000000 < (N : Int)) = true := decide_eq_true (by omega)
  have HN := Aside0.mk hN
  have HZB : Aside0 ((r ib).size ≤ 1000000000000) := ⟨by have := zz ib hbb2; omega⟩
  have HZC : Aside0 ((r ic).size ≤ 1000000000000) := ⟨by have := zz ic hc2; omega⟩
  clear hN zz
  go_wp2
  go_still_tail 16, (by kernel_rfl)
  change wpList _ _ _ _ _ W.drew
  clear cb cc
  go_wp2_with (go_at_call 23; refine (Cons_calls (r ib) (r ic) (.pointer qb) (.pointer qc) _ (Nd.keep (NK.trans (NK.below HW.out) (NK.drew _)) _ _ HVb.out) (Nd.keep (NK.trans (NK.below HW.out) (NK.drew _)) _ _ HVc.out) HZB.out HZC.out).mono ?_; rintro e W2 ⟨u, rfl, hnu, hbu⟩; obtain ⟨gu, vu1, vu2, rfl, hgu, hu1, hu2⟩ := hnu; rw [← HN.out] at hgu; have HU : Aside0 (Nd W2 (.cons (r ib) (r ic)) (.pointer (some ⟨gu, 0, none⟩))) := ⟨⟨gu, vu1, vu2, rfl, by rw [← HN.out]; exact hgu, hu1, hu2⟩⟩; have cu : W2.cell? ⟨gu, 2, none⟩ = some (.int .i64 (N : Int)) := (blk_cell hgu 2).trans rfl; have HB2 : Aside0 (Below w.heap.size w W2) := ⟨below_then (below_drew HW.out) HW.out.size hbu⟩; have HW2 : Aside0 (Below W.heap.size W W2) := ⟨Below.trans (below_drew (Below.refl W.heap.size W)) hbu⟩; clear hbu hgu hu1 hu2; have n1 := pw_cell_below HW2.out x1; have n2 := pw_cell_below HW2.out s1; have n3 := pw_cell_below HW2.out s0; have HS3 := Aside0.mk ((HW2.out.block _ (blk_lt HS2.out)).trans HS2.out); have HR3 := Aside0.mk ((HW2.out.block _ (blk_lt HR2.out)).trans HR2.out); have n4 : W2.frozen? ⟨b, 0, none⟩ = false := blk_frozen HS3.out 0)
  go_ret
  refine ⟨rfl, ⟨b, rb, ys, rfl, hb1, hb2, HS3.out, HR3.out, HY.out, fun i hi => ?_⟩, below_then HB.out HB.out.size HB2.out⟩
  obtain ⟨v, hv, hn⟩ := HRR.out i hi
  exact ⟨v, hv, Nd.keep (NK.below HB2.out) _ _ hn⟩
set_option maxHeartbeats 4000000 in
set_option maxRecDepth 100000 in
theorem Step_go (w0 w : World) (m s : Value) (p : List S72) (k : Nat) (hk : k < p.length) (r : Rg) (hm : MachAt w0 m p) (hb : Below w0.heap.size w0 w) (hs : StateAt w0.heap.size w s k r) (hp : p.length ≤ 4000)
    (h0 : p[k].f0 = 5) (hA : Reg p[k].f1) (hn : (r p[k].f1.toNat).isNil = false) (hJ : 0 ≤ (k : Int) + p[k].f2 ∧ (k : Int) + p[k].f2 ≤ p.length) :
    Calls Tryz.prog 67 #[m, s] w fun e w' => e = .returned (.bool true) ∧ StateAt w0.heap.size w' s ((k : Int) + p[k].f2) r ∧ Below w0.heap.size w0 w' := by
  obtain ⟨g, h, A, c, xs, rfl, hg, hC, hh, hl, hq, hx⟩ := hm.below hb
  obtain ⟨b, rb, ys, rfl, hb1, hb2, hsb, hrb, hyl, hr⟩ := hs
  obtain ⟨ad, rfl, i0, i1, i2, i3, i4⟩ := at_T72 hC (k : Int) (by omega) (by omega)
  have hrd : rd_T72 p (k : Int) = p[k] := by unfold rd_T72; simp [hk]
  rw [hrd, Int.toNat_natCast] at i0 i1 i2 i3 i4
  clear hrd
  clear hx
  generalize p[k] = x at *
  obtain ⟨f0, f1, f2, f3, f4⟩ := x
  dsimp only at *
  obtain ⟨ia, ha, ha2⟩ := reg_int hA
  subst h0 ha
  rw [Int.toNat_natCast] at hn
  have s0 : w.cell? ⟨b, 0, none⟩ = some (.int .i64 k) := (blk_cell hsb 0).trans rfl
  have s1 : w.cell? ⟨b, 1, none⟩ = some (.slice (some ⟨rb, 0, none⟩) 32 32) := (blk_cell hsb 1).trans rfl
  have m0 : w.cell? ⟨g, 0, none⟩ = some (.slice (some ad) p.length c) := (blk_cell hg 0).trans rfl
  have k1 : (k : Int) < (p.length : Int) := by omega
  have k0 : (0 : Int) ≤ (k : Int) := by omega
  have HB := Aside0.mk hb
  have HS := Aside0.mk hsb
  have HR := Aside0.mk hrb
  have HY := Aside0.mk hyl
  have HRR := Aside0.mk hr
  have HG := Aside0.mk hg
  have HH := Aside0.mk hh
  clear hsb hrb hyl hr hm hb hg hC hh hl hq
  go_enter Tryz.func67, Tryz.ntmps67
  go_wp2
  go_region_held3 (fun w' => w'.cell? ⟨g, 0, none⟩ = some (.slice (some ad) p.length c) ∧ w'.cell? ⟨b, 0, none⟩ = some (.int .i64 k) ∧ w'.cell? (ad.add (k * 5)) = some (.int .i64 5) ∧ w'.cell? ⟨(ad.add (k * 5)).block, (ad.add (k * 5)).off + 1, none⟩ = some (.int .i64 ia) ∧ w'.cell? ⟨(ad.add (k * 5)).block, (ad.add (k * 5)).off + 2, none⟩ = some (.int .i64 f2) ∧ w'.cell? ⟨(ad.add (k * 5)).block, (ad.add (k * 5)).off + 3, none⟩ = some (.int .i64 f3) ∧ w'.cell? ⟨(ad.add (k * 5)).block, (ad.add (k * 5)).off + 4, none⟩ = some (.string f4))
    (go_keep) (fail)
  rename_i hheld
  clear hheld
  have F1 : ∀ o, Below w.heap.size w (w.alloc o).drew := fun o => below_drew (below_alloc (Below.refl _ _) o)
  have F2 : ∀ cs : Array Value, ((w.alloc (.cells cs 72 (0, 0))).drew).heap[w.heap.size]? = some (.cells cs 72 (0, 0)) := fun cs => blk_new w _
  generalize hW : (w.alloc _).drew = W
  have HW : Aside0 (Below w.heap.size w W) := ⟨hW ▸ F1 _⟩
  have hX : W.heap[w.heap.size]? = some (.cells #[.int .i64 5, .int .i64 ia, .int .i64 f2, .int .i64 f3, .string f4] 72 (0, 0)) := by rw [← hW]; exact F2 _
  clear hW F1 F2 i0 i1 i2 i3 i4
  have x0 : W.cell? ⟨w.heap.size, 0, none⟩ = some (.int .i64 5) := (blk_cell hX 0).trans rfl
  have x1 : W.cell? ⟨w.heap.size, 1, none⟩ = some (.int .i64 ia) := (blk_cell hX 1).trans rfl
  have x2 : W.cell? ⟨w.heap.size, 2, none⟩ = some (.int .i64 f2) := (blk_cell hX 2).trans rfl
  have x3 : W.cell? ⟨w.heap.size, 3, none⟩ = some (.int .i64 f3) := (blk_cell hX 3).trans rfl
  replace s0 := pw_cell_below HW.out s0
  replace s1 := pw_cell_below HW.out s1
  replace m0 := pw_cell_below HW.out m0
  have HS2 := Aside0.mk ((HW.out.block _ (blk_lt HS.out)).trans HS.out)
  have HR2 := Aside0.mk ((HW.out.block _ (blk_lt HR.out)).trans HR.out)
  have fb : W.frozen? ⟨b, 0, none⟩ = false := blk_frozen HS2.out 0
  clear hX
  obtain ⟨va, ea, hva⟩ := HRR.out ia ha2
  obtain ⟨qa, rfl⟩ := Nd.ptr hva
  have ca : W.cell? ⟨rb, ia, none⟩ = some (.pointer qa) := reg_cell HR2.out ea
  have HVa := Aside0.mk hva
  have ja1 : (ia : Int) < 32 := by omega
  have ja2 : (0 : Int) ≤ (ia : Int) := by omega
  clear ea hva
  obtain ⟨qq, rfl⟩ : ∃ q, qa = some q := by
    cases qa with
    | some q => exact ⟨q, rfl⟩
    | none => rw [(Nd.nil_iff HVa.out).1 rfl] at hn; cases hn
  have e1 : IntKind.i64.wrap ((k : Int) + f2) = (k : Int) + f2 := by rw [i64_w]; unfold wrap64; omega
  have e2 : (k : Int) + f2 ≤ 9223372036854775807 := by omega
  have e3 : -9223372036854775808 ≤ (k : Int) + f2 := by omega
  clear hn hJ HVa
  go_wp2
  go_quiet (fail)
  have F1 : ∀ n, Below W.heap.size W (W.drewN n) := fun n => pw_below_drewN (Below.refl _ _) n
  generalize hW2 : W.drewN _ = W2
  have HW2 : Aside0 (Below W.heap.size W W2) := ⟨hW2 ▸ F1 _⟩
  have HB2 : Aside0 (Below w.heap.size w W2) := ⟨below_then HW.out HW.out.size HW2.out⟩
  clear hW2 F1
  have n2 := pw_cell_below HW2.out x2
  have n3 := pw_cell_below HW2.out s0
  have HS3 := Aside0.mk ((HW2.out.block _ (blk_lt HS2.out)).trans HS2.out)
  have n4 : W2.frozen? ⟨b, 0, none⟩ = false := blk_frozen HS3.out 0
  clear x0 x1 x2 s0 s1 m0 fb ca
  go_wp2
  go_still_tail 10, (by kernel_rfl)
  change wpList _ _ _ _ _ W2.drew
  go_wp2
  go_ret
  have HD : Below w.heap.size w W2.drew := below_drew HB2.out
  refine ⟨rfl, ?_⟩
  obtain ⟨q1, q2⟩ := state_went ((k : Int) + f2) HB.out HB2.out hb1 hb2 HS.out HR.out HY.out HRR.out
  obtain ⟨b', rb', ys', e', g1, g2, g3, g4, g5, g6⟩ := q1
  exact ⟨⟨b', rb', ys', e', g1, g2, g3, g4, g5, fun i hi => (g6 i hi).imp fun v hv => ⟨hv.1, Nd.keep (NK.drew _) _ _ hv.2⟩⟩, below_drew q2⟩
set_option maxHeartbeats 4000000 in
set_option maxRecDepth 100000 in
theorem Step_stay (w0 w : World) (m s : Value) (p : List S72) (k : Nat) (hk : k < p.length) (r : Rg) (hm : MachAt w0 m p) (hb : Below w0.heap.size w0 w) (hs : StateAt w0.heap.size w s k r) (hp : p.length ≤ 4000)
    (h0 : p[k].f0 = 5) (hA : Reg p[k].f1) (hn : (r p[k].f1.toNat).isNil = true) :
    Calls Tryz.prog 67 #[m, s] w fun e w' => e = .returned (.bool true) ∧ StateAt w0.heap.size w' s (k + 1 : Nat) r ∧ Below w0.heap.size w0 w' := by
  obtain ⟨g, h, A, c, xs, rfl, hg, hC, hh, hl, hq, hx⟩ := hm.below hb
  obtain ⟨b, rb, ys, rfl, hb1, hb2, hsb, hrb, hyl, hr⟩ := hs
  obtain ⟨ad, rfl, i0, i1, i2, i3, i4⟩ := at_T72 hC (k : Int) (by omega) (by omega)
  have hrd : rd_T72 p (k : Int) = p[k] := by unfold rd_T72; simp [hk]
  rw [hrd, Int.toNat_natCast] at i0 i1 i2 i3 i4
  clear hrd
  clear hx
  generalize p[k] = x at *
  obtain ⟨f0, f1, f2, f3, f4⟩ := x
  dsimp only at *
  obtain ⟨ia, ha, ha2⟩ := reg_int hA
  subst h0 ha
  rw [Int.toNat_natCast] at hn
  have s0 : w.cell? ⟨b, 0, none⟩ = some (.int .i64 k) := (blk_cell hsb 0).trans rfl
  have s1 : w.cell? ⟨b, 1, none⟩ = some (.slice (some ⟨rb, 0, none⟩) 32 32) := (blk_cell hsb 1).trans rfl
  have m0 : w.cell? ⟨g, 0, none⟩ = some (.slice (some ad) p.length c) := (blk_cell hg 0).trans rfl
  have k1 : (k : Int) < (p.length : Int) := by omega
  have k0 : (0 : Int) ≤ (k : Int) := by omega
  have HB := Aside0.mk hb
  have HS := Aside0.mk hsb
  have HR := Aside0.mk hrb
  have HY := Aside0.mk hyl
  have HRR := Aside0.mk hr
  have HG := Aside0.mk hg
  have HH := Aside0.mk hh
  clear hsb hrb hyl hr hm hb hg hC hh hl hq
  go_enter Tryz.func67, Tryz.ntmps67
  go_wp2
  go_region_held3 (fun w' => w'.cell? ⟨g, 0, none⟩ = some (.slice (some ad) p.length c) ∧ w'.cell? ⟨b, 0, none⟩ = some (.int .i64 k) ∧ w'.cell? (ad.add (k * 5)) = some (.int .i64 5) ∧ w'.cell? ⟨(ad.add (k * 5)).block, (ad.add (k * 5)).off + 1, none⟩ = some (.int .i64 ia) ∧ w'.cell? ⟨(ad.add (k * 5)).block, (ad.add (k * 5)).off + 2, none⟩ = some (.int .i64 f2) ∧ w'.cell? ⟨(ad.add (k * 5)).block, (ad.add (k * 5)).off + 3, none⟩ = some (.int .i64 f3) ∧ w'.cell? ⟨(ad.add (k * 5)).block, (ad.add (k * 5)).off + 4, none⟩ = some (.string f4))
    (go_keep) (fail)
  rename_i hheld
  clear hheld
  have F1 : ∀ o, Below w.heap.size w (w.alloc o).drew := fun o => below_drew (below_alloc (Below.refl _ _) o)
  have F2 : ∀ cs : Array Value, ((w.alloc (.cells cs 72 (0, 0))).drew).heap[w.heap.size]? = some (.cells cs 72 (0, 0)) := fun cs => blk_new w _
  generalize hW : (w.alloc _).drew = W
  have HW : Aside0 (Below w.heap.size w W) := ⟨hW ▸ F1 _⟩
  have hX : W.heap[w.heap.size]? = some (.cells #[.int .i64 5, .int .i64 ia, .int .i64 f2, .int .i64 f3, .string f4] 72 (0, 0)) := by rw [← hW]; exact F2 _
  clear hW F1 F2 i0 i1 i2 i3 i4
  have x0 : W.cell? ⟨w.heap.size, 0, none⟩ = some (.int .i64 5) := (blk_cell hX 0).trans rfl
  have x1 : W.cell? ⟨w.heap.size, 1, none⟩ = some (.int .i64 ia) := (blk_cell hX 1).trans rfl
  have x2 : W.cell? ⟨w.heap.size, 2, none⟩ = some (.int .i64 f2) := (blk_cell hX 2).trans rfl
  have x3 : W.cell? ⟨w.heap.size, 3, none⟩ = some (.int .i64 f3) := (blk_cell hX 3).trans rfl
  replace s0 := pw_cell_below HW.out s0
  replace s1 := pw_cell_below HW.out s1
  replace m0 := pw_cell_below HW.out m0
  have HS2 := Aside0.mk ((HW.out.block _ (blk_lt HS.out)).trans HS.out)
  have HR2 := Aside0.mk ((HW.out.block _ (blk_lt HR.out)).trans HR.out)
  have fb : W.frozen? ⟨b, 0, none⟩ = false := blk_frozen HS2.out 0
  clear hX
  obtain ⟨va, ea, hva⟩ := HRR.out ia ha2
  obtain ⟨qa, rfl⟩ := Nd.ptr hva
  have ca : W.cell? ⟨rb, ia, none⟩ = some (.pointer qa) := reg_cell HR2.out ea
  have HVa := Aside0.mk hva
  have ja1 : (ia : Int) < 32 := by omega
  have ja2 : (0 : Int) ≤ (ia : Int) := by omega
  clear ea hva
  obtain rfl : qa = none := by
    cases qa with
    | none => rfl
    | some q => rw [show (r ia) = Tr.nil from by cases hr1 : r ia with | nil => rfl | cons a b => rw [hr1] at hn; cases hn] at HVa; exact absurd HVa.out (by intro e; cases e)
  clear hn HVa
  go_wp2
  go_quiet (fail)
  have F1 : ∀ n, Below W.heap.size W (W.drewN n) := fun n => pw_below_drewN (Below.refl _ _) n
  generalize hW2 : W.drewN _ = W2
  have HW2 : Aside0 (Below W.heap.size W W2) := ⟨hW2 ▸ F1 _⟩
  have HB2 : Aside0 (Below w.heap.size w W2) := ⟨below_then HW.out HW.out.size HW2.out⟩
  clear hW2 F1
  have n2 := pw_cell_below HW2.out x2
  have n3 := pw_cell_below HW2.out s0
  have HS3 := Aside0.mk ((HW2.out.block _ (blk_lt HS2.out)).trans HS2.out)
  have n4 : W2.frozen? ⟨b, 0, none⟩ = false := blk_frozen HS3.out 0
  clear x0 x1 x2 s0 s1 m0 fb ca
  go_wp2
  go_ret
  exact ⟨rfl, state_went ((k + 1 : Nat) : Int) HB.out HB2.out hb1 hb2 HS.out HR.out HY.out HRR.out⟩
end Go.Proofs.YtocoamgbpoommaaGreatDoor.C
end
