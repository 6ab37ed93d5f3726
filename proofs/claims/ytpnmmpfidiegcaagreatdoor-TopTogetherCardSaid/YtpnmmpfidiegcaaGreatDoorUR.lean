/- Texts of this claim, together: what the functions return, and what they say in plain words. -/
import Derived.Test.YtpnmmpfidiegcaaGreatDoorUJ
import Derived.Test.YtpnmmpfidiegcaaGreatDoorUQ
import Derived.Test.YtpnmmpfidiegcaaGreatDoorUB
import Derived.Test.YtpnmmpfidiegcaaGreatDoorUC
section
namespace Go.Proofs.YtpnmmpfidiegcaaGreatDoor.Plain
open Go.Proofs.YtpnmmpfidiegcaaGreatDoor.C
set_option linter.unusedVariables false
set_option linter.unusedSimpArgs false
abbrev zz : Ins := ⟨0, 0, 0, 0, ⟨#[]⟩⟩
def lit (l : List UInt8) : ByteArray := ⟨l.toArray⟩
def mk (a0 a1 a2 a3 a4 a5 a6 a7 a8 a9 a10 : Tr) : Rg
  | 0 => a0 | 1 => a1 | 2 => a2 | 3 => a3 | 4 => a4 | 5 => a5 | 6 => a6 | 7 => a7 | 8 => a8 | 9 => a9 | 10 => a10 | _ => .nil
section
variable (a0 a1 a2 a3 a4 a5 a6 a7 a8 a9 a10 v : Tr)
theorem init_mk : init a0 = mk a0 .nil .nil .nil .nil .nil .nil .nil .nil .nil .nil := by
  funext i; unfold init mk
  match i with
  | 0 | 1 | 2 | 3 | 4 | 5 | 6 | 7 | 8 | 9 | 10 => rfl
  | n + 11 => simp
theorem up0 : upd (mk a0 a1 a2 a3 a4 a5 a6 a7 a8 a9 a10) 0 v = mk v a1 a2 a3 a4 a5 a6 a7 a8 a9 a10 := by
  funext i; match i with | 0 | 1 | 2 | 3 | 4 | 5 | 6 | 7 | 8 | 9 | 10 | n + 11 => rfl
theorem up1 : upd (mk a0 a1 a2 a3 a4 a5 a6 a7 a8 a9 a10) 1 v = mk a0 v a2 a3 a4 a5 a6 a7 a8 a9 a10 := by
  funext i; match i with | 0 | 1 | 2 | 3 | 4 | 5 | 6 | 7 | 8 | 9 | 10 | n + 11 => rfl
theorem up2 : upd (mk a0 a1 a2 a3 a4 a5 a6 a7 a8 a9 a10) 2 v = mk a0 a1 v a3 a4 a5 a6 a7 a8 a9 a10 := by
  funext i; match i with | 0 | 1 | 2 | 3 | 4 | 5 | 6 | 7 | 8 | 9 | 10 | n + 11 => rfl
theorem up3 : upd (mk a0 a1 a2 a3 a4 a5 a6 a7 a8 a9 a10) 3 v = mk a0 a1 a2 v a4 a5 a6 a7 a8 a9 a10 := by
  funext i; match i with | 0 | 1 | 2 | 3 | 4 | 5 | 6 | 7 | 8 | 9 | 10 | n + 11 => rfl
theorem up4 : upd (mk a0 a1 a2 a3 a4 a5 a6 a7 a8 a9 a10) 4 v = mk a0 a1 a2 a3 v a5 a6 a7 a8 a9 a10 := by
  funext i; match i with | 0 | 1 | 2 | 3 | 4 | 5 | 6 | 7 | 8 | 9 | 10 | n + 11 => rfl
theorem up5 : upd (mk a0 a1 a2 a3 a4 a5 a6 a7 a8 a9 a10) 5 v = mk a0 a1 a2 a3 a4 v a6 a7 a8 a9 a10 := by
  funext i; match i with | 0 | 1 | 2 | 3 | 4 | 5 | 6 | 7 | 8 | 9 | 10 | n + 11 => rfl
theorem up6 : upd (mk a0 a1 a2 a3 a4 a5 a6 a7 a8 a9 a10) 6 v = mk a0 a1 a2 a3 a4 a5 v a7 a8 a9 a10 := by
  funext i; match i with | 0 | 1 | 2 | 3 | 4 | 5 | 6 | 7 | 8 | 9 | 10 | n + 11 => rfl
theorem up7 : upd (mk a0 a1 a2 a3 a4 a5 a6 a7 a8 a9 a10) 7 v = mk a0 a1 a2 a3 a4 a5 a6 v a8 a9 a10 := by
  funext i; match i with | 0 | 1 | 2 | 3 | 4 | 5 | 6 | 7 | 8 | 9 | 10 | n + 11 => rfl
theorem up8 : upd (mk a0 a1 a2 a3 a4 a5 a6 a7 a8 a9 a10) 8 v = mk a0 a1 a2 a3 a4 a5 a6 a7 v a9 a10 := by
  funext i; match i with | 0 | 1 | 2 | 3 | 4 | 5 | 6 | 7 | 8 | 9 | 10 | n + 11 => rfl
theorem up9 : upd (mk a0 a1 a2 a3 a4 a5 a6 a7 a8 a9 a10) 9 v = mk a0 a1 a2 a3 a4 a5 a6 a7 a8 v a10 := by
  funext i; match i with | 0 | 1 | 2 | 3 | 4 | 5 | 6 | 7 | 8 | 9 | 10 | n + 11 => rfl
theorem up10 : upd (mk a0 a1 a2 a3 a4 a5 a6 a7 a8 a9 a10) 10 v = mk a0 a1 a2 a3 a4 a5 a6 a7 a8 a9 v := by
  funext i; match i with | 0 | 1 | 2 | 3 | 4 | 5 | 6 | 7 | 8 | 9 | 10 | n + 11 => rfl
end
theorem ex_set (a : Int) (t : ByteArray) (r : Rg) : exec ⟨0, a, 0, 0, t⟩ r = some (1, upd r a.toNat (dec (bl t))) := rfl
theorem ex_move (a b : Int) (r : Rg) : exec ⟨1, a, b, 0, ⟨#[]⟩⟩ r = some (1, upd r a.toNat (r b.toNat)) := rfl
theorem ex_cons (a b c : Int) (r : Rg) (h : 1 + (r b.toNat).size + (r c.toNat).size ≤ 2000000) : exec ⟨2, a, b, c, ⟨#[]⟩⟩ r = some (1, upd r a.toNat (.cons (r b.toNat) (r c.toNat))) := by
  show (if 2000000 < 1 + (r b.toNat).size + (r c.toNat).size then none else some ((1 : Int), upd r a.toNat (.cons (r b.toNat) (r c.toNat)))) = _
  rw [if_neg (by omega)]
theorem ex_head (a b : Int) (r : Rg) : exec ⟨3, a, b, 0, ⟨#[]⟩⟩ r = some (1, upd r a.toNat (r b.toNat).hd) := rfl
theorem ex_tail (a b : Int) (r : Rg) : exec ⟨4, a, b, 0, ⟨#[]⟩⟩ r = some (1, upd r a.toNat (r b.toNat).tl) := rfl
theorem ex_jump (a b : Int) (r : Rg) : exec ⟨5, a, b, 0, ⟨#[]⟩⟩ r = some (if (r a.toNat).isNil = true then 1 else b, r) := rfl
theorem go1 {p : List Ins} {a a1 b : Int} {m : Nat} {r s t : Rg} (x : Ins) {d : Int} (hlt : a < (p.length : Int)) (hx : p.getD a.toNat zz = x) (he : exec x r = some (d, s)) (hd : a + d = a1) (h : Goes p m a1 s b t) : Goes p (m + 1) a r b t := by
  rw [Nat.add_comm m 1]
  subst hd
  exact (Goes.step (by omega) (by rw [hx]; exact he)).trans h
def t100 : Tr := .cons .nil .nil
def tSet (y : Tr) : Tr := .cons .nil (.cons t100 y)
def tPut : Tr := itemT ⟨2, 0, 1, 0, ⟨#[]⟩⟩
def tClear : Tr := itemT ⟨0, 1, 0, 0, ⟨#[48]⟩⟩
def cellT (y c : Tr) : Tr := .cons (tSet y) (.cons tPut (.cons tClear c))
theorem lstT_size : ∀ l : List Tr, (lstT l).size = 1 + (l.map fun t => t.size + 1).sum
  | [] => rfl
  | t :: l => by simp [lstT, Tr.size, lstT_size l]; omega
section
variable {P : List Ins} {y : ByteArray} (H : ∀ i, i < 33 → P.getD i zz = (specHead y ++ ringHead).getD i zz) (hlen : 33 ≤ P.length)
include H hlen
theorem loop_one (a0 a2 a3 a6 a7 : Tr) : ∀ (cs ds : List Tr) (a6 : Tr), (lstT cs).size + (lstT ds).size ≤ 2000000 →
    ∃ a6', Goes P (4 * cs.length + 1) 12 (mk a0 .nil a2 a3 (lstT cs) (lstT ds) a6 a7 .nil .nil .nil) 13 (mk a0 .nil a2 a3 .nil (lstT (cs.reverse ++ ds)) a6' a7 .nil .nil .nil) := by
  intro cs
  induction cs with
  | nil =>
    intro ds a6 hz
    refine ⟨a6, ?_⟩
    refine go1 ⟨5, 4, -3, 0, ⟨#[]⟩⟩ (by omega) (H 12 (by decide)) (ex_jump 4 (-3) _) (a1 := 13) rfl (Goes.refl _ _ _)
  | cons c cs ih =>
    intro ds a6 hz
    have hz' : 1 + c.size + (lstT cs).size + (lstT ds).size ≤ 2000000 := hz
    have := Tr.size_pos (lstT cs)
    obtain ⟨b6, hb⟩ := ih (c :: ds) c (by show _ + (1 + c.size + (lstT ds).size) ≤ _; omega)
    refine ⟨b6, ?_⟩
    rw [show 4 * (c :: cs).length + 1 = (4 * cs.length + 1) + 1 + 1 + 1 + 1 from by simp; omega]
    refine go1 ⟨5, 4, -3, 0, ⟨#[]⟩⟩ (by omega) (H 12 (by decide)) (ex_jump 4 (-3) _) (a1 := 9) rfl ?_
    refine go1 ⟨3, 6, 4, 0, ⟨#[]⟩⟩ (by omega) (H 9 (by decide)) (ex_head 6 4 _) (a1 := 10) rfl ?_
    refine go1 ⟨2, 5, 6, 5, ⟨#[]⟩⟩ (by omega) (H 10 (by decide)) (ex_cons 5 6 5 _ (by show 1 + c.size + (lstT ds).size ≤ _; omega)) (a1 := 11) rfl ?_
    refine go1 ⟨4, 4, 4, 0, ⟨#[]⟩⟩ (by omega) (H 11 (by decide)) (ex_tail 4 4 _) (a1 := 12) rfl ?_
    have e : ∀ v1 v2 v3, upd (upd (upd (mk a0 .nil a2 a3 (lstT (c :: cs)) (lstT ds) a6 a7 .nil .nil .nil) 6 v1) 5 v2) 4 v3 = mk a0 .nil a2 a3 v3 v2 v1 a7 .nil .nil .nil := fun v1 v2 v3 => by rw [up6, up5, up4]
    rw [List.reverse_cons, List.append_assoc]
    exact (congrArg (fun r => Goes P (4 * cs.length + 1) 12 r 13 _) (e _ _ _)).mpr hb
theorem loop_two (Y a2 a3 a7 : Tr) : ∀ (cs : List Tr) (ds : List Tr) (a6 : Tr), (lstT (cs.map (cellT Y))).size + (lstT ds).size ≤ 2000000 →
    ∃ a6', Goes P (7 * cs.length + 1) 24 (mk (lstT ds) .nil a2 a3 .nil (lstT cs) a6 a7 (tSet Y) tClear tPut) 25 (mk (lstT ((cs.map (cellT Y)).reverse ++ ds)) .nil a2 a3 .nil .nil a6' a7 (tSet Y) tClear tPut) := by
  intro cs
  induction cs with
  | nil =>
    intro ds a6 hz
    refine ⟨a6, ?_⟩
    refine go1 ⟨5, 5, -6, 0, ⟨#[]⟩⟩ (by omega) (H 24 (by decide)) (ex_jump 5 (-6) _) (a1 := 25) rfl (Goes.refl _ _ _)
  | cons c cs ih =>
    intro ds a6 hz
    have hz' : 1 + (cellT Y c).size + (lstT (cs.map (cellT Y))).size + (lstT ds).size ≤ 2000000 := hz
    have hc : (cellT Y c).size = 1 + (tSet Y).size + (1 + tPut.size + (1 + tClear.size + c.size)) := rfl
    have := Tr.size_pos (lstT (cs.map (cellT Y)))
    obtain ⟨b6, hb⟩ := ih (cellT Y c :: ds) (cellT Y c) (by show _ + (1 + (cellT Y c).size + (lstT ds).size) ≤ _; omega)
    refine ⟨b6, ?_⟩
    rw [show 7 * (c :: cs).length + 1 = (7 * cs.length + 1) + 1 + 1 + 1 + 1 + 1 + 1 + 1 from by simp; omega]
    refine go1 ⟨5, 5, -6, 0, ⟨#[]⟩⟩ (by omega) (H 24 (by decide)) (ex_jump 5 (-6) _) (a1 := 18) rfl ?_
    refine go1 ⟨3, 6, 5, 0, ⟨#[]⟩⟩ (by omega) (H 18 (by decide)) (ex_head 6 5 _) (a1 := 19) rfl ?_
    refine go1 ⟨2, 6, 9, 6, ⟨#[]⟩⟩ (by omega) (H 19 (by decide)) (ex_cons 6 9 6 _ (by show 1 + tClear.size + c.size ≤ _; omega)) (a1 := 20) rfl ?_
    refine go1 ⟨2, 6, 10, 6, ⟨#[]⟩⟩ (by omega) (H 20 (by decide)) (ex_cons 6 10 6 _ (by show 1 + tPut.size + (1 + tClear.size + c.size) ≤ _; omega)) (a1 := 21) rfl ?_
    refine go1 ⟨2, 6, 8, 6, ⟨#[]⟩⟩ (by omega) (H 21 (by decide)) (ex_cons 6 8 6 _ (by show 1 + (tSet Y).size + (1 + tPut.size + (1 + tClear.size + c.size)) ≤ _; omega)) (a1 := 22) rfl ?_
    refine go1 ⟨2, 0, 6, 0, ⟨#[]⟩⟩ (by omega) (H 22 (by decide)) (ex_cons 0 6 0 _ (by show 1 + (cellT Y c).size + (lstT ds).size ≤ _; omega)) (a1 := 23) rfl ?_
    refine go1 ⟨4, 5, 5, 0, ⟨#[]⟩⟩ (by omega) (H 23 (by decide)) (ex_tail 5 5 _) (a1 := 24) rfl ?_
    have e : ∀ v1 v2 v3 v4 v5 v6, upd (upd (upd (upd (upd (upd (mk (lstT ds) .nil a2 a3 .nil (lstT (c :: cs)) a6 a7 (tSet Y) tClear tPut) 6 v1) 6 v2) 6 v3) 6 v4) 0 v5) 5 v6 = mk v5 .nil a2 a3 .nil v6 v4 a7 (tSet Y) tClear tPut := fun v1 v2 v3 v4 v5 v6 => by rw [up6, up6, up6, up6, up0, up5]
    rw [List.map_cons, List.reverse_cons, List.append_assoc]
    exact (congrArg (fun r => Goes P (7 * cs.length + 1) 24 r 25 _) (e _ _ _ _ _ _)).mpr hb
theorem ring_prefix (cs : List Tr) (hy : dec (bl y) = lstT cs) (x : Tr) (hne : cs ≠ []) (hz : 1 + (lstT (cs.map (cellT (lstT cs)))).size + x.size ≤ 2000000) :
    Goes P (24 + 11 * cs.length) 0 (init x) 33 (init (.cons (lstT (cs.map (cellT (lstT cs)))) x)) := by
  obtain ⟨c0, l0, rfl⟩ : ∃ c l, cs = c :: l := by cases cs with | nil => exact absurd rfl hne | cons c l => exact ⟨c, l, rfl⟩
  generalize hcs : c0 :: l0 = cs at *
  have hsz : (lstT cs).size + 12 ≤ (lstT (cs.map (cellT (lstT cs)))).size := by
    have h1 : (lstT (cs.map (cellT (lstT cs)))).size = 1 + (cellT (lstT cs) c0).size + (lstT (l0.map (cellT (lstT cs)))).size := by rw [← hcs]; rfl
    have h2 : (cellT (lstT cs) c0).size = 1 + (1 + 1 + (1 + t100.size + (lstT cs).size)) + (1 + tPut.size + (1 + tClear.size + c0.size)) := rfl
    have h3 : tPut.size = 13 := rfl
    have h4 : tClear.size = 7 := rfl
    omega
  have hx := Tr.size_pos x
  obtain ⟨b6, hb⟩ := loop_one H hlen Tr.nil (lstT cs) x .nil t100 cs [] .nil (by show _ + 1 ≤ _; omega)
  rw [List.append_nil] at hb
  have hrev : (lstT (cs.reverse.map (cellT (lstT cs)))).size = (lstT (cs.map (cellT (lstT cs)))).size := by
    rw [lstT_size, lstT_size, List.map_reverse, List.map_reverse, List.sum_reverse]
  obtain ⟨d6, hd⟩ := loop_two H hlen (lstT cs) (lstT cs) x t100 cs.reverse [] b6 (by rw [hrev]; show _ + 1 ≤ _; omega)
  rw [List.append_nil, List.map_reverse, List.reverse_reverse] at hd
  rw [init_mk, init_mk]
  have hn : 24 + 11 * cs.length = ((((7 * cs.reverse.length + 1) + 8) + 5) + (4 * cs.length + 1)) + 1 + 1 + 1 + 1 + 1 + 1 + 1 + 1 + 1 := by rw [List.length_reverse]; omega
  rw [hn]
  refine go1 ⟨0, 1, 0, 0, y⟩ (by omega) (H 0 (by decide)) (ex_set 1 y _) (a1 := 1) rfl ?_
  rw [show ((1 : Int).toNat) = 1 from rfl, up1, hy]
  refine go1 ⟨2, 0, 1, 0, ⟨#[]⟩⟩ (by omega) (H 1 (by decide)) (ex_cons 0 1 0 _ (by show 1 + (lstT cs).size + x.size ≤ _; omega)) (a1 := 2) rfl ?_
  rw [show ((0 : Int).toNat) = 0 from rfl, up0]
  refine go1 ⟨0, 1, 0, 0, ⟨#[48]⟩⟩ (by omega) (H 2 (by decide)) (ex_set 1 _ _) (a1 := 3) rfl ?_
  rw [show ((1 : Int).toNat) = 1 from rfl, up1]
  refine go1 ⟨3, 2, 0, 0, ⟨#[]⟩⟩ (by omega) (H 3 (by decide)) (ex_head 2 0 _) (a1 := 4) rfl ?_
  rw [show ((2 : Int).toNat) = 2 from rfl, up2]
  refine go1 ⟨4, 3, 0, 0, ⟨#[]⟩⟩ (by omega) (H 4 (by decide)) (ex_tail 3 0 _) (a1 := 5) rfl ?_
  rw [show ((3 : Int).toNat) = 3 from rfl, up3]
  refine go1 ⟨0, 0, 0, 0, ⟨#[48]⟩⟩ (by omega) (H 5 (by decide)) (ex_set 0 _ _) (a1 := 6) rfl ?_
  rw [show ((0 : Int).toNat) = 0 from rfl, up0]
  refine go1 ⟨1, 4, 2, 0, ⟨#[]⟩⟩ (by omega) (H 6 (by decide)) (ex_move 4 2 _) (a1 := 7) rfl ?_
  rw [show ((4 : Int).toNat) = 4 from rfl, up4]
  refine go1 ⟨0, 7, 0, 0, ⟨#[49, 48, 48]⟩⟩ (by omega) (H 7 (by decide)) (ex_set 7 _ _) (a1 := 8) rfl ?_
  rw [show ((7 : Int).toNat) = 7 from rfl, up7]
  refine go1 ⟨5, 7, 4, 0, ⟨#[]⟩⟩ (by omega) (H 8 (by decide)) (ex_jump 7 4 _) (a1 := 12) rfl ?_
  rw [Nat.add_comm]
  refine hb.trans ?_
  refine go1 ⟨2, 8, 7, 2, ⟨#[]⟩⟩ (by omega) (H 13 (by decide)) (ex_cons 8 7 2 _ (by show 1 + 3 + (lstT cs).size ≤ _; omega)) (a1 := 14) rfl ?_
  rw [show ((8 : Int).toNat) = 8 from rfl, up8]
  refine go1 ⟨2, 8, 1, 8, ⟨#[]⟩⟩ (by omega) (H 14 (by decide)) (ex_cons 8 1 8 _ (by show 1 + 1 + (1 + 3 + (lstT cs).size) ≤ _; omega)) (a1 := 15) rfl ?_
  rw [show ((8 : Int).toNat) = 8 from rfl, up8]
  refine go1 ⟨0, 9, 0, 0, ⟨#[49, 48, 49, 49, 48, 48, 48]⟩⟩ (by omega) (H 15 (by decide)) (ex_set 9 _ _) (a1 := 16) rfl ?_
  rw [show ((9 : Int).toNat) = 9 from rfl, up9]
  refine go1 ⟨0, 10, 0, 0, ⟨#[49, 49, 48, 49, 48, 48, 49, 48, 49, 49, 48, 48, 48]⟩⟩ (by omega) (H 16 (by decide)) (ex_set 10 _ _) (a1 := 17) rfl ?_
  rw [show ((10 : Int).toNat) = 10 from rfl, up10]
  refine go1 ⟨5, 7, 7, 0, ⟨#[]⟩⟩ (by omega) (H 17 (by decide)) (ex_jump 7 7 _) (a1 := 24) rfl ?_
  refine Goes.trans (n := 8) (m := 7 * cs.reverse.length + 1) hd ?_
  refine go1 ⟨2, 0, 0, 3, ⟨#[]⟩⟩ (by omega) (H 25 (by decide)) (ex_cons 0 0 3 _ hz) (a1 := 26) rfl ?_
  rw [show ((0 : Int).toNat) = 0 from rfl, up0]
  refine go1 ⟨0, 2, 0, 0, ⟨#[48]⟩⟩ (by omega) (H 26 (by decide)) (ex_set 2 _ _) (a1 := 27) rfl ?_
  rw [show ((2 : Int).toNat) = 2 from rfl, up2]
  refine go1 ⟨0, 3, 0, 0, ⟨#[48]⟩⟩ (by omega) (H 27 (by decide)) (ex_set 3 _ _) (a1 := 28) rfl ?_
  rw [show ((3 : Int).toNat) = 3 from rfl, up3]
  refine go1 ⟨0, 6, 0, 0, ⟨#[48]⟩⟩ (by omega) (H 28 (by decide)) (ex_set 6 _ _) (a1 := 29) rfl ?_
  rw [show ((6 : Int).toNat) = 6 from rfl, up6]
  refine go1 ⟨0, 7, 0, 0, ⟨#[48]⟩⟩ (by omega) (H 29 (by decide)) (ex_set 7 _ _) (a1 := 30) rfl ?_
  rw [show ((7 : Int).toNat) = 7 from rfl, up7]
  refine go1 ⟨0, 8, 0, 0, ⟨#[48]⟩⟩ (by omega) (H 30 (by decide)) (ex_set 8 _ _) (a1 := 31) rfl ?_
  rw [show ((8 : Int).toNat) = 8 from rfl, up8]
  refine go1 ⟨0, 9, 0, 0, ⟨#[48]⟩⟩ (by omega) (H 31 (by decide)) (ex_set 9 _ _) (a1 := 32) rfl ?_
  rw [show ((9 : Int).toNat) = 9 from rfl, up9]
  refine go1 ⟨0, 10, 0, 0, ⟨#[48]⟩⟩ (by omega) (H 32 (by decide)) (ex_set 10 _ _) (a1 := 33) rfl ?_
  rw [show ((10 : Int).toNat) = 10 from rfl, up10]
  exact Goes.refl _ _ _
end
end Go.Proofs.YtpnmmpfidiegcaaGreatDoor.Plain
end
section
namespace Go.Proofs.YtpnmmpfidiegcaaGreatDoor.Plain
open Go.Proofs.YtpnmmpfidiegcaaGreatDoor.C
set_option linter.unusedVariables false
set_option linter.unusedSimpArgs false
theorem codeT_spec (y : ByteArray) (r : List Ins) : codeT (specHead y ++ r) = cellT (dec (bl y)) (codeT r) := rfl
theorem tab_dec (rs : List (List Ins)) (h : ∀ r ∈ rs, ∀ x ∈ r, Nice x) : dec (tabL rs) = lstT (rs.map codeT) := by
  have : (lstT (rs.map codeT)).enc = tabL rs := by
    rw [lstT_enc, tabL, List.map_map]
    congr 1
    exact List.map_congr_left fun r hr => codeT_enc (h r hr)
  rw [← this, dec_enc]
theorem made_codes (rs : List (List Ins)) (h : ∀ r ∈ rs, ∀ x ∈ r, Nice x) : (madeL rs).map codeT = (rs.map codeT).map (cellT (lstT (rs.map codeT))) := by
  rw [madeL, List.map_map, List.map_map]
  refine List.map_congr_left fun r _ => ?_
  show codeT (specHead (bs (tabL rs)) ++ r) = cellT _ (codeT r)
  rw [codeT_spec, bl_bs, tab_dec rs h]
theorem ring_begins (ps : List (List Ins)) (h : ∀ p ∈ ps, ∀ x ∈ ringHead ++ p, Nice x) (p : List Ins) (hp : p ∈ ps) (x : Tr)
    (hz : 1 + (lstT ((madeL (ps.map fun p => ringHead ++ p)).map codeT)).size + x.size ≤ 2000000) :
    Goes (specHead (bs (tabL (ps.map fun p => ringHead ++ p))) ++ ringHead ++ p) (24 + 11 * ps.length) 0 (init x) 33 (init (.cons (lstT ((madeL (ps.map fun p => ringHead ++ p)).map codeT)) x)) := by
  have hn : ∀ r ∈ ps.map (fun p => ringHead ++ p), ∀ x ∈ r, Nice x := by
    intro r hr
    obtain ⟨q, hq, rfl⟩ := List.mem_map.1 hr
    exact h q hq
  rw [made_codes _ hn] at hz ⊢
  have hl : ((ps.map fun p => ringHead ++ p).map codeT).length = ps.length := by simp
  rw [← hl]
  refine ring_prefix (P := specHead (bs (tabL (ps.map fun p => ringHead ++ p))) ++ ringHead ++ p) (y := bs (tabL (ps.map fun p => ringHead ++ p))) ?_ ?_ _ ?_ x ?_ hz
  · intro i hi
    rw [List.getD_eq_getElem?_getD, List.getElem?_append_left (by simp [specHead, ringHead]; omega), ← List.getD_eq_getElem?_getD]
  · simp [specHead, ringHead]
  · rw [bl_bs, tab_dec _ hn]
  · intro e
    have := congrArg List.length e
    rw [hl] at this
    have h0 := List.length_pos_of_mem hp
    rw [List.length_nil] at this
    omega
def turnP (n j : Nat) : List Ins := ⟨3, 0, 0, 0, ⟨#[]⟩⟩ :: (List.replicate ((j + 1) % n) ⟨4, 0, 0, 0, ⟨#[]⟩⟩ ++ [⟨3, 0, 0, 0, ⟨#[]⟩⟩])
theorem up_init (a v : Tr) : upd (init a) 0 v = init v := by
  funext i
  unfold upd init
  split <;> rfl
theorem tails_go {P : List Ins} (m : Nat) (a : Nat) (H : ∀ i, i < m → P.getD (a + i) zz = ⟨4, 0, 0, 0, ⟨#[]⟩⟩) (hl : a + m ≤ P.length) : ∀ (ts : List Tr), m ≤ ts.length →
    Goes P m (a : Int) (init (lstT ts)) ((a + m : Nat) : Int) (init (lstT (ts.drop m))) := by
  induction m generalizing a with
  | zero => intro ts _; exact Goes.refl _ _ _
  | succ m ih =>
    intro ts hm
    obtain ⟨t, l, rfl⟩ : ∃ t l, ts = t :: l := by cases ts with | nil => simp at hm | cons t l => exact ⟨t, l, rfl⟩
    refine go1 ⟨4, 0, 0, 0, ⟨#[]⟩⟩ (by omega) (by rw [Int.toNat_natCast]; exact H 0 (by omega)) (ex_tail 0 0 _) (a1 := ((a + 1 : Nat) : Int)) (by omega) ?_
    rw [show ((0 : Int).toNat) = 0 from rfl, up_init]
    have := ih (a + 1) (fun i hi => by rw [Nat.add_assoc, Nat.add_comm 1 i]; exact H (i + 1) (by omega)) (by omega) l (by simpa using hm)
    rw [show a + 1 + m = a + (m + 1) from by omega] at this
    exact this
theorem turn_run (n j : Nat) (ts : List Tr) (x : Tr) (hn : 0 < n) (hl : ts.length = n) (k : Nat) (hk : (j + 1) % n + 2 ≤ k) :
    runM (turnP n j) (.cons (lstT ts) x) k = (ts.getD ((j + 1) % n) .nil, (j + 1) % n + 2, 0) := by
  obtain ⟨k, rfl⟩ : ∃ d, k = ((j + 1) % n + 2) + d := ⟨k - ((j + 1) % n + 2), by omega⟩
  have hlt : (j + 1) % n < n := Nat.mod_lt _ hn
  generalize hm : (j + 1) % n = m at *
  have hP : turnP n j = ⟨3, 0, 0, 0, ⟨#[]⟩⟩ :: (List.replicate m ⟨4, 0, 0, 0, ⟨#[]⟩⟩ ++ [⟨3, 0, 0, 0, ⟨#[]⟩⟩]) := by rw [turnP, hm]
  have hlen : (turnP n j).length = m + 2 := by rw [hP]; simp
  have g : Goes (turnP n j) (m + 2) 0 (init (.cons (lstT ts) x)) ((m + 2 : Nat) : Int) (init (ts.getD m .nil)) := by
    rw [show m + 2 = (m + 1) + 1 from rfl]
    refine go1 ⟨3, 0, 0, 0, ⟨#[]⟩⟩ (by omega) (by rw [hP]; rfl) (ex_head 0 0 _) (a1 := ((1 : Nat) : Int)) rfl ?_
    rw [show ((0 : Int).toNat) = 0 from rfl, up_init]
    show Goes _ _ _ (init (lstT ts)) _ _
    refine Goes.trans (tails_go m 1 (fun i hi => ?_) (by omega) ts (by omega)) ?_
    · rw [hP, Nat.add_comm 1 i, List.getD_cons_succ, List.getD_eq_getElem?_getD, List.getElem?_append_left (by simpa using hi), List.getElem?_replicate, if_pos hi]; rfl
    · have hdrop : ts.drop m = ts.getD m .nil :: ts.drop (m + 1) := by
        rw [List.drop_eq_getElem_cons (by omega), List.getD_eq_getElem?_getD, List.getElem?_eq_getElem (by omega)]; rfl
      refine go1 ⟨3, 0, 0, 0, ⟨#[]⟩⟩ (by omega) ?_ (ex_head 0 0 _) (a1 := ((m + 2 : Nat) : Int)) (by omega) ?_
      · rw [hP, Int.toNat_natCast, Nat.add_comm 1 m, List.getD_cons_succ, List.getD_eq_getElem?_getD, List.getElem?_append_right (by simp)]; simp
      · rw [show ((0 : Int).toNat) = 0 from rfl, up_init, hdrop]
        exact Goes.refl _ _ _
  have e : after (turnP n j) k ((m + 2 : Nat) : Int) (init (ts.getD m .nil)) = (((m + 2 : Nat) : Int), init (ts.getD m .nil), 0, true) := by
    cases k with
    | zero => rfl
    | succ k => rw [after, if_pos (by rw [hlen])]
  unfold runM
  rw [g k, e]
  simp only [hlen, if_true, Nat.zero_add]
  rfl
end Go.Proofs.YtpnmmpfidiegcaaGreatDoor.Plain
end
section
namespace Go.Proofs.YtpnmmpfidiegcaaGreatDoor.C
open Go.RowKit Go.Proofs.YtpnmmpfidiegcaaGreatDoorW.PrintWords Go.Proofs.YtpnmmpfidiegcaaGreatDoorW.PrintLast Go.Proofs.YtpnmmpfidiegcaaGreatDoorW.PrintMore
attribute [local go_sem] max2_int min2_int max_two min_two max_three min_three max_four min_four
set_option linter.unusedVariables false
set_option linter.unusedSimpArgs false
mutual
def ring_Ring.j0 : Nat → Int → Bool → Option ((List (List (S52))) × Int)
 | 0, _, _ => none
 | k + 1, x0, x12 => if x12 = true then (some (([] : List (List (S52))), 2)) else (ring_Ring.l0 k x0 ([] : List (List (S52))) x0 0)
def ring_Ring.l0 : Nat → Int → List (List (S52)) → Int → Int → Option ((List (List (S52))) × Int)
 | 0, _, _, _, _ => none
 | k + 1, x0, x4, x13, x14 => if x14 < x13 then (if x0 = 0 then (none) else (ring_Ring.l1 k x0 x4 (([(⟨3, 0, 0, 0, (⟨#[]⟩ : ByteArray)⟩ : S52)] : List (S52))) x13 x14 (Int.tmod (wrap64 (x14 + 1)) x0) 0)) else ((ring_Together.f k x4).bind fun bt1 => (some (bt1.1, bt1.2)))
def ring_Ring.l1 : Nat → Int → List (List (S52)) → List (S52) → Int → Int → Int → Int → Option ((List (List (S52))) × Int)
 | 0, _, _, _, _, _, _, _ => none
 | k + 1, x0, x4, x6, x13, x14, x22, x23 => if x23 < x22 then (if x6.length < 2932031007402 then (ring_Ring.l1 k x0 x4 (x6 ++ [(⟨4, 0, 0, 0, (⟨#[]⟩ : ByteArray)⟩ : S52)]) x13 x14 x22 (wrap64 (x23 + 1))) else (none)) else (if x6.length < 2932031007402 then (if x4.length < 5864062014805 then (ring_Ring.l0 k x0 (x4 ++ [(x6 ++ [(⟨3, 0, 0, 0, (⟨#[]⟩ : ByteArray)⟩ : S52)])]) x13 (wrap64 (x14 + 1))) else (none)) else (none))
end
def ring_Ring.f (k : Nat) (a0 : Int) : Option ((List (List (S52))) × Int) := if a0 < 1 then (ring_Ring.j0 k a0 true) else (ring_Ring.j0 k a0 (decide (a0 > 40)))
set_option maxHeartbeats 8000000 in
set_option maxRecDepth 100000 in
theorem ring_Ring.calls (k : Nat) (a0 : Int) (r1 : List (List (S52))) (r2 : Int) (w : World) (hL : LaidW w) (h : ring_Ring.f k a0 = some (r1, r2)) :
  Calls Tryz.prog 17 #[.int .i64 a0] w fun e w' => ∃ v0_ : Value, e = .returned (.tuple #[v0_, .int .i64 r2]) ∧ Kd.S (Kd.slice 52 k52) 29 w' w.heap.size (fun _ => True) v0_ r1 ∧ Below w.heap.size w w' := by
 have hu52 := Tryz.underlying52
 have HLD := Aside0.mk hL
 clear hL
 have HB := Aside0.mk (Below.refl w.heap.size w)
 have H : (if a0 < 1 then (ring_Ring.j0 k a0 true) else (ring_Ring.j0 k a0 (decide (a0 > 40)))) = some (r1, r2) := h
 clear h
 have HC2 := Aside0.mk H
 clear H
 go_enter Tryz.func17, Tryz.ntmps17
 go_upto_region 1 with (fail)
 go_cut [12] (fun v12 wc => ∃ (kq : Nat) (x12_1 : Bool), v12 = .bool x12_1 ∧ Aside0 (ring_Ring.j0 kq a0 x12_1 = some (r1, r2)) ∧ Aside0 (kq ≤ k) ∧ Aside0 (Below w.heap.size w wc))
 case first =>
  have H := HC2.out
  clear HC2
  by_cases c3 : a0 < 1
  ·rw [if_pos c3] at H
   have c3b0 : decide (a0 < 1) = true := decide_eq_true c3
   clear c3
   (first | rw [c3b0] | (simp only [i64_w, i32_w]; rw [c3b0]) | skip)
   have H' := Aside0.mk H
   clear H
   go_wp2
   go_meet
   case rel => exact ⟨_, (true), (by first | rfl | (simp; done) | (simp [*]; done)), H', ⟨by first | omega | exact Nat.le_refl _⟩, ⟨by repeat (first | (with_reducible first | exact HB.out | apply below_alloc | apply pw_below_drewN | apply below_drew1) | exact HB.out)⟩⟩
  ·rw [if_neg c3] at H
   have c3b0 : decide (a0 < 1) = false := decide_eq_false c3
   clear c3
   (first | rw [c3b0] | (simp only [i64_w, i32_w]; rw [c3b0]) | skip)
   have H' := Aside0.mk H
   clear H
   go_wp2
   go_meet
   case rel => exact ⟨_, (decide (a0 > 40)), (by first | rfl | (simp; done) | (simp [*]; done)), H', ⟨by first | omega | exact Nat.le_refl _⟩, ⟨by repeat (first | (with_reducible first | exact HB.out | apply below_alloc | apply pw_below_drewN | apply below_drew1) | exact HB.out)⟩⟩
 case rest =>
  clear HC2
  try clear c1
  try clear p2
  try clear c3
  try clear c3b0
  obtain ⟨kq, x12_1, rfl, HA, HJ1, HB⟩ := hcut
  cases kq with
  | zero => exact absurd HA.out (by simp [ring_Ring.j0])
  | succ kj1 =>
   have H := HA.out
   clear HA
   simp only [ring_Ring.j0] at H
   by_cases c4 : x12_1 = true
   ·subst c4
    have H1 : (some (([] : List (List (S52))), 2)) = some (r1, r2) := by rw [if_pos rfl] at H; exact H
    clear H
    have H := H1
    clear H1
    simp only [Option.some.injEq, Prod.mk.injEq] at H
    obtain ⟨rfl, rfl⟩ := H
    go_wp2
    go_ret2
    exact ⟨_, by first | rfl | (simp [errW_none, errW_some] <;> rfl) | (simp [*, errW_none, errW_some] <;> rfl), by first | exact Kd.S_nil _ _ _ _ _ | exact Kd.N_nil _ _ _ _ _ | exact Kd.V_nil _ _ _ _ _ | exact Kd.Q_nil _ _ _ _ _ | exact Kd.R_nil _ _ _ _ _, by repeat (first | (with_reducible first | exact HB.out | apply below_alloc | apply pw_below_drewN | apply below_drew1) | exact HB.out)⟩
   ·replace c4 := Bool.eq_false_iff.mpr c4
    subst c4
    have H1 : (ring_Ring.l0 kj1 a0 ([] : List (List (S52))) a0 0) = some (r1, r2) := by rw [if_neg (show ¬ (false = true) by decide)] at H; exact H
    clear H
    have H := H1
    clear H1
    have H' := Aside0.mk H
    clear H
    go_wp2
    go_loopg [4, 14] kj1 (fun kq v4 v14 w' => ∃ (x4_2 : List (List (S52))) (x14_2 : Int), v14 = .int .i64 x14_2 ∧ Aside0 (ring_Ring.l0 kq a0 x4_2 a0 x14_2 = some (r1, r2)) ∧ Aside0 (kq ≤ kj1) ∧ Aside0 (Kd.S (Kd.slice 52 k52) 29 w' w.heap.size (fun _ => True) v4 x4_2) ∧ Aside0 (Below w.heap.size w w'))
    case atStart => exact ⟨(([] : List (List (S52)))), (0), (by first | rfl | (simp; done) | (simp [*]; done)), H', ⟨Nat.le_refl _⟩, ⟨by first | exact Kd.S_nil _ _ _ _ _ | exact Kd.N_nil _ _ _ _ _ | exact Kd.V_nil _ _ _ _ _ | exact Kd.Q_nil _ _ _ _ _ | exact Kd.R_nil _ _ _ _ _⟩, ⟨by repeat (first | (with_reducible first | exact HB.out | apply below_alloc | apply pw_below_drewN | apply below_drew1) | exact HB.out)⟩⟩
    case round =>
     clear H'
     try clear c1
     try clear p2
     try clear c3
     try clear c3b0
     try clear c4
     try clear p2
     obtain ⟨x4_2, x14_2, rfl, HA, HK2, HO_4, HB⟩ := hrel
     cases gk with
     | zero => exact absurd HA.out (by simp [ring_Ring.l0])
     | succ k2 =>
      have H := HA.out
      clear HA
      simp only [ring_Ring.l0] at H
      by_cases c5 : x14_2 < a0
      ·rw [if_pos c5] at H
       have c5b0 : decide (x14_2 < a0) = true := decide_eq_true c5
       clear c5
       obtain ⟨y5, hy5⟩ : ∃ y_ : List (S52), y_ = (([(⟨3, 0, 0, 0, (⟨#[]⟩ : ByteArray)⟩ : S52)] : List (S52))) := ⟨_, rfl⟩
       replace H : (if a0 = 0 then (none) else (ring_Ring.l1 k2 a0 x4_2 y5 a0 x14_2 (Int.tmod (wrap64 (x14_2 + 1)) a0) 0)) = some (r1, r2) := by first | (rw [hy5]; with_reducible exact H) | (have H2_ := (Option.bind_some _ _).symm.trans H; rw [hy5]; with_reducible exact H2_) | (have H2_ := (Option.bind_some _ _).symm.trans H; with_reducible exact H2_) | with_reducible exact H | (rw [hy5]; exact H) | exact H
       have Ny5 := Aside0.mk hy5
       clear hy5
       by_cases c6 : a0 = 0
       ·rw [if_pos c6] at H
        exact absurd H (by simp)
       ·rw [if_neg c6] at H
        have c6b0 : (a0 == 0) = false := beq_eq_false_iff_ne.mpr c6
        have c6b1 : (a0 != 0) = true := bne_iff_ne.mpr c6
        have H' := Aside0.mk H
        clear H
        go_wp2_with (first | ((with_reducible refine gate_dst (N := 18) rfl ?_); refine Kd.R_lit k52 _ 52 ?hg (N := 18) ?hd (xs := ([(⟨3, 0, 0, 0, (⟨#[]⟩ : ByteArray)⟩ : S52)] : List (S52))) (inner := [.int .i64 3, .int .i64 0, .int .i64 0, .int .i64 0, .string (⟨#[]⟩ : ByteArray)]) (ok := fun _ => True) (okp := fun _ => True) ?hr ?hp (fun _ hk => hk) trivial (Below.refl _ _) (Nat.le_refl _) (by simp) ?_; (case hd => rfl); (case hg => rfl); (case hr => first | (go_simp; done) | (go_simp; rfl)); (case hp => exact (Reps.c5 (show Kd.M k52 _ _ _ (⟨3, 0, 0, 0, (⟨#[]⟩ : ByteArray)⟩ : S52) [.int .i64 3, .int .i64 0, .int .i64 0, .int .i64 0, .string (⟨#[]⟩ : ByteArray)] from (k52_mkM _ _ _ (⟨3, 0, 0, 0, (⟨#[]⟩ : ByteArray)⟩ : S52) )) (Reps.none _ _))); intro v6 w7 ho8 hb hg_ hnew_; clear hg_ hnew_; (first | rw [← Ny5.out] at ho8 | (simp only [Int.reduceToNat] at ho8; rw [← Ny5.out] at ho8)); have n0_ := Aside0.mk (Kd.S_elder' (by (with_reducible repeat (first | apply Kd.S_alloc | apply Kd.S_drewN | apply Kd.S_drew)); exact HO_4.out) (Kd.R_base ho8) hb); have n1_ := Aside0.mk (Kd.R_lower ho8 (below_size (by repeat (first | (with_reducible first | exact HB.out | apply below_alloc | apply pw_below_drewN | apply below_drew1) | exact HB.out)))); have n2_ := Aside0.mk (below_step (by repeat (first | (with_reducible first | exact HB.out | apply below_alloc | apply pw_below_drewN | apply below_drew1) | exact HB.out)) hb); clear HO_4; clear HB; have HO_4 := n0_; have HO7 := n1_; have HB := n2_; clear n0_ n1_ n2_; clear hb ho8))
        go_loopg [6, 23] k2 (fun kq v6 v23 w' => ∃ (x6_3 : List (S52)) (x23_3 : Int), v23 = .int .i64 x23_3 ∧ Aside0 (ring_Ring.l1 kq a0 x4_2 x6_3 a0 x14_2 (Int.tmod (wrap64 (x14_2 + 1)) a0) x23_3 = some (r1, r2)) ∧ Aside0 (kq ≤ k2) ∧ Aside0 (Kd.S (Kd.slice 52 k52) 29 w' w.heap.size (fun k_ => some k_ ≠ (v6 : Value).ownBlock) u4 x4_2) ∧ Aside0 (Kd.R k52 52 w' w.heap.size (fun _ => True) v6 x6_3) ∧ Aside0 (Below w.heap.size w w'))
        case atStart => exact ⟨(y5), (0), (by first | rfl | (simp; done) | (simp [*]; done)), H', ⟨Nat.le_refl _⟩, ⟨by (with_reducible repeat (first | apply Kd.S_alloc | apply Kd.S_drewN | apply Kd.S_drew)); exact Kd.S_mono HO_4.out (fun _ hk => hk.2)⟩, ⟨by (with_reducible repeat (first | apply Kd.R_alloc | apply Kd.R_drewN | apply Kd.R_drew)); exact HO7.out⟩, ⟨by repeat (first | (with_reducible first | exact HB.out | apply below_alloc | apply pw_below_drewN | apply below_drew1) | exact HB.out)⟩⟩
        case round =>
         clear H'
         try clear c1
         try clear p2
         try clear c3
         try clear c3b0
         try clear c4
         try clear c5
         try clear c5b0
         try clear c6
         try clear c6b0
         try clear c6b1
         try clear p6
         try clear p2
         obtain ⟨x6_3, x23_3, rfl, HA, HK3, HO_4, HO_6, HB⟩ := hrel
         cases gk with
         | zero => exact absurd HA.out (by simp [ring_Ring.l1])
         | succ k3 =>
          have H := HA.out
          clear HA
          simp only [ring_Ring.l1] at H
          by_cases c9 : x23_3 < (Int.tmod (wrap64 (x14_2 + 1)) a0)
          ·rw [if_pos c9] at H
           have c9b0 : decide (x23_3 < (Int.tmod (wrap64 (x14_2 + 1)) a0)) = true := decide_eq_true c9
           clear c9
           by_cases c10 : x6_3.length < 2932031007402
           ·rw [if_pos c10] at H
            have LMc10 := Aside0.mk c10
            clear c10
            obtain ⟨y8, hy8⟩ : ∃ y_ : List (S52), y_ = (x6_3 ++ [(⟨4, 0, 0, 0, (⟨#[]⟩ : ByteArray)⟩ : S52)]) := ⟨_, rfl⟩
            replace H : (ring_Ring.l1 k3 a0 x4_2 y8 a0 x14_2 (Int.tmod (wrap64 (x14_2 + 1)) a0) (wrap64 (x23_3 + 1))) = some (r1, r2) := by first | (rw [hy8]; with_reducible exact H) | (have H2_ := (Option.bind_some _ _).symm.trans H; rw [hy8]; with_reducible exact H2_) | (have H2_ := (Option.bind_some _ _).symm.trans H; with_reducible exact H2_) | with_reducible exact H | (rw [hy8]; exact H) | exact H
            have Ny8 := Aside0.mk hy8
            clear hy8
            have H' := Aside0.mk H
            clear H
            go_wp2_with (first | ((with_reducible refine gate_builtin (b := .append) (xs := #[.tmp 25, .tmp 27]) rfl ?_); at_builtin; refine Kd.R_append k52 (w0 := w) w.heap.size rfl (.tmp 25) (.tmp 27) 29 52 (.agg #[(.int .i64 0), (.int .i64 0), (.int .i64 0), (.int .i64 0), (.string ⟨#[]⟩)]) 48 rfl Tryz.underlying29 info52 rfl (by decide) (by omega) u6 x6_3 (⟨4, 0, 0, 0, (⟨#[]⟩ : ByteArray)⟩ : S52) [.int .i64 4, .int .i64 0, .int .i64 0, .int .i64 0, .string (⟨#[]⟩ : ByteArray)] (fun _ => True) (fun _ => False) rfl rfl ?aP (fun _ hk => hk.elim) ?aF ?aO ?aB ?aS ?aL ?_; (case aP => exact k52_mkM _ _ _ (⟨4, 0, 0, 0, (⟨#[]⟩ : ByteArray)⟩ : S52)); (case aB => exact (by repeat (first | (with_reducible first | exact HB.out | apply below_alloc | apply pw_below_drewN | apply below_drew1) | exact HB.out))); (case aF => exact (fun _ _ => trivial)); (case aO => exact (by (with_reducible repeat (first | apply Kd.R_alloc | apply Kd.R_drewN | apply Kd.R_drew)); exact HO_6.out)); (case aS => exact (below_size (by repeat (first | (with_reducible first | exact HB.out | apply below_alloc | apply pw_below_drewN | apply below_drew1) | exact HB.out)))); (case aL => have := LMc10.out; first | omega | (simp only [lit_size, List.size_toArray, List.length_cons, List.length_nil]; omega)); intro v9 w11 ho hb hg hat; rw [← Ny8.out] at ho; have n0_ := Aside0.mk (Kd.S_after (ok := (fun _ => True)) (by (with_reducible repeat (first | apply Kd.S_alloc | apply Kd.S_drewN | apply Kd.S_drew)); exact Kd.S_mono HO_4.out (fun _ hk => ⟨trivial, hk⟩)) hg hat); have n1_ := Aside0.mk (hb); have n2_ := Aside0.mk (ho); clear HO_4; clear HB; clear HO_6; have HO_4 := n0_; have HB := n1_; have HO10 := n2_; clear n0_ n1_ n2_; clear ho hb hg hat))
            go_roundg k3
            case measure => have := HJ1.out; have := HK2.out; have := HK3.out; omega
            case rel => exact ⟨(y8), (wrap64 (x23_3 + 1)), (by first | rfl | (simp; done) | (simp [*]; done)), H', ⟨by have := HJ1.out; have := HK2.out; have := HK3.out; omega⟩, ⟨by (with_reducible repeat (first | apply Kd.S_alloc | apply Kd.S_drewN | apply Kd.S_drew)); exact Kd.S_mono HO_4.out (fun _ hk => hk.2)⟩, ⟨by (with_reducible repeat (first | apply Kd.R_alloc | apply Kd.R_drewN | apply Kd.R_drew)); exact HO10.out⟩, ⟨by repeat (first | (with_reducible first | exact HB.out | apply below_alloc | apply pw_below_drewN | apply below_drew1) | exact HB.out)⟩⟩
           ·rw [if_neg c10] at H
            exact absurd H (by simp)
          ·rw [if_neg c9] at H
           have c9b0 : decide (x23_3 < (Int.tmod (wrap64 (x14_2 + 1)) a0)) = false := decide_eq_false c9
           clear c9
           by_cases c12 : x6_3.length < 2932031007402
           ·rw [if_pos c12] at H
            have LMc12 := Aside0.mk c12
            clear c12
            obtain ⟨y11, hy11⟩ : ∃ y_ : List (S52), y_ = (x6_3 ++ [(⟨3, 0, 0, 0, (⟨#[]⟩ : ByteArray)⟩ : S52)]) := ⟨_, rfl⟩
            replace H : (if x4_2.length < 5864062014805 then (ring_Ring.l0 k3 a0 (x4_2 ++ [y11]) a0 (wrap64 (x14_2 + 1))) else (none)) = some (r1, r2) := by first | (rw [hy11]; with_reducible exact H) | (have H2_ := (Option.bind_some _ _).symm.trans H; rw [hy11]; with_reducible exact H2_) | (have H2_ := (Option.bind_some _ _).symm.trans H; with_reducible exact H2_) | with_reducible exact H | (rw [hy11]; exact H) | exact H
            have Ny11 := Aside0.mk hy11
            clear hy11
            by_cases c13 : x4_2.length < 5864062014805
            ·rw [if_pos c13] at H
             have LMc13 := Aside0.mk c13
             clear c13
             obtain ⟨y14, hy14⟩ : ∃ y_ : List (List (S52)), y_ = (x4_2 ++ [y11]) := ⟨_, rfl⟩
             replace H : (ring_Ring.l0 k3 a0 y14 a0 (wrap64 (x14_2 + 1))) = some (r1, r2) := by first | (rw [hy14]; with_reducible exact H) | (have H2_ := (Option.bind_some _ _).symm.trans H; rw [hy14]; with_reducible exact H2_) | (have H2_ := (Option.bind_some _ _).symm.trans H; with_reducible exact H2_) | with_reducible exact H | (rw [hy14]; exact H) | exact H
             have Ny14 := Aside0.mk hy14
             clear hy14
             have H' := Aside0.mk H
             clear H
             go_wp2_with (first | ((with_reducible refine gate_builtin (b := .append) (xs := #[.tmp 31, .tmp 33]) rfl ?_); at_builtin; refine Kd.R_append k52 (w0 := w) w.heap.size rfl (.tmp 31) (.tmp 33) 29 52 (.agg #[(.int .i64 0), (.int .i64 0), (.int .i64 0), (.int .i64 0), (.string ⟨#[]⟩)]) 48 rfl Tryz.underlying29 info52 rfl (by decide) (by omega) u6 x6_3 (⟨3, 0, 0, 0, (⟨#[]⟩ : ByteArray)⟩ : S52) [.int .i64 3, .int .i64 0, .int .i64 0, .int .i64 0, .string (⟨#[]⟩ : ByteArray)] (fun _ => True) (fun _ => False) rfl rfl ?aP (fun _ hk => hk.elim) ?aF ?aO ?aB ?aS ?aL ?_; (case aP => exact k52_mkM _ _ _ (⟨3, 0, 0, 0, (⟨#[]⟩ : ByteArray)⟩ : S52)); (case aB => exact (by repeat (first | (with_reducible first | exact HB.out | apply below_alloc | apply pw_below_drewN | apply below_drew1) | exact HB.out))); (case aF => exact (fun _ _ => trivial)); (case aO => exact (by (with_reducible repeat (first | apply Kd.R_alloc | apply Kd.R_drewN | apply Kd.R_drew)); exact HO_6.out)); (case aS => exact (below_size (by repeat (first | (with_reducible first | exact HB.out | apply below_alloc | apply pw_below_drewN | apply below_drew1) | exact HB.out)))); (case aL => have := LMc12.out; first | omega | (simp only [lit_size, List.size_toArray, List.length_cons, List.length_nil]; omega)); intro v12 w14 ho hb hg hat; rw [← Ny11.out] at ho; have n0_ := Aside0.mk (Kd.S_after (ok := (fun _ => True)) (by (with_reducible repeat (first | apply Kd.S_alloc | apply Kd.S_drewN | apply Kd.S_drew)); exact Kd.S_mono HO_4.out (fun _ hk => ⟨trivial, hk⟩)) hg hat); have n1_ := Aside0.mk (hb); have n2_ := Aside0.mk (ho); clear HO_4; clear HB; clear HO_6; have HO_4 := n0_; have HB := n1_; have HO13 := n2_; clear n0_ n1_ n2_; clear ho hb hg hat; obtain ⟨Ao16, co16, eo16⟩ := Kd.R_slice HO13.out; subst eo16) | ((with_reducible refine gate_builtin (b := .append) (xs := #[.tmp 30, .tmp 35]) rfl ?_); at_builtin; refine Kd.S_append (Kd.slice 52 k52) (w0 := w) w.heap.size rfl (.tmp 30) (.tmp 35) 22 29 (.slice none 0 0) 24 rfl Tryz.underlying22 info29 rfl (by decide) (by omega) u4 x4_2 y11 [.slice Ao16 y11.length co16] (fun _ => True) (fun k_ => some k_ = (.slice Ao16 y11.length co16 : Value).ownBlock) rfl rfl ?aP (fun k_ hk_ => ((Kd.R_mono (ok' := fun k_ => ((fun _ => True)) k_ ∧ some k_ ≠ (u4 : Value).ownBlock) (Kd.R_apart' (HO13.out) (Kd.S_typed HO_4.out) (by decide)) (fun k_ hk => ⟨trivial, hk.2⟩))).1 k_ hk_.symm) ?aF ?aO ?aB ?aS ?aL ?_; (case aP => exact Kd.M_row (Kd.R_mono (Kd.R_tight rfl (Kd.R_mono (ok' := fun k_ => ((fun _ => True)) k_ ∧ some k_ ≠ (u4 : Value).ownBlock) (Kd.R_apart' (HO13.out) (Kd.S_typed HO_4.out) (by decide)) (fun k_ hk => ⟨trivial, hk.2⟩))) (fun _ h_ => h_))); (case aB => exact (by repeat (first | (with_reducible first | exact HB.out | apply below_alloc | apply pw_below_drewN | apply below_drew1) | exact HB.out))); (case aF => exact (fun _ _ => trivial)); (case aO => exact (by (with_reducible repeat (first | apply Kd.S_alloc | apply Kd.S_drewN | apply Kd.S_drew)); exact Kd.S_mono HO_4.out (fun k_ hk => ⟨trivial, fun e_ => hk.2 e_⟩))); (case aS => exact (below_size (by repeat (first | (with_reducible first | exact HB.out | apply below_alloc | apply pw_below_drewN | apply below_drew1) | exact HB.out)))); (case aL => have := LMc13.out; first | omega | (simp only [lit_size, List.size_toArray, List.length_cons, List.length_nil]; omega)); intro v15 w15 ho hb hg hat; rw [← Ny14.out] at ho; have n0_ := Aside0.mk (hb); have n1_ := Aside0.mk (ho); clear HB; clear HO_4; clear HO13; have HB := n0_; have HO16 := n1_; clear n0_ n1_; clear ho hb hg hat))
             go_roundg k3
             case measure => have := HJ1.out; have := HK2.out; have := HK3.out; omega
             case rel => exact ⟨(y14), (wrap64 (x14_2 + 1)), (by first | rfl | (simp; done) | (simp [*]; done)), H', ⟨by have := HJ1.out; have := HK2.out; have := HK3.out; omega⟩, ⟨by (with_reducible repeat (first | apply Kd.S_alloc | apply Kd.S_drewN | apply Kd.S_drew)); exact HO16.out⟩, ⟨by repeat (first | (with_reducible first | exact HB.out | apply below_alloc | apply pw_below_drewN | apply below_drew1) | exact HB.out)⟩⟩
            ·rw [if_neg c13] at H
             exact absurd H (by simp)
           ·rw [if_neg c12] at H
            exact absurd H (by simp)
      ·rw [if_neg c5] at H
       have c5b0 : decide (x14_2 < a0) = false := decide_eq_false c5
       clear c5
       replace H := Option.bind_eq_some_iff.mp H
       obtain ⟨⟨t1, t2⟩, A170, H⟩ := H
       replace H : (some (t1, t2)) = some (r1, r2) := H
       have A17 := Aside0.mk A170
       clear A170
       simp only [Option.some.injEq, Prod.mk.injEq] at H
       obtain ⟨rfl, rfl⟩ := H
       obtain ⟨Ao18, co18, eo18⟩ := Kd.S_slice HO_4.out
       subst eo18
       go_wp2_with (first | ((with_reducible refine gate_callee (f := 10) rfl ?_); refine goesL_ (some 39) rfl rfl Tryz.func10 (by kernel_rfl) rfl #[.slice Ao18 x4_2.length co18] rfl (by (try simp only [List.map_toArray, List.map_cons, List.map_nil]); first | done | rfl | (simp only [List.length_drop, List.length_take]; rfl)) ?_; (with_reducible refine (ring_Together.calls k2 _ _ x4_2 t1 t2 _ ?side1 ?side2 ?side3 A17.out).mono ?_); (case side1 => repeat (first | exact (Kd.S_reads' HO_4.out).2.2 | (with_reducible refine Kd.C_alloc ?_ _) | (with_reducible refine Kd.C_drewN ?_ _) | (with_reducible refine Kd.C_drew ?_))); (case side2 => exact (Kd.S_reads' HO_4.out).2.1); (case side3 => first | (refine LaidW.below HLD.out ?_; with_reducible exact HB.out) | (refine LaidW.below HLD.out ?_; with_reducible apply pw_below_drewN; with_reducible exact HB.out) | (refine LaidW.below HLD.out ?_; with_reducible apply below_alloc; with_reducible exact HB.out) | (refine LaidW.below HLD.out ?_; repeat (first | (with_reducible first | exact HB.out | apply below_alloc | apply pw_below_drewN | apply below_drew1) | exact HB.out); done) | exact HLD.out | (repeat (first | exact HLD.out | (with_reducible refine LaidW.drewN ?_ _) | (with_reducible refine LaidW.drew ?_) | (with_reducible refine LaidW.alloc ?_ _)))); rintro e w19 ⟨v3, rfl, ho0, hb⟩; refine ⟨_, rfl, ?_⟩; have n0_ := Aside0.mk (Kd.S_elder' (by (with_reducible repeat (first | apply Kd.S_alloc | apply Kd.S_drewN | apply Kd.S_drew)); exact HO_4.out) (Kd.S_base ho0) hb); have n1_ := Aside0.mk (Kd.S_lower (Kd.S_new' ho0 (Kd.S_lt (by (with_reducible repeat (first | apply Kd.S_alloc | apply Kd.S_drewN | apply Kd.S_drew)); exact HO_4.out))) (below_size (by repeat (first | (with_reducible first | exact HB.out | apply below_alloc | apply pw_below_drewN | apply below_drew1) | exact HB.out)))); have n2_ := Aside0.mk (below_step (by repeat (first | (with_reducible first | exact HB.out | apply below_alloc | apply pw_below_drewN | apply below_drew1) | exact HB.out)) hb); clear HO_4; clear HB; have HO_4 := n0_; have HO4 := n1_; have HB := n2_; clear n0_ n1_ n2_; (try clear hb); (try clear hb2); (try clear hk); (try clear hi); (try clear ho0)))
       go_ret2
       exact ⟨_, by first | rfl | (simp [errW_none, errW_some] <;> rfl) | (simp [*, errW_none, errW_some] <;> rfl), by (with_reducible repeat (first | apply Kd.S_alloc | apply Kd.S_drewN | apply Kd.S_drew)); exact Kd.S_mono HO4.out (fun _ hk => trivial), by repeat (first | (with_reducible first | exact HB.out | apply below_alloc | apply pw_below_drewN | apply below_drew1) | exact HB.out)⟩
end Go.Proofs.YtpnmmpfidiegcaaGreatDoor.C
end
