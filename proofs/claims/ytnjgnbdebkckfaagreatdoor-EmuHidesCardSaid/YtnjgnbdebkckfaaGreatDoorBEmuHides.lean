/- EmuHides: what the law's function does, and that its answer is true. Conditions: none. -/
import Derived.Deep.Grids
import Derived.Test.YtnjgnbdebkckfaaGreatDoorA35
import Derived.Test.YtnjgnbdebkckfaaGreatDoorA34
import Derived.Test.YtnjgnbdebkckfaaGreatDoorA33
import Derived.Lib.Hide
import Derived.Test.YtnjgnbdebkckfaaGreatDoorA21
import Derived.Test.YtnjgnbdebkckfaaGreatDoorA2
import Derived.Test.YtnjgnbdebkckfaaGreatDoorA9
import Derived.Test.YtnjgnbdebkckfaaGreatDoorA32
set_option linter.unusedVariables false
set_option linter.unusedSimpArgs false
set_option linter.unnecessarySimpa false
namespace Go.Proofs.YtnjgnbdebkckfaaGreatDoor.T1
open Go.RowKit K20 K30
section
variable {w : World} {L L1 : List Res} {b : Nat} {t : TypeId} {e0 e1 e2 e3 e4 e5 e6 e7 e8 e9 e10 e11 e12 e13 e14 e15 e16 e17 e18 e19 e20 e21 e22 e23 e24 e25 e26 e27 e28 e29 e30 e31 e32 e33 : Value}
theorem f23_24_26_27_31_32 (h : Sep w L) (h1 : Rm L (.blk b (emV e0 e1 e2 e3 e4 e5 e6 e7 e8 e9 e10 e11 e12 e13 e14 e15 e16 e17 e18 e19 e20 e21 e22 e23 e24 e25 e26 e27 e28 e29 e30 e31 e32 e33) t) L1) : w.cell? ⟨b, 23, none⟩ = some e23 ∧ w.cell? ⟨b, 24, none⟩ = some e24 ∧ w.cell? ⟨b, 26, none⟩ = some e26 ∧ w.cell? ⟨b, 27, none⟩ = some e27 ∧ w.cell? ⟨b, 31, none⟩ = some e31 ∧ w.cell? ⟨b, 32, none⟩ = some e32 ∧ (∀ i, w.frozen? ⟨b, i, none⟩ = false) ∧ b < w.heap.size := ⟨(h.here h1).1 23, (h.here h1).1 24, (h.here h1).1 26, (h.here h1).1 27, (h.here h1).1 31, (h.here h1).1 32, (h.here h1).2⟩
end
end Go.Proofs.YtnjgnbdebkckfaaGreatDoor.T1
namespace Go.Proofs.YtnjgnbdebkckfaaGreatDoor.K13
open Go.ChangeShapes Go.WideShapes Go.RowKit Go.Deep
theorem open_bools1 {H : Type} {enc : TypeId × Value → H} {P : Program} {W : World} {held : Bool} {t e : TypeId} {a0 : Option Addr} {len cap : Nat} {d : DataW H} {p : List MemPlace}
    (hu : P.underlying t = some (.slice e)) (he : P.underlying e = some .bool) (hce : P.cellsOf e = 1) (h0 : DataW.Trod enc P W 0 (fun _ => true) held t (.slice a0 len cap) d p) :
    ∃ (sb off : Nat) (L : Nat → Bool), (a0 = some ⟨sb, off, none⟩ ∨ len = 0) ∧ len ≤ cap ∧ len ≤ 9223372036854775807 ∧ (∀ k, k < len → W.cell? ⟨sb, off + k, none⟩ = some (.bool (L k))) ∧ (0 < len → sb < W.heap.size) := by
  obtain ⟨fuel, hf⟩ := h0
  rcases open_bools hu he hce hf with ⟨hcs, hx⟩ | ⟨a, len', cap', zs, hcs, _, hl, hm, hx, hcell⟩
  · simp [Value.cells] at hcs
    obtain ⟨rfl, rfl, rfl⟩ := hcs
    exact ⟨0, 0, fun _ => false, .inr rfl, Nat.le_refl _, by omega, fun k h => by omega, fun h => by omega⟩
  · simp [Value.cells] at hcs
    obtain ⟨rfl, rfl, rfl⟩ := hcs
    unfold maxLen at hm
    by_cases hz0 : len = 0
    · subst hz0
      exact ⟨0, 0, fun _ => false, .inr rfl, Nat.zero_le _, by omega, fun k h => by omega, fun h => by omega⟩
    · have h0 := hcell 0 (by omega)
      have ha : a.add 0 = a := by simp [Addr.add]
      rw [ha] at h0
      have hp := K4.addr_plain h0
      have hlt := World.block_lt_of_cell? W _ h0
      generalize a.block = b at *
      generalize a.off = o at *
      subst hp
      refine ⟨b, o, zs, .inl rfl, hl, by omega, fun k hk => ?_, fun _ => hlt⟩
      have := hcell k (by omega)
      rwa [K4.add_plain] at this
end Go.Proofs.YtnjgnbdebkckfaaGreatDoor.K13
namespace Go.Proofs.YtnjgnbdebkckfaaGreatDoor.X4
set_option maxRecDepth 100000
open Go.RowKit K1 K3 K5 K11 K12 K14 K20 K21 K22 K25 K30 K31 M0 M0 ME MF T21 T22 T23 T24 MP Y0 Y1 Y2
attribute [local go_sem] cell_pastA froz_pastA
theorem feedT_of {m : Tm} {q : List UInt8} {A : List Ac} {p : Pg} (h : feedP m.p q = (A, p)) : feedT m q = ((actsE m.t A).1, ⟨(actsE m.t A).2, p⟩) := by
  unfold feedT
  rw [h]
def goTo (t : Te) (x y : Int) : Te := ((t.setY y).setX x).setLate false
/-- the cursor is sent to a place, origin off -/
theorem act_goto (t : Te) (y x : Int) (ho : t.m.cu.origin = false) : actE1 t ⟨4, 0, 72, 0, [y, x], [], []⟩ = goTo t (min (max x 1 - 1) (t.cg.w - 1)) (min (max y 1 - 1) (t.cg.h - 1)) := by
  show (columnE (rowE t (max y 1 - 1)) (max x 1 - 1)).setLate false = _
  unfold rowE
  rw [if_neg (by rw [ho]; decide)]
  rfl
theorem acts2 (t : Te) (a b : Ac) : actsE t [a, b] = (actR t a ++ (actR (actE1 t a) b ++ []), actE1 (actE1 t a) b) := rfl
theorem act_6 (t : Te) : actE1 t ⟨4, 0, 110, 0, [6], [], []⟩ = t := by simp [actE1, csiE, moveE, editE, stateE]
def Q1 (y x : Int) : List UInt8 := [27, 91] ++ (digF y ++ ([59] ++ (digF x ++ [72, 27, 91, 54, 110])))
def Q2 : List UInt8 := [27, 91, 53, 110, 27, 91, 99, 27, 91, 48, 99, 27, 91, 49, 99]
theorem p_one {p : Pg} (g : Gd p) (y x : Int) (hy : 0 ≤ y) (hy2 : y ≤ 9999) (hx : 0 ≤ x) (hx2 : x ≤ 9999) : feedP p (Q1 y x) = ([⟨4, 0, 72, 0, [y, x], [], []⟩, ⟨4, 0, 110, 0, [6], [], []⟩], G0) := by
  obtain ⟨n, rfl⟩ := Int.eq_ofNat_of_zero_le hy
  obtain ⟨k, rfl⟩ := Int.eq_ofNat_of_zero_le hx
  have e : Q1 n k = ([27, 91] ++ (digF n ++ ([59] ++ (digF k ++ [72])))) ++ [27, 91, 54, 110] := by simp [Q1]
  rw [e]
  exact fd_app p _ _ (csi2 g n k (by omega) (by omega) 72 (by decide) (by decide)) (by kernel_rfl)
theorem report_6 (t : Te) (ho : t.m.cu.origin = false) : actR t ⟨4, 0, 110, 0, [6], [], []⟩ = [27, 91] ++ digF (t.m.cu.y + 1) ++ [59] ++ digF (t.m.cu.x + 1) ++ [82] := by
  show [27, 91] ++ digF (repY t + 1) ++ [59] ++ digF (t.m.cu.x + 1) ++ [82] = _
  unfold repY
  rw [if_neg (by rw [ho]; decide)]
theorem one (w h y x : Int) (hy : 0 ≤ y) (hy2 : y ≤ 9999) (hx : 0 ≤ x) (hx2 : x ≤ 9999) :
    feedT (newT w h) (Q1 y x) = ([27, 91] ++ digF (min (max y 1) (endH h)) ++ [59] ++ digF (min (max x 1) (endW w)) ++ [82], ⟨goTo (newE w h) (min (max x 1) (endW w) - 1) (min (max y 1) (endH h) - 1), G0⟩) := by
  rw [feedT_of (p_one gd0 y x hy hy2 hx hx2)]
  rw [acts2]
  have a0 : actR (newT w h).t ⟨4, 0, 72, 0, [y, x], [], []⟩ = [] := by simp [actR, csiR, stateR]
  rw [a0]
  rw [show (newT w h).t = newE w h from rfl, act_goto _ _ _ rfl, act_6]
  have e1 : min (max y 1 - 1) ((newE w h).cg.h - 1) = min (max y 1) (endH h) - 1 := by show min (max y 1 - 1) (endH h - 1) = _; omega
  have e2 : min (max x 1 - 1) ((newE w h).cg.w - 1) = min (max x 1) (endW w) - 1 := by show min (max x 1 - 1) (endW w - 1) = _; omega
  rw [e1, e2, report_6 _ rfl]
  have e3 : (goTo (newE w h) (min (max x 1) (endW w) - 1) (min (max y 1) (endH h) - 1)).m.cu.y + 1 = min (max y 1) (endH h) := by show min (max y 1) (endH h) - 1 + 1 = _; omega
  have e4 : (goTo (newE w h) (min (max x 1) (endW w) - 1) (min (max y 1) (endH h) - 1)).m.cu.x + 1 = min (max x 1) (endW w) := by show min (max x 1) (endW w) - 1 + 1 = _; omega
  rw [e3, e4, List.nil_append, List.append_nil]
theorem two (t : Te) : feedT ⟨t, G0⟩ Q2 = ([27, 91, 48, 110, 27, 91, 63, 49, 59, 50, 99, 27, 91, 63, 49, 59, 50, 99], ⟨t, G0⟩) := by
  rw [feedT_of (m := ⟨t, G0⟩) (A := [⟨4, 0, 110, 0, [5], [], []⟩, ⟨4, 0, 99, 0, [], [], []⟩, ⟨4, 0, 99, 0, [0], [], []⟩, ⟨4, 0, 99, 0, [1], [], []⟩]) (p := G0) (by kernel_rfl)]
  rfl
theorem cat5 (a b : List UInt8) : (⟨([27, 91] ++ a ++ [59] ++ b ++ [82]).toArray⟩ : ByteArray) = ⟨#[27, 91]⟩ ++ ⟨a.toArray⟩ ++ ⟨#[59]⟩ ++ ⟨b.toArray⟩ ++ ⟨#[82]⟩ := by
  apply ByteArray.ext
  simp
theorem dig_size {D : ByteArray} {n : Int} (h : D = ⟨(digF n).toArray⟩) : D.size ≤ 20 := by
  subst h
  exact digN_len 20 n.toNat
set_option maxHeartbeats 4000000 in
theorem law_any (w h x y : Int) (W : World) : Calls Tryz.prog 8 #[.int .i64 w, .int .i64 h, .int .i64 x, .int .i64 y] W fun e w' => e = .returned (.bool true) ∧ Below W.heap.size W w' := by
  have HS := Lib.hid (Sep.start W)
  obtain ⟨D1, hD1⟩ : ∃ D, D = (⟨(digF (min (max y 0) 9999)).toArray⟩ : ByteArray) := ⟨_, rfl⟩
  obtain ⟨D2, hD2⟩ : ∃ D, D = (⟨(digF (min (max x 0) 9999)).toArray⟩ : ByteArray) := ⟨_, rfl⟩
  obtain ⟨E1, hE1⟩ : ∃ D, D = (⟨(digF (min (max (min (max y 0) 9999) 1) (endH h))).toArray⟩ : ByteArray) := ⟨_, rfl⟩
  obtain ⟨E2, hE2⟩ : ∃ D, D = (⟨(digF (min (max (min (max x 0) 9999) 1) (endW w))).toArray⟩ : ByteArray) := ⟨_, rfl⟩
  obtain ⟨m1, hm1⟩ : ∃ m, m = (⟨goTo (newE w h) ((min (max (min (max x 0) 9999) 1) (endW w)) - 1) ((min (max (min (max y 0) 9999) 1) (endH h)) - 1), G0⟩ : Tm) := ⟨_, rfl⟩
  have HF1 := Lib.hid (show feedT (newT w h) (Q1 (min (max y 0) 9999) (min (max x 0) 9999)) = (_, m1) from (one w h (min (max y 0) 9999) (min (max x 0) 9999) (by omega) (by omega) (by omega) (by omega)).trans (by rw [hm1]))
  have HF2 := Lib.hid (show feedT m1 Q2 = (_, m1) from by rw [hm1]; exact two _)
  have OK0 := Lib.hid (newT_ok w h)
  have OK1 := Lib.hid (show TmOk m1 from (show (feedT (newT w h) (Q1 (min (max y 0) 9999) (min (max x 0) 9999))).2 = m1 by rw [HF1.out]) ▸ feedT_ok (newT_ok w h) _)
  have HQ1 := Lib.hid (show ([⟨#[27, 91]⟩, D1, ⟨#[59]⟩, D2, ⟨#[72, 27, 91, 54, 110]⟩] : List ByteArray).flatMap (fun s => s.data.toList) = Q1 (min (max y 0) 9999) (min (max x 0) 9999) from by rw [hD1, hD2]; rfl)
  have HL1 := Lib.hid (show (Q1 (min (max y 0) 9999) (min (max x 0) 9999)).length ≤ 10000 from by have h1 := digN_len 20 (min (max y 0) 9999).toNat; have h2 := digN_len 20 (min (max x 0) 9999).toNat; simp only [Q1, List.length_append]; show 2 + ((digN 20 (min (max y 0) 9999).toNat).length + (1 + ((digN 20 (min (max x 0) 9999).toNat).length + 5))) ≤ _; omega)
  have HZ1 := Lib.hid (show (⟨#[27, 91]⟩ ++ E1 ++ ⟨#[59]⟩ ++ E2 ++ ⟨#[82]⟩ : ByteArray) = ⟨([27, 91] ++ digF (min (max (min (max y 0) 9999) 1) (endH h)) ++ [59] ++ digF (min (max (min (max x 0) 9999) 1) (endW w)) ++ [82]).toArray⟩ from by rw [cat5, hE1, hE2])
  have HX := Lib.hid (show m1.t.m.cu.x = (min (max (min (max x 0) 9999) 1) (endW w)) - 1 from by rw [hm1]; rfl)
  have HY := Lib.hid (show m1.t.m.cu.y = (min (max (min (max y 0) 9999) 1) (endH h)) - 1 from by rw [hm1]; rfl)
  have HD1 := Lib.hid hD1
  have HD2 := Lib.hid hD2
  have HE1 := Lib.hid hE1
  have HE2 := Lib.hid hE2
  have hw2 : 2 ≤ endW w := by unfold endW; omega
  have hw4 : endW w ≤ 40 := by unfold endW; omega
  have hh1 : 1 ≤ endH h := by unfold endH; omega
  have hh2 : endH h ≤ 20 := by unfold endH; omega
  have hs1 := dig_size hE1
  have hs2 := dig_size hE2
  clear hD1 hD2 hE1 hE2 hm1
  go_enter Tryz.func8, Tryz.ntmps8
  go_wp2_with (first | (go_at_call 21; refine K32.ca (fun xw hs => ?_); clear HS; (with_reducible refine (alive_any _).mono ?_); rintro e w1 ⟨rfl, hb⟩; replace hs := hs.below hb; clear hb; have HS := Lib.hid hs; clear hs) | (go_at_call 22; refine K32.ca (fun xw hs => ?_); clear HS; (with_reducible refine (newL w h hs).mono ?_); rintro e w1 ⟨b, LA, rfl, hl, hs⟩; have HLA := Lib.hid hl; clear hl; have HS := Lib.hid hs; clear hs) | (go_at_call 23; refine (ends_any _ _ _).mono ?_; rintro e w1 ⟨rfl, rfl⟩) | (go_at_call 27; refine K32.ca (fun xw hs => ?_); clear HS; (with_reducible refine (digits_i (min (max y 0) 9999) D1 HD1.out (by omega) (by omega)).mono ?_); rintro e w1 ⟨rfl, hb⟩; replace hs := hs.below hb; clear hb; have HS := Lib.hid hs; clear hs) | (go_at_call 27; refine K32.ca (fun xw hs => ?_); clear HS; (with_reducible refine (digits_i (min (max x 0) 9999) D2 HD2.out (by omega) (by omega)).mono ?_); rintro e w1 ⟨rfl, hb⟩; replace hs := hs.below hb; clear hb; have HS := Lib.hid hs; clear hs) | (go_at_call 27; refine K32.ca (fun xw hs => ?_); clear HS; (with_reducible refine (digits_i (min (max (min (max y 0) 9999) 1) (endH h)) E1 HE1.out (by omega) (by omega)).mono ?_); rintro e w1 ⟨rfl, hb⟩; replace hs := hs.below hb; clear hb; (try clear hcS hzS hlS); (try obtain ⟨hcS, hzS, hlS⟩ := hs.here (t := 47) rma); have HS := Lib.hid hs; clear hs) | (go_at_call 27; refine K32.ca (fun xw hs => ?_); clear HS; (with_reducible refine (digits_i (min (max (min (max x 0) 9999) 1) (endW w)) E2 HE2.out (by omega) (by omega)).mono ?_); rintro e w1 ⟨rfl, hb⟩; replace hs := hs.below hb; clear hb; (try clear hcS hzS hlS); (try obtain ⟨hcS, hzS, hlS⟩ := hs.here (t := 47) rma); have HS := Lib.hid hs; clear hs) | (go_at_call 24; refine K32.ca (fun xw hs => ?_); clear HS; have hC := feedL [⟨#[27, 91]⟩, D1, ⟨#[59]⟩, D2, ⟨#[72, 27, 91, 54, 110]⟩] (Q1 (min (max y 0) 9999) (min (max x 0) 9999)) hs HLA.out OK0.out HF1.out HQ1.out HL1.out HZ1.out; refine hC.mono ?_; clear hC; rintro e w1 ⟨LA, rfl, hl, hs⟩; clear HLA; have HLA := Lib.hid hl; clear hl; have HS := Lib.hid hs; clear hs) | (go_at_call 34; refine K32.ca (fun xw hs => ?_); clear HS; have hC := screenL (fun k c => .agg #[.int .i64 m1.t.cg.w, .int .i64 m1.t.cg.h, .slice (some ⟨k, 0, none⟩) m1.t.cg.c.length c, .int .i64 ((min (max (min (max x 0) 9999) 1) (endW w)) - 1), .int .i64 ((min (max (min (max y 0) 9999) 1) (endH h)) - 1), .bool m1.t.m.hidden]) hs HLA.out OK1.out (fun k c => by unfold scrV; rw [HX.out, HY.out]); refine hC.mono ?_; clear hC; rintro e w1 ⟨k, c, LA, rfl, hl, hs⟩; clear HLA; have HLA := Lib.hid hl; clear hl; have HS := Lib.hid hs; clear hs) | (go_at_call 24; refine K32.ca (fun xw hs => ?_); clear HS; have hC := feedL [⟨#[27, 91, 53, 110, 27, 91, 99, 27, 91, 48, 99, 27, 91, 49, 99]⟩] Q2 hs HLA.out OK1.out HF2.out rfl (by decide) rfl; refine hC.mono ?_; clear hC; rintro e w1 ⟨LA, rfl, hl, hs⟩; clear HLA; have HLA := Lib.hid hl; clear hl; have HS := Lib.hid hs; clear hs))
  go_ret
  exact ⟨rfl, HS.out.hereLow (B := W.heap.size) (w0 := W) rma⟩
end Go.Proofs.YtnjgnbdebkckfaaGreatDoor.X4
namespace Go.Proofs.YtnjgnbdebkckfaaGreatDoor.Y3
open Go.RowKit M0 ME MF MP Y0 Y2 T2 T8
/-- what is not cell, place or late -/
structure Kp (t u : Te) : Prop where
  kept : u.m.kept = t.m.kept
  alt : u.m.alt = t.m.alt
  top : u.m.top = t.m.top
  bot : u.m.bottom = t.m.bottom
  wrap : u.m.wrap = t.m.wrap
  ins : u.m.ins = t.m.ins
  hid : u.m.hidden = t.m.hidden
  pen : u.m.cu.pen = t.m.cu.pen
  ori : u.m.cu.origin = t.m.cu.origin
  s0 : u.m.cu.s0 = t.m.cu.s0
  s1 : u.m.cu.s1 = t.m.cu.s1
  s : u.s = t.s
  g : t.m.alt = true → u.g = t.g
  o : t.m.alt = false → u.o = t.o
theorem Kp.refl (t : Te) : Kp t t := ⟨rfl, rfl, rfl, rfl, rfl, rfl, rfl, rfl, rfl, rfl, rfl, rfl, fun _ => rfl, fun _ => rfl⟩
theorem Kp.trans {t u v : Te} (a : Kp t u) (b : Kp u v) : Kp t v := ⟨b.kept.trans a.kept, b.alt.trans a.alt, b.top.trans a.top, b.bot.trans a.bot, b.wrap.trans a.wrap, b.ins.trans a.ins, b.hid.trans a.hid, b.pen.trans a.pen, b.ori.trans a.ori, b.s0.trans a.s0, b.s1.trans a.s1, b.s.trans a.s, fun h => (b.g (a.alt.trans h)).trans (a.g h), fun h => (b.o (a.alt.trans h)).trans (a.o h)⟩
theorem kp_cg (t : Te) (g : Gr) : Kp t (t.setCg g) := by
  cases ha : t.m.alt
  · have e : t.setCg g = { t with g := g } := by unfold Te.setCg; rw [ha]; rfl
    rw [e]
    exact ⟨rfl, rfl, rfl, rfl, rfl, rfl, rfl, rfl, rfl, rfl, rfl, rfl, fun h => absurd (ha.symm.trans h) (by decide), fun _ => rfl⟩
  · have e : t.setCg g = { t with o := g } := by unfold Te.setCg; rw [ha]; rfl
    rw [e]
    exact ⟨rfl, rfl, rfl, rfl, rfl, rfl, rfl, rfl, rfl, rfl, rfl, rfl, fun _ => rfl, fun h => absurd (ha.symm.trans h) (by decide)⟩
theorem kp_x (t : Te) (x : Int) : Kp t (t.setX x) := ⟨rfl, rfl, rfl, rfl, rfl, rfl, rfl, rfl, rfl, rfl, rfl, rfl, fun _ => rfl, fun _ => rfl⟩
theorem kp_y (t : Te) (x : Int) : Kp t (t.setY x) := ⟨rfl, rfl, rfl, rfl, rfl, rfl, rfl, rfl, rfl, rfl, rfl, rfl, fun _ => rfl, fun _ => rfl⟩
theorem kp_l (t : Te) (x : Bool) : Kp t (t.setLate x) := ⟨rfl, rfl, rfl, rfl, rfl, rfl, rfl, rfl, rfl, rfl, rfl, rfl, fun _ => rfl, fun _ => rfl⟩
theorem kp_index (t : Te) : Kp t (indexE t) := by
  unfold indexE
  split
  · exact kp_cg _ _
  · split
    · exact kp_y _ _
    · exact Kp.refl _
theorem kp_print (t : Te) (r : Int) : Kp t (printE t r) := by
  have h1 : Kp t (wrapE t) := by
    unfold wrapE
    split
    · exact (kp_x _ _).trans (kp_index _)
    · exact Kp.refl _
  have h2 : Kp (wrapE t) (insE (wrapE t)) := by
    unfold insE
    split
    · exact kp_cg _ _
    · exact Kp.refl _
  have h3 : ∀ u : Te, Kp u (lastE u) := fun u => by
    unfold lastE
    split
    · exact kp_l _ _
    · exact (kp_l _ _).trans (kp_x _ _)
  exact ((h1.trans h2).trans (kp_cg _ _)).trans (h3 _)
theorem kp_control (t : Te) (b : Int) : Kp t (controlE t b) := by
  unfold controlE
  repeat' split
  · exact (kp_l _ _).trans (kp_x _ _)
  · exact (kp_l _ _).trans (kp_x _ _)
  · exact (kp_l _ _).trans (kp_index _)
  · exact (kp_l _ _).trans (kp_x _ _)
  · exact ⟨rfl, rfl, rfl, rfl, rfl, rfl, rfl, rfl, rfl, rfl, rfl, rfl, fun _ => rfl, fun _ => rfl⟩
  · exact ⟨rfl, rfl, rfl, rfl, rfl, rfl, rfl, rfl, rfl, rfl, rfl, rfl, fun _ => rfl, fun _ => rfl⟩
  · exact Kp.refl _
/-- acts that print, or are a byte below 32 -/
def Sm (a : Ac) : Prop := a.kind = 1 ∨ a.kind = 2
theorem kp_act (t : Te) {a : Ac} (h : Sm a) : Kp t (actE1 t a) ∧ actR t a = [] := by
  unfold actE1 actR
  rcases h with h | h
  · rw [if_pos h, if_neg (by rw [h]; decide)]
    exact ⟨kp_print _ _, rfl⟩
  · rw [if_neg (by rw [h]; decide), if_pos h, if_neg (by rw [h]; decide)]
    exact ⟨kp_control _ _, rfl⟩
theorem kp_acts : ∀ (l : List Ac) (t : Te), (∀ a ∈ l, Sm a) → Kp t (actsE t l).2 ∧ (actsE t l).1 = []
  | [], t, _ => ⟨Kp.refl _, rfl⟩
  | a :: l, t, h => by
    obtain ⟨h1, h2⟩ := kp_act t (h a (by simp))
    obtain ⟨h3, h4⟩ := kp_acts l (actE1 t a) (fun x hx => h x (by simp [hx]))
    refine ⟨h1.trans h3, ?_⟩
    show actR t a ++ (actsE (actE1 t a) l).1 = []
    rw [h2, h4]
    rfl
theorem sm_print (l : List Int) : ∀ a ∈ l.map acPrint, Sm a := by
  intro a ha
  obtain ⟨x, _, rfl⟩ := List.mem_map.1 ha
  exact .inl rfl
/-- a byte that is not 27, on the ground -/
theorem st_ground {p : Pg} (h : p.state = 0) (c : UInt8) (hc : c ≠ 27) : (stepP p c).2.state = 0 ∧ ∀ a ∈ (stepP p c).1, Sm a := by
  have ha : (aheadP p c).2.state = 0 ∧ ∀ a ∈ (aheadP p c).1, Sm a := by
    unfold aheadP
    split
    · exact ⟨h, sm_print _⟩
    · exact ⟨h, fun a ha => by cases ha⟩
  have hb : ∀ q : Pg, q.state = 0 → (bodyP q c).2.state = 0 ∧ ∀ a ∈ (bodyP q c).1, Sm a := by
    intro q hq
    unfold bodyP
    by_cases h24 : c = 24 ∨ c = 26
    · rw [if_pos h24]
      exact ⟨rfl, fun a ha => by cases ha⟩
    · rw [if_neg h24]
      rw [if_neg hc]
      have hw : whatF q c = 2 ∨ whatF q c = 1 ∨ whatF q c = 0 := by
        unfold whatF
        rw [hq]
        have h6 := class_lt c
        have : ∀ k : Fin 6, tableL.getD (0 * 6 + k.1) 0 = 2 ∨ tableL.getD (0 * 6 + k.1) 0 = 1 ∨ tableL.getD (0 * 6 + k.1) 0 = 0 := by decide
        exact this ⟨classF c, h6⟩
      rw [if_neg (show ¬ whatF q c = 9 by omega)]
      unfold actP
      rcases hw with hw | hw | hw
      · rw [hw, if_neg (by decide), if_pos rfl]
        exact ⟨hq, fun a ha => by rw [List.mem_singleton] at ha; subst ha; exact .inr rfl⟩
      · rw [hw, if_pos rfl]
        exact ⟨hq, sm_print _⟩
      · rw [hw]
        exact ⟨hq, fun a ha => by cases ha⟩
  obtain ⟨h1, h2⟩ := hb _ ha.1
  exact ⟨h1, fun a h => (List.mem_append.1 h).elim (ha.2 a) (h2 a)⟩
theorem fd_ground : ∀ (l : List UInt8) {p : Pg}, p.state = 0 → (∀ c ∈ l, c ≠ 27) → (feedP p l).2.state = 0 ∧ ∀ a ∈ (feedP p l).1, Sm a
  | [], p, h, _ => ⟨h, fun a ha => by cases ha⟩
  | c :: l, p, h, hc => by
    obtain ⟨h1, h2⟩ := st_ground h c (hc c (by simp))
    obtain ⟨h3, h4⟩ := fd_ground l h1 (fun x hx => hc x (by simp [hx]))
    exact ⟨h3, fun a ha => (List.mem_append.1 ha).elim (h2 a) (h4 a)⟩
/-- 24 ends whatever there is -/
theorem st_can (p : Pg) (hg : p.state ≠ 0 → p.half = []) : (stepP p 24).2 = G0 ∧ ∀ a ∈ (stepP p 24).1, Sm a := by
  have e : (stepP p 24).2 = beginP (aheadP p 24).2 0 := rfl
  have e2 : (stepP p 24).1 = (aheadP p 24).1 ++ [] := rfl
  rw [e, e2, List.append_nil]
  unfold aheadP
  split
  · exact ⟨rfl, sm_print _⟩
  · rename_i hn
    refine ⟨?_, fun a ha => by cases ha⟩
    have hs : p.state ≠ 0 := fun hs => hn ⟨hs, .inl (by decide)⟩
    have : p.half = [] := hg hs
    show beginP p 0 = G0
    unfold beginP
    rw [this]
    rfl
end Go.Proofs.YtnjgnbdebkckfaaGreatDoor.Y3
namespace Go.Proofs.YtnjgnbdebkckfaaGreatDoor.T25
set_option maxRecDepth 100000
open Go.RowKit K1 K3 K5 K11 K12 K14 K20 K21 K22 K25 K30 K31 M0 C1 G1 G2 G3 G4 G5 G6 G7 G8 G9 G10 E3 E12 E14 E25 ME MF S3 S4 T1 T2 T3 T4 T5 T6 T7 T8 T9 T10 T11 T12 T13 T14 T15 T16 E2 E15 K7 K9 T17 T18 T19 T20 T21 T22 T23 T24 U1 U3 MP Y1
attribute [local go_sem] cell_pastA froz_pastA
set_option maxHeartbeats 4000000 in
theorem regionL {b : Nat} {m : Tm} {LA L F : List Res} {w : World} (hs0 : Sep w L) (hA : TmL b m LA) (ok : TmOk m) (hl2 : RmL L LA F := by (repeat (first | (with_reducible exact RmL.here) | (with_reducible apply RmL.past) | (with_reducible apply RmL.there)))) : Calls Tryz.prog 31 #[.pointer (some ⟨b, 0, none⟩)] w fun e w' => ∃ LA', e = .returned (.tuple #[.int .i64 m.t.m.top, .int .i64 m.t.m.bottom]) ∧ TmL b m LA' ∧ Sep w' (LA' ++ F) := by
  have h := tml_at hs0 hA hl2
  clear hs0 hA hl2
  obtain ⟨pb, o, iv, nv, tv, sb, cb, gb, gc, xb, hb, hc, pm, po, h1, h2, h3⟩ := h
  obtain ⟨g, hg⟩ := main_some h1 h2
  have hs : Sep w (.blk b (emQ m.t.m (.pointer (some ⟨pb, 0, none⟩)) pm po (.pointer (some ⟨sb, 0, none⟩)) (.slice none 0 0)) 108 :: gL cb gb gc m.t.cg (gL xb hb hc m.t.og (.blk sb (scells m.t.s) 126 :: pL pb o 102 m.p iv nv tv F))) := h3
  obtain ⟨hcE, hzE, hlE⟩ := hs.here (b := b) K32.rm
  have hcE23 := (hcE 23).trans (emV_23 ..); have hcE25 := (hcE 25).trans (emV_25 ..); have hcE0 := (hcE 0).trans (emV_0 ..); have hcE1 := (hcE 1).trans (emV_1 ..); have hcE30 := (hcE 30).trans (emV_30 ..); have hcE26 := (hcE 26).trans (emV_26 ..); have hcE27 := (hcE 27).trans (emV_27 ..)
  rw [hg] at hcE23
  have HS := Lib.hid hs
  have H1 := Lib.hid h1
  have H2 := Lib.hid h2
  have OK := Lib.hid ok
  clear hs h1 h2 h3 hg ok hcE
  go_enter Tryz.func31, Tryz.ntmps31
  go_wp2_with (first | (go_at_call 48; refine (none_any b none g _ hcE23).mono ?_; rintro e w1 ⟨rfl, hbw⟩; have hs := HS.out.below hbw; (try clear hcE0 hcE1 hcE23 hcE25 hcE26 hcE27 hcE30 hzE hlE); obtain ⟨hcE0, hcE1, hcE23, hcE25, hcE26, hcE27, hcE30, hzE, hlE⟩ := T1.f0_1_23_25_26_27_30 hs K32.rm; have HS := Lib.hid hs; clear hs hbw) | (refine K32.atW 3 (fun xw hs => ?_); (try simp only [emV_sets] at hs); (try clear hcE0 hcE1 hcE23 hcE25 hcE26 hcE27 hcE30 hzE hlE); obtain ⟨hcE0, hcE1, hcE23, hcE25, hcE26, hcE27, hcE30, hzE, hlE⟩ := T1.f0_1_23_25_26_27_30 hs K32.rm; have HS := Lib.hid hs; clear hs; refine K32.reg0 (w := xw) [] [] 10 ?_; simp only [numbered, List.take_succ_cons, List.take_zero, List.drop_succ_cons, List.drop_zero, List.take_nil, List.drop_nil, Nat.reduceAdd]; (iterate 10 (refine K32.zd ?_; (try go_simp))); refine wz_nil ?_; intro wq hbq hLq; clear hLq ; have hcwq := cellA hbq; have hfwq := frozA hbq; have hzwq := hbq.size; (try simp at hzwq); have hs := HS.out.below hbq; (try clear hcE0 hcE1 hcE23 hcE25 hcE26 hcE27 hcE30 hzE hlE); obtain ⟨hcE0, hcE1, hcE23, hcE25, hcE26, hcE27, hcE30, hzE, hlE⟩ := T1.f0_1_23_25_26_27_30 hs K32.rm; have HS := Lib.hid hs; clear hs hcwq hfwq hzwq hbq))
  go_ret2
  obtain ⟨LA', q1, q2⟩ := tm_open (tm_in (m := m) (sb := sb) (cb := cb) (gb := gb) (gc := gc) (xb := xb) (hb := hb) (hc := hc) (pb := pb) (pm := pm) (po := po) (o := o) (iv := iv) (nv := nv) (tv := tv) HS.out H1.out H2.out)
  exact ⟨LA', rfl, q1, q2⟩
set_option maxHeartbeats 4000000 in
theorem altL {b : Nat} {m : Tm} {LA L F : List Res} {w : World} (hs0 : Sep w L) (hA : TmL b m LA) (ok : TmOk m) (hl2 : RmL L LA F := by (repeat (first | (with_reducible exact RmL.here) | (with_reducible apply RmL.past) | (with_reducible apply RmL.there)))) : Calls Tryz.prog 37 #[.pointer (some ⟨b, 0, none⟩)] w fun e w' => ∃ LA', e = .returned (.bool m.t.m.alt) ∧ TmL b m LA' ∧ Sep w' (LA' ++ F) := by
  have h := tml_at hs0 hA hl2
  clear hs0 hA hl2
  obtain ⟨pb, o, iv, nv, tv, sb, cb, gb, gc, xb, hb, hc, pm, po, h1, h2, h3⟩ := h
  obtain ⟨g, hg⟩ := main_some h1 h2
  have hs : Sep w (.blk b (emQ m.t.m (.pointer (some ⟨pb, 0, none⟩)) pm po (.pointer (some ⟨sb, 0, none⟩)) (.slice none 0 0)) 108 :: gL cb gb gc m.t.cg (gL xb hb hc m.t.og (.blk sb (scells m.t.s) 126 :: pL pb o 102 m.p iv nv tv F))) := h3
  obtain ⟨hcE, hzE, hlE⟩ := hs.here (b := b) K32.rm
  have hcE23 := (hcE 23).trans (emV_23 ..); have hcE25 := (hcE 25).trans (emV_25 ..); have hcE0 := (hcE 0).trans (emV_0 ..); have hcE1 := (hcE 1).trans (emV_1 ..); have hcE30 := (hcE 30).trans (emV_30 ..); have hcE26 := (hcE 26).trans (emV_26 ..); have hcE27 := (hcE 27).trans (emV_27 ..)
  rw [hg] at hcE23
  have HS := Lib.hid hs
  have H1 := Lib.hid h1
  have H2 := Lib.hid h2
  have OK := Lib.hid ok
  clear hs h1 h2 h3 hg ok hcE
  go_enter Tryz.func37, Tryz.ntmps37
  go_wp2_with (first | (go_at_call 48; refine (none_any b none g _ hcE23).mono ?_; rintro e w1 ⟨rfl, hbw⟩; have hs := HS.out.below hbw; (try clear hcE0 hcE1 hcE23 hcE25 hcE26 hcE27 hcE30 hzE hlE); obtain ⟨hcE0, hcE1, hcE23, hcE25, hcE26, hcE27, hcE30, hzE, hlE⟩ := T1.f0_1_23_25_26_27_30 hs K32.rm; have HS := Lib.hid hs; clear hs hbw))
  go_ret
  obtain ⟨LA', q1, q2⟩ := tm_open (tm_in (m := m) (sb := sb) (cb := cb) (gb := gb) (gc := gc) (xb := xb) (hb := hb) (hc := hc) (pb := pb) (pm := pm) (po := po) (o := o) (iv := iv) (nv := nv) (tv := tv) HS.out H1.out H2.out)
  exact ⟨LA', rfl, q1, q2⟩
end Go.Proofs.YtnjgnbdebkckfaaGreatDoor.T25
namespace Go.Proofs.YtnjgnbdebkckfaaGreatDoor.T26
set_option maxRecDepth 100000
open Go.RowKit K1 K3 K5 K11 K12 K14 K20 K21 K22 K25 K30 K31 M0 C1 G1 G2 G3 G4 G5 G6 G7 G8 G9 G10 E3 E12 E14 E25 ME MF S3 S4 T1 T2 T3 T4 T5 T6 T7 T8 T9 T10 T11 T12 T13 T14 T15 T16 E2 E15 K7 K9 T17 T18 T19 T20 T21 T22 T23 T24 U1 U3 MP Y1 G11
attribute [local go_sem] cell_pastA froz_pastA
theorem sizeG_h (g : Gr) (x y : Int) : (sizeG g x y).h = endH y := (sizeK_all g x y _).2.1
theorem sizeG_w (g : Gr) (x y : Int) : (sizeG g x y).w = endW x := (sizeK_all g x y _).1
theorem hs_any (b gb gc : Nat) (g : Gr) (y : Int) (w : World) (e : g.h = endH y) (h : GrAt w b gb gc g) : Calls Tryz.prog 45 #[.pointer (some ⟨b, 0, none⟩)] w fun e w' => e = .returned (.int .i64 (endH y)) ∧ Below w.heap.size w w' := e ▸ G1.H_any b gb gc _ w h
theorem ws_any (b gb gc : Nat) (g : Gr) (x : Int) (w : World) (e : g.w = endW x) (h : GrAt w b gb gc g) : Calls Tryz.prog 47 #[.pointer (some ⟨b, 0, none⟩)] w fun e w' => e = .returned (.int .i64 (endW x)) ∧ Below w.heap.size w w' := e ▸ G1.W_any b gb gc _ w h
theorem size_l (b gb gc : Nat) (g g' : Gr) (x y : Int) (F : List Res) (w : World) (hs : Sep w (gL b gb gc g F)) (ok0 : GrOk g) (e : sizeG g x y = g') : Calls Tryz.prog 54 #[.pointer (some ⟨b, 0, none⟩), .int .i64 x, .int .i64 y] w (SizP b g' F) := e ▸ Size_any b gb gc g x y F w hs ok0
theorem within_g (b cb gb gc : Nat) (pv : Value) (pm po : Option Addr) (sv av : Value) (t : Te) (g : Gr) (hg : t.cg = g) (F : List Res) (w : World) (hs : Sep w (.blk b (emQ t.m pv pm po sv av) 108 :: gL cb gb gc g F)) (hcur : (if t.m.alt = true then po else pm) = some ⟨cb, 0, none⟩) (okg : GrOk g) (x0 : 0 ≤ t.m.cu.x) (x1 : t.m.cu.x ≤ 39) (y0 : 0 ≤ t.m.cu.y) (y1 : t.m.cu.y ≤ 19) : Calls Tryz.prog 55 #[.pointer (some ⟨b, 0, none⟩)] w (EmP b cb gb gc pv pm po sv av (withinE t).m g F) := by
  subst hg
  exact within_any b cb gb gc pv pm po sv av t F w hs hcur okg x0 x1 y0 y1
structure SzP (b gm go : Nat) (pv : Value) (t : Te) (g1 g2 : Gr) (x y : Int) (F : List Res) (e : Ending) (w' : World) : Prop where
  out : ∃ km1 cm1 ko1 co1 sb2, e = .returned (.tuple #[]) ∧ Sep w' (.blk b (emQ ((sizeE t x y).m) pv (some ⟨gm, 0, none⟩) (some ⟨go, 0, none⟩) (.pointer (some ⟨sb2, 0, none⟩)) (.slice none 0 0)) 108 :: gL gm km1 cm1 g1 (gL go ko1 co1 g2 (.blk sb2 (scells (stopsF (endW x))) 126 :: F)))
set_option maxHeartbeats 4000000 in
theorem size_b (b gm km cm go ko co sb : Nat) (pv : Value) (t : Te) (x y : Int) (F : List Res) (w : World) (hs : Sep w (.blk b (emQ t.m pv (some ⟨gm, 0, none⟩) (some ⟨go, 0, none⟩) (.pointer (some ⟨sb, 0, none⟩)) (.slice none 0 0)) 108 :: gL gm km cm t.g (gL go ko co t.o (.blk sb (scells t.s) 126 :: F)))) (ok : TeOk t) (g1 g2 : Gr) (e1 : sizeG t.g x y = g1) (e2 : sizeG t.o x y = g2) : Calls Tryz.prog 39 #[.pointer (some ⟨b, 0, none⟩), .int .i64 x, .int .i64 y] w (SzP b gm go pv t g1 g2 x y F) := by
  have OKm := Lib.hid ok.g
  have OKo := Lib.hid ok.o
  have c1 := ok.cu.x0
  have c2 := ok.cu.x1
  have c3 := ok.cu.y0
  have c4 := ok.cu.y1
  have HR := Lib.hid (show (sizeE t x y).m = (withinE ({ t with g := g1, o := g2, m := { t.m with top := 0, bottom := endH y, late := false } } : Te)).m from by rw [← e1, ← e2]; rfl)
  have HH1 := Lib.hid (show g1.h = endH y from e1 ▸ sizeG_h t.g x y)
  have HW1 := Lib.hid (show g1.w = endW x from e1 ▸ sizeG_w t.g x y)
  have OK1 : GrOk g1 := e1 ▸ sizeK_ok t.g x y _
  have OK2 : GrOk g2 := e2 ▸ sizeK_ok t.o x y _
  have E1 := Lib.hid e1
  have E2 := Lib.hid e2
  have HS := Lib.hid hs
  (try clear hcE23 hcE24 hcE26 hcE27 hcE31 hcE32 hzE hlE); obtain ⟨hcE23, hcE24, hcE26, hcE27, hcE31, hcE32, hzE, hlE⟩ := T1.f23_24_26_27_31_32 hs K32.rm
  clear hs ok e1 e2
  cases ha : t.m.alt
  · have HCUR := Lib.hid (show (if ({ t with g := g1, o := g2, m := { t.m with top := 0, bottom := endH y, late := false } } : Te).m.alt = true then some (⟨go, 0, none⟩ : Addr) else some ⟨gm, 0, none⟩) = some ⟨gm, 0, none⟩ from if_neg (by show ¬ t.m.alt = true; rw [ha]; decide))
    have ECG := Lib.hid (show ({ t with g := g1, o := g2, m := { t.m with top := 0, bottom := endH y, late := false } } : Te).cg = g1 from if_neg (by show ¬ t.m.alt = true; rw [ha]; decide))
    have OKG := Lib.hid OK1
    clear ha OK1 OK2
    go_enter Tryz.func39, Tryz.ntmps39
    go_wp2_with (first | (go_at_call 48; refine (none_any b none gm _ hcE23).mono ?_; rintro e w1 ⟨rfl, hbw⟩; have hs := HS.out.below hbw; (try clear hcE23 hcE24 hcE26 hcE27 hcE31 hcE32 hzE hlE); obtain ⟨hcE23, hcE24, hcE26, hcE27, hcE31, hcE32, hzE, hlE⟩ := T1.f23_24_26_27_31_32 hs K32.rm; have HS := Lib.hid hs; clear hs hbw) | (go_at_call 54; (with_reducible show Calls _ _ #[.pointer (some ⟨gm, 0, none⟩), _, _] _ _); have hs := HS.out.pick2 (r1 := .blk gm (gcells t.g km cm) 121) (r2 := .row (.slice (some ⟨km, 0, none⟩) t.g.c.length cm) 58 6 t.g.c.length (t.g.c.flatMap ceV)) K32.rm K32.rm; clear HS; refine (size_l gm km cm t.g g1 x y _ _ hs OKm.out E1.out).mono ?_; clear hs; rintro e w1 ⟨⟨km1, cm1, rfl, hs⟩⟩; (try clear hcE23 hcE24 hcE26 hcE27 hcE31 hcE32 hzE hlE); obtain ⟨hcE23, hcE24, hcE26, hcE27, hcE31, hcE32, hzE, hlE⟩ := T1.f23_24_26_27_31_32 hs K32.rm; have HS := Lib.hid hs; clear hs) | (go_at_call 54; (with_reducible show Calls _ _ #[.pointer (some ⟨go, 0, none⟩), _, _] _ _); have hs := HS.out.pick2 (r1 := .blk go (gcells t.o ko co) 121) (r2 := .row (.slice (some ⟨ko, 0, none⟩) t.o.c.length co) 58 6 t.o.c.length (t.o.c.flatMap ceV)) K32.rm K32.rm; clear HS; refine (size_l go ko co t.o g2 x y _ _ hs OKo.out E2.out).mono ?_; clear hs; rintro e w1 ⟨⟨ko1, co1, rfl, hs⟩⟩; (try clear hcE23 hcE24 hcE26 hcE27 hcE31 hcE32 hzE hlE); obtain ⟨hcE23, hcE24, hcE26, hcE27, hcE31, hcE32, hzE, hlE⟩ := T1.f23_24_26_27_31_32 hs K32.rm; have HS := Lib.hid hs; clear hs) | (go_at_call 45; have hs := HS.out; have hC := (hs_any gm km1 cm1 g1 y _ HH1.out (GrAt.of hs K32.rm)); (with_reducible refine hC.mono ?_); clear hC; rintro e w1 ⟨rfl, hb⟩; have hs := hs.below hb; clear hb; (try clear hcE23 hcE24 hcE26 hcE27 hcE31 hcE32 hzE hlE); obtain ⟨hcE23, hcE24, hcE26, hcE27, hcE31, hcE32, hzE, hlE⟩ := T1.f23_24_26_27_31_32 hs K32.rm; have HS := Lib.hid hs; clear hs) | (go_at_call 47; have hs := HS.out; have hC := (ws_any gm km1 cm1 g1 x _ HW1.out (GrAt.of hs K32.rm)); (with_reducible refine hC.mono ?_); clear hC; rintro e w1 ⟨rfl, hb⟩; have hs := hs.below hb; clear hb; (try clear hcE23 hcE24 hcE26 hcE27 hcE31 hcE32 hzE hlE); obtain ⟨hcE23, hcE24, hcE26, hcE27, hcE31, hcE32, hzE, hlE⟩ := T1.f23_24_26_27_31_32 hs K32.rm; have HS := Lib.hid hs; clear hs) | (go_at_call 55; refine K32.ca (fun xw hs => ?_); (try simp only [emV_sets] at hs); have hs := hs.pick3 (r1 := .blk b (emQ (({ t with g := g1, o := g2, m := { t.m with top := 0, bottom := endH y, late := false } } : Te).m) pv (some ⟨gm, 0, none⟩) (some ⟨go, 0, none⟩) (.pointer (some ⟨sb, 0, none⟩)) (.slice none 0 0)) 108) (r2 := .blk gm (gcells g1 km1 cm1) 121) (r3 := .row (.slice (some ⟨km1, 0, none⟩) g1.c.length cm1) 58 6 g1.c.length (g1.c.flatMap ceV)) K32.rm K32.rm K32.rm; refine (within_g b gm km1 cm1 pv (some ⟨gm, 0, none⟩) (some ⟨go, 0, none⟩) (.pointer (some ⟨sb, 0, none⟩)) (.slice none 0 0) ({ t with g := g1, o := g2, m := { t.m with top := 0, bottom := endH y, late := false } } : Te) g1 ECG.out _ _ hs HCUR.out OKG.out c1 c2 c3 c4).mono ?_; clear hs; rintro e w1 ⟨⟨rfl, hs⟩⟩; (try clear hcE23 hcE24 hcE26 hcE27 hcE31 hcE32 hzE hlE); obtain ⟨hcE23, hcE24, hcE26, hcE27, hcE31, hcE32, hzE, hlE⟩ := T1.f23_24_26_27_31_32 hs K32.rm; have HS := Lib.hid hs; clear hs) | (go_at_call 46; refine K32.ca (fun xw hs => ?_); (try simp only [emV_sets] at hs); refine (new_s (endW x) _ _ hs).mono ?_; clear hs; rintro e w1 ⟨sb2, rfl, hs⟩; (try clear hcE23 hcE24 hcE26 hcE27 hcE31 hcE32 hzE hlE); obtain ⟨hcE23, hcE24, hcE26, hcE27, hcE31, hcE32, hzE, hlE⟩ := T1.f23_24_26_27_31_32 hs K32.rm; have HS := Lib.hid hs; clear hs))
    (first | go_end0 | refine bodyPost_ret (results_none rfl _ _ _) rfl ?_)
    refine ⟨⟨km1, cm1, ko1, co1, sb2, rfl, ?_⟩⟩
    rw [HR.out]
    ((with_reducible apply K30.sep_end); exact K32.fnd; intro hs; (try simp only [emV_sets] at hs); exact hs.end6 K32.rm K32.rm K32.rm K32.rm K32.rm K32.rm K32.sub)
  · have HCUR := Lib.hid (show (if ({ t with g := g1, o := g2, m := { t.m with top := 0, bottom := endH y, late := false } } : Te).m.alt = true then some (⟨go, 0, none⟩ : Addr) else some ⟨gm, 0, none⟩) = some ⟨go, 0, none⟩ from if_pos (by show t.m.alt = true; rw [ha]))
    have ECG := Lib.hid (show ({ t with g := g1, o := g2, m := { t.m with top := 0, bottom := endH y, late := false } } : Te).cg = g2 from if_pos (by show t.m.alt = true; rw [ha]))
    have OKG := Lib.hid OK2
    clear ha OK1 OK2
    go_enter Tryz.func39, Tryz.ntmps39
    go_wp2_with (first | (go_at_call 48; refine (none_any b none gm _ hcE23).mono ?_; rintro e w1 ⟨rfl, hbw⟩; have hs := HS.out.below hbw; (try clear hcE23 hcE24 hcE26 hcE27 hcE31 hcE32 hzE hlE); obtain ⟨hcE23, hcE24, hcE26, hcE27, hcE31, hcE32, hzE, hlE⟩ := T1.f23_24_26_27_31_32 hs K32.rm; have HS := Lib.hid hs; clear hs hbw) | (go_at_call 54; (with_reducible show Calls _ _ #[.pointer (some ⟨gm, 0, none⟩), _, _] _ _); have hs := HS.out.pick2 (r1 := .blk gm (gcells t.g km cm) 121) (r2 := .row (.slice (some ⟨km, 0, none⟩) t.g.c.length cm) 58 6 t.g.c.length (t.g.c.flatMap ceV)) K32.rm K32.rm; clear HS; refine (size_l gm km cm t.g g1 x y _ _ hs OKm.out E1.out).mono ?_; clear hs; rintro e w1 ⟨⟨km1, cm1, rfl, hs⟩⟩; (try clear hcE23 hcE24 hcE26 hcE27 hcE31 hcE32 hzE hlE); obtain ⟨hcE23, hcE24, hcE26, hcE27, hcE31, hcE32, hzE, hlE⟩ := T1.f23_24_26_27_31_32 hs K32.rm; have HS := Lib.hid hs; clear hs) | (go_at_call 54; (with_reducible show Calls _ _ #[.pointer (some ⟨go, 0, none⟩), _, _] _ _); have hs := HS.out.pick2 (r1 := .blk go (gcells t.o ko co) 121) (r2 := .row (.slice (some ⟨ko, 0, none⟩) t.o.c.length co) 58 6 t.o.c.length (t.o.c.flatMap ceV)) K32.rm K32.rm; clear HS; refine (size_l go ko co t.o g2 x y _ _ hs OKo.out E2.out).mono ?_; clear hs; rintro e w1 ⟨⟨ko1, co1, rfl, hs⟩⟩; (try clear hcE23 hcE24 hcE26 hcE27 hcE31 hcE32 hzE hlE); obtain ⟨hcE23, hcE24, hcE26, hcE27, hcE31, hcE32, hzE, hlE⟩ := T1.f23_24_26_27_31_32 hs K32.rm; have HS := Lib.hid hs; clear hs) | (go_at_call 45; have hs := HS.out; have hC := (hs_any gm km1 cm1 g1 y _ HH1.out (GrAt.of hs K32.rm)); (with_reducible refine hC.mono ?_); clear hC; rintro e w1 ⟨rfl, hb⟩; have hs := hs.below hb; clear hb; (try clear hcE23 hcE24 hcE26 hcE27 hcE31 hcE32 hzE hlE); obtain ⟨hcE23, hcE24, hcE26, hcE27, hcE31, hcE32, hzE, hlE⟩ := T1.f23_24_26_27_31_32 hs K32.rm; have HS := Lib.hid hs; clear hs) | (go_at_call 47; have hs := HS.out; have hC := (ws_any gm km1 cm1 g1 x _ HW1.out (GrAt.of hs K32.rm)); (with_reducible refine hC.mono ?_); clear hC; rintro e w1 ⟨rfl, hb⟩; have hs := hs.below hb; clear hb; (try clear hcE23 hcE24 hcE26 hcE27 hcE31 hcE32 hzE hlE); obtain ⟨hcE23, hcE24, hcE26, hcE27, hcE31, hcE32, hzE, hlE⟩ := T1.f23_24_26_27_31_32 hs K32.rm; have HS := Lib.hid hs; clear hs) | (go_at_call 55; refine K32.ca (fun xw hs => ?_); (try simp only [emV_sets] at hs); have hs := hs.pick3 (r1 := .blk b (emQ (({ t with g := g1, o := g2, m := { t.m with top := 0, bottom := endH y, late := false } } : Te).m) pv (some ⟨gm, 0, none⟩) (some ⟨go, 0, none⟩) (.pointer (some ⟨sb, 0, none⟩)) (.slice none 0 0)) 108) (r2 := .blk go (gcells g2 ko1 co1) 121) (r3 := .row (.slice (some ⟨ko1, 0, none⟩) g2.c.length co1) 58 6 g2.c.length (g2.c.flatMap ceV)) K32.rm K32.rm K32.rm; refine (within_g b go ko1 co1 pv (some ⟨gm, 0, none⟩) (some ⟨go, 0, none⟩) (.pointer (some ⟨sb, 0, none⟩)) (.slice none 0 0) ({ t with g := g1, o := g2, m := { t.m with top := 0, bottom := endH y, late := false } } : Te) g2 ECG.out _ _ hs HCUR.out OKG.out c1 c2 c3 c4).mono ?_; clear hs; rintro e w1 ⟨⟨rfl, hs⟩⟩; (try clear hcE23 hcE24 hcE26 hcE27 hcE31 hcE32 hzE hlE); obtain ⟨hcE23, hcE24, hcE26, hcE27, hcE31, hcE32, hzE, hlE⟩ := T1.f23_24_26_27_31_32 hs K32.rm; have HS := Lib.hid hs; clear hs) | (go_at_call 46; refine K32.ca (fun xw hs => ?_); (try simp only [emV_sets] at hs); refine (new_s (endW x) _ _ hs).mono ?_; clear hs; rintro e w1 ⟨sb2, rfl, hs⟩; (try clear hcE23 hcE24 hcE26 hcE27 hcE31 hcE32 hzE hlE); obtain ⟨hcE23, hcE24, hcE26, hcE27, hcE31, hcE32, hzE, hlE⟩ := T1.f23_24_26_27_31_32 hs K32.rm; have HS := Lib.hid hs; clear hs))
    (first | go_end0 | refine bodyPost_ret (results_none rfl _ _ _) rfl ?_)
    refine ⟨⟨km1, cm1, ko1, co1, sb2, rfl, ?_⟩⟩
    rw [HR.out]
    ((with_reducible apply K30.sep_end); exact K32.fnd; intro hs; (try simp only [emV_sets] at hs); exact hs.end6 K32.rm K32.rm K32.rm K32.rm K32.rm K32.rm K32.sub)
end Go.Proofs.YtnjgnbdebkckfaaGreatDoor.T26
namespace Go.Proofs.YtnjgnbdebkckfaaGreatDoor.T27
set_option maxRecDepth 100000
open Go.RowKit K1 K3 K5 K11 K12 K14 K20 K21 K22 K25 K30 K31 M0 C1 G1 G2 G3 G4 G5 G6 G7 G8 G9 G10 E3 E12 E14 E25 ME MF S3 S4 T1 T2 T3 T4 T5 T6 T7 T8 T9 T10 T11 T12 T13 T14 T15 T16 E2 E15 K7 K9 T17 T18 T19 T20 T21 T22 T23 T24 U1 U3 MP Y1 G11 T25 T26
attribute [local go_sem] cell_pastA froz_pastA
theorem size_ok {t : Te} (h : TeOk t) (x y : Int) : TeOk (sizeE t x y) := by
  have w1 := sizeG_w t.g x y
  have w2 := sizeG_w t.o x y
  have h1 := sizeG_h t.g x y
  have h2 := sizeG_h t.o x y
  have a1 : 2 ≤ endW x ∧ endW x ≤ 40 := by unfold endW; omega
  have a2 : 1 ≤ endH y ∧ endH y ≤ 20 := by unfold endH; omega
  have cw : ∀ g, (if t.m.alt = true then sizeG t.o x y else sizeG t.g x y) = g → g.w = endW x ∧ g.h = endH y := by
    intro g hg; subst hg; split
    · exact ⟨w2, h2⟩
    · exact ⟨w1, h1⟩
  obtain ⟨q1, q2⟩ := cw _ rfl
  have hx : (sizeE t x y).m.cu.x = min t.m.cu.x (endW x - 1) := by
    show min t.m.cu.x ((if t.m.alt = true then sizeG t.o x y else sizeG t.g x y).w - 1) = _
    rw [q1]
  have hy : (sizeE t x y).m.cu.y = min t.m.cu.y (endH y - 1) := by
    show min t.m.cu.y ((if t.m.alt = true then sizeG t.o x y else sizeG t.g x y).h - 1) = _
    rw [q2]
  have x0 := h.cu.x0; have x1 := h.cu.x1; have y0 := h.cu.y0; have y1 := h.cu.y1
  refine ⟨sizeK_ok t.g x y _, sizeK_ok t.o x y _, w2.trans w1.symm, h2.trans h1.symm, ?_, ?_, ?_, ⟨?_, ?_, ?_, ?_, h.cu.pen, h.cu.s0, h.cu.s1, h.cu.use⟩, h.kept, ?_, ?_, Int.le_refl _, ?_, ?_⟩
  · intro c hc; exact (size_mem t.g x y _ c hc).elim (h.gc c) (fun e => e ▸ blank_ok zero_ok)
  · intro c hc; exact (size_mem t.o x y _ c hc).elim (h.oc c) (fun e => e ▸ blank_ok zero_ok)
  · show ((S2.newC (endW x)).toNat : Int) = (sizeG t.g x y).w
    rw [w1]; unfold S2.newC; omega
  · rw [hx]; omega
  · rw [hx]; omega
  · rw [hy]; omega
  · rw [hy]; omega
  · rw [hx]; show _ < (sizeG t.g x y).w; omega
  · rw [hy]; show _ < (sizeG t.g x y).h; omega
  · show (0 : Int) < endH y; omega
  · show endH y ≤ (sizeG t.g x y).h; omega
theorem sizeT_ok {m : Tm} (h : TmOk m) (x y : Int) : TmOk (sizeT m x y) := ⟨size_ok h.t x y, h.p⟩
theorem size_cg (t : Te) (x y : Int) : (sizeE t x y).cg = if t.m.alt = true then sizeG t.o x y else sizeG t.g x y := rfl
theorem size_og (t : Te) (x y : Int) : (sizeE t x y).og = if t.m.alt = true then sizeG t.g x y else sizeG t.o x y := rfl
theorem perm_two (A B C D E F : Res) (R : List Res) : (A :: B :: C :: D :: E :: F :: R).Perm (A :: D :: E :: B :: C :: F :: R) :=
  List.Perm.cons A (by simpa using List.perm_append_comm_assoc [B, C] [D, E] (F :: R))
theorem sizeL {w : World} {L LA F : List Res} {b : Nat} {m : Tm} (x y : Int) (hs : Sep w L) (hA : TmL b m LA) (ok : TmOk m) (h2 : RmL L LA F := by (repeat (first | (with_reducible exact RmL.here) | (with_reducible apply RmL.past) | (with_reducible apply RmL.there)))) :
    Calls Tryz.prog 39 #[.pointer (some ⟨b, 0, none⟩), .int .i64 x, .int .i64 y] w fun e w' => ∃ LA', e = .returned (.tuple #[]) ∧ TmL b (sizeT m x y) LA' ∧ Sep w' (LA' ++ F) := by
  obtain ⟨pb, o, iv, nv, tv, sb, cb, gb, gc, xb, hb, hc, pm, po, e1, e2, hs⟩ := tml_at hs hA h2
  have hcg := size_cg m.t x y
  have hog := size_og m.t x y
  cases ha : m.t.m.alt
  · rw [ha] at e1 e2 hcg hog
    have e1 : pm = some ⟨cb, 0, none⟩ := e1
    have e2 : po = some ⟨xb, 0, none⟩ := e2
    have hcg : (sizeE m.t x y).cg = sizeG m.t.g x y := hcg
    have hog : (sizeE m.t x y).og = sizeG m.t.o x y := hog
    subst e1 e2
    have k1 : m.t.cg = m.t.g := by unfold Te.cg; rw [ha]; rfl
    have k2 : m.t.og = m.t.o := by unfold Te.og; rw [ha]; rfl
    unfold teL at hs
    rw [k1, k2] at hs
    refine (size_b b cb gb gc xb hb hc sb (.pointer (some ⟨pb, 0, none⟩)) m.t x y _ w hs ok.t _ _ rfl rfl).mono ?_
    rintro e w' ⟨⟨km1, cm1, ko1, co1, sb2, rfl, hs'⟩⟩
    rw [← hcg, ← hog] at hs'
    have ht : TmAt b (sizeT m x y) F w' := ⟨⟨pb, o, iv, nv, tv, ⟨⟨sb2, cb, km1, cm1, xb, ko1, co1, some ⟨cb, 0, none⟩, some ⟨xb, 0, none⟩, (show (if m.t.m.alt = true then _ else _) = _ by rw [ha]; rfl), (show (if m.t.m.alt = true then _ else _) = _ by rw [ha]; rfl), hs'⟩⟩⟩⟩
    obtain ⟨LA', h3, h4⟩ := tm_open ht
    exact ⟨LA', rfl, h3, h4⟩
  · rw [ha] at e1 e2 hcg hog
    have e1 : po = some ⟨cb, 0, none⟩ := e1
    have e2 : pm = some ⟨xb, 0, none⟩ := e2
    have hcg : (sizeE m.t x y).cg = sizeG m.t.o x y := hcg
    have hog : (sizeE m.t x y).og = sizeG m.t.g x y := hog
    subst e1 e2
    have k1 : m.t.cg = m.t.o := by unfold Te.cg; rw [ha]; rfl
    have k2 : m.t.og = m.t.g := by unfold Te.og; rw [ha]; rfl
    unfold teL at hs
    rw [k1, k2] at hs
    refine (size_b b xb hb hc cb gb gc sb (.pointer (some ⟨pb, 0, none⟩)) m.t x y _ w (hs.perm (perm_two _ _ _ _ _ _ _)) ok.t _ _ rfl rfl).mono ?_
    rintro e w' ⟨⟨km1, cm1, ko1, co1, sb2, rfl, hs'⟩⟩
    rw [← hcg, ← hog] at hs'
    have ht : TmAt b (sizeT m x y) F w' := ⟨⟨pb, o, iv, nv, tv, ⟨⟨sb2, cb, ko1, co1, xb, km1, cm1, some ⟨xb, 0, none⟩, some ⟨cb, 0, none⟩, (show (if m.t.m.alt = true then _ else _) = _ by rw [ha]; rfl), (show (if m.t.m.alt = true then _ else _) = _ by rw [ha]; rfl), hs'.perm (perm_two _ _ _ _ _ _ _)⟩⟩⟩⟩
    obtain ⟨LA', h3, h4⟩ := tm_open ht
    exact ⟨LA', rfl, h3, h4⟩
end Go.Proofs.YtnjgnbdebkckfaaGreatDoor.T27
namespace Go.Proofs.YtnjgnbdebkckfaaGreatDoor.T28
set_option maxRecDepth 100000
open Go.RowKit K1 K3 K5 K11 K12 K14 K20 K21 K22 K25 K30 K31 M0 C1 G1 G2 G3 G4 G5 G6 G7 G8 G9 G10 E3 E12 E14 E25 ME MF S3 S4 T1 T2 T3 T4 T5 T6 T7 T8 T9 T10 T11 T12 T13 T14 T15 T16 E2 E15 K7 K9 T17 T18 T19 T20 T21 T22 T23 U1 U3 MP Y1 T25
attribute [local go_sem] cell_pastA froz_pastA
theorem calls_atB {P : Program} {f : FuncId} {args : Array Value} {Q : Ending → World → Prop} {w w0 : World} {B : Nat} {L : List Res} (hb : Below B w0 w) (h : Sep w L) (k : ∀ x, Below B w0 x → Sep x L → Calls P f args x Q) : Calls P f args w Q := k w hb h
theorem wp_atB {P : Program} {c : Code} {Q : Exit → Act → World → Prop} {a : Act} {w w0 : World} {B : Nat} {L : List Res} (hb : Below B w0 w) (h : Sep w L) (k : ∀ x, Below B w0 x → Sep x L → c.wp P Q a x) : c.wp P Q a w := k w hb h
theorem own_mono {w : World} {B B' : Nat} {t : TypeId} {s n : Nat} {v : Value} {xs : List Value} (h : w.ownsRow B t s v n xs) (hB : B' ≤ B) : w.ownsRow B' t s v n xs := by
  obtain ⟨h1, h2⟩ := h
  refine ⟨h1, h2.imp id ?_⟩
  rintro ⟨g, c, cur, e1, e2, e3⟩
  exact ⟨g, c, cur, e1, Nat.le_trans hB e2, e3⟩
theorem own_end {w : World} {L L' : List Res} {B g n c s : Nat} {t : TypeId} {xs : List Value} (h : Sep w L) (hr : Rm L (.row (.slice (some ⟨g, 0, none⟩) n c) t s n xs) L') (hg : B ≤ g) : w.ownsRow B t s (.slice (some ⟨g, 0, none⟩) n c) n xs := by
  obtain ⟨h1, h2⟩ := h.hereRow hr
  refine ⟨h1, h2.imp id ?_⟩
  rintro ⟨g', c', cur, e1, e2, e3⟩
  simp only [Value.slice.injEq, Option.some.injEq, Addr.mk.injEq, and_true, true_and] at e1
  obtain ⟨rfl, rfl⟩ := e1
  exact ⟨g, c, cur, rfl, hg, e3⟩
theorem own_ge {w : World} {B g n c s : Nat} {t : TypeId} {xs : List Value} (h : w.ownsRow B t s (.slice (some ⟨g, 0, none⟩) n c) n xs) : B ≤ g := by
  rcases h.2 with ⟨e, _⟩ | ⟨g', c', cur, e1, e2, e3⟩
  · cases e
  · simp only [Value.slice.injEq, Option.some.injEq, Addr.mk.injEq, and_true, true_and] at e1
    obtain ⟨rfl, rfl⟩ := e1
    exact e2
structure ScQ (m : Tm) (w : World) (e : Ending) (w' : World) : Prop where
  out : ∃ p : Nat × Nat, e = .returned (scrV m.t p.1 p.2) ∧ Below w.heap.size w w' ∧ w'.ownsRow w.heap.size 58 6 (.slice (some ⟨p.1, 0, none⟩) m.t.cg.c.length p.2) m.t.cg.c.length (m.t.cg.c.flatMap ceV)
set_option maxHeartbeats 4000000 in
theorem screen_q (b : Nat) (m : Tm) (F : List Res) (w : World) (h : TmAt b m F w) (ok : TmOk m) : Calls Tryz.prog 34 #[.pointer (some ⟨b, 0, none⟩)] w (ScQ m w) := by
  have HB := Lib.hid (Below.refl w.heap.size w)
  obtain ⟨pb, o, iv, nv, tv, sb, cb, gb, gc, xb, hb, hc, pm, po, h1, h2, h3⟩ := h
  obtain ⟨g, hg⟩ := main_some h1 h2
  have hs : Sep w (.blk b (emQ m.t.m (.pointer (some ⟨pb, 0, none⟩)) pm po (.pointer (some ⟨sb, 0, none⟩)) (.slice none 0 0)) 108 :: gL cb gb gc m.t.cg (gL xb hb hc m.t.og (.blk sb (scells m.t.s) 126 :: pL pb o 102 m.p iv nv tv F))) := h3
  obtain ⟨hcE, hzE, hlE⟩ := hs.here (b := b) K32.rm
  have hcE23 := (hcE 23).trans (emV_23 ..); have hcE25 := (hcE 25).trans (emV_25 ..); have hcE0 := (hcE 0).trans (emV_0 ..); have hcE1 := (hcE 1).trans (emV_1 ..); have hcE30 := (hcE 30).trans (emV_30 ..); have hcE26 := (hcE 26).trans (emV_26 ..); have hcE27 := (hcE 27).trans (emV_27 ..)
  have HG := Lib.hid hg
  have HS := Lib.hid hs
  have H1 := Lib.hid h1
  have H2 := Lib.hid h2
  have OK := Lib.hid ok
  clear hs h1 h2 h3 hg ok hcE
  go_enter Tryz.func34, Tryz.ntmps34
  go_wp2_with (first | (go_at_call 48; (with_reducible apply calls_atB (B := w.heap.size) (w0 := w)); (focus ((first | (with_reducible exact HB.out) | (with_reducible refine Below.alloc HB.out (Nat.le_refl _) _)); done)); exact K32.fnd; intro xw hB hs; (try simp only [emV_sets] at hs); (try clear hcE hzE hlE); (try clear hcW hzW hlW); obtain ⟨hcE, hzE, hlE⟩ := hs.here (b := b) K32.rm; obtain ⟨hcW, hzW, hlW⟩ := hs.here (b := w.heap.size) K32.rm; (try clear hcE23 hcE25 hcE0 hcE1 hcE30); have hcE23 := (hcE 23).trans (emV_23 ..); have hcE25 := (hcE 25).trans (emV_25 ..); have hcE0 := (hcE 0).trans (emV_0 ..); have hcE1 := (hcE 1).trans (emV_1 ..); have hcE30 := (hcE 30).trans (emV_30 ..); clear hcE; (try clear hcW0 hcW1 hcW2 hcW3 hcW4 hcW5); have hcW0 := hcW 0; have hcW1 := hcW 1; have hcW2 := hcW 2; have hcW3 := hcW 3; have hcW4 := hcW 4; have hcW5 := hcW 5; clear hcW; simp only [List.getElem?_cons_zero, List.getElem?_cons_succ] at hcW0 hcW1 hcW2 hcW3 hcW4 hcW5; (try clear hlt); obtain ⟨hc', hlt⟩ := gL_hc (hs.pick2 (r1 := .blk cb (gcells m.t.cg gb gc) 121) (r2 := .row (.slice (some ⟨gb, 0, none⟩) m.t.cg.c.length gc) 58 6 m.t.cg.c.length (m.t.cg.c.flatMap ceV)) K32.rm K32.rm); have HC := Lib.hid hc'; clear hc'; have hcE23g := hcE23; rw [HG.out] at hcE23g; have hC := (none_any b none g xw hcE23g); (with_reducible refine hC.mono ?_); clear hC hcE23g; rintro e w1 ⟨rfl, hb⟩; have hB2 := hB.trans (hb.mono hB.size); clear HB hB; have HB := Lib.hid hB2; clear hB2; have hs := hs.below hb; clear hb; (try clear hcE hzE hlE); (try clear hcW hzW hlW); obtain ⟨hcE, hzE, hlE⟩ := hs.here (b := b) K32.rm; obtain ⟨hcW, hzW, hlW⟩ := hs.here (b := w.heap.size) K32.rm; (try clear hcE23 hcE25 hcE0 hcE1 hcE30); have hcE23 := (hcE 23).trans (emV_23 ..); have hcE25 := (hcE 25).trans (emV_25 ..); have hcE0 := (hcE 0).trans (emV_0 ..); have hcE1 := (hcE 1).trans (emV_1 ..); have hcE30 := (hcE 30).trans (emV_30 ..); clear hcE; (try clear hcW0 hcW1 hcW2 hcW3 hcW4 hcW5); have hcW0 := hcW 0; have hcW1 := hcW 1; have hcW2 := hcW 2; have hcW3 := hcW 3; have hcW4 := hcW 4; have hcW5 := hcW 5; clear hcW; simp only [List.getElem?_cons_zero, List.getElem?_cons_succ] at hcW0 hcW1 hcW2 hcW3 hcW4 hcW5; (try clear hlt); obtain ⟨hc', hlt⟩ := gL_hc (hs.pick2 (r1 := .blk cb (gcells m.t.cg gb gc) 121) (r2 := .row (.slice (some ⟨gb, 0, none⟩) m.t.cg.c.length gc) 58 6 m.t.cg.c.length (m.t.cg.c.flatMap ceV)) K32.rm K32.rm); have HC := Lib.hid hc'; clear hc'; have HS := Lib.hid hs; clear hs) | (go_at_call 51; (with_reducible apply calls_atB (B := w.heap.size) (w0 := w)); (focus ((first | (with_reducible exact HB.out) | (with_reducible refine Below.alloc HB.out (Nat.le_refl _) _)); done)); exact K32.fnd; intro xw hB hs; (try simp only [emV_sets] at hs); (try clear hcE hzE hlE); (try clear hcW hzW hlW); obtain ⟨hcE, hzE, hlE⟩ := hs.here (b := b) K32.rm; obtain ⟨hcW, hzW, hlW⟩ := hs.here (b := w.heap.size) K32.rm; (try clear hcE23 hcE25 hcE0 hcE1 hcE30); have hcE23 := (hcE 23).trans (emV_23 ..); have hcE25 := (hcE 25).trans (emV_25 ..); have hcE0 := (hcE 0).trans (emV_0 ..); have hcE1 := (hcE 1).trans (emV_1 ..); have hcE30 := (hcE 30).trans (emV_30 ..); clear hcE; (try clear hcW0 hcW1 hcW2 hcW3 hcW4 hcW5); have hcW0 := hcW 0; have hcW1 := hcW 1; have hcW2 := hcW 2; have hcW3 := hcW 3; have hcW4 := hcW 4; have hcW5 := hcW 5; clear hcW; simp only [List.getElem?_cons_zero, List.getElem?_cons_succ] at hcW0 hcW1 hcW2 hcW3 hcW4 hcW5; (try clear hlt); obtain ⟨hc', hlt⟩ := gL_hc (hs.pick2 (r1 := .blk cb (gcells m.t.cg gb gc) 121) (r2 := .row (.slice (some ⟨gb, 0, none⟩) m.t.cg.c.length gc) 58 6 m.t.cg.c.length (m.t.cg.c.flatMap ceV)) K32.rm K32.rm); have HC := Lib.hid hc'; clear hc'; have hC := (grid_c b _ m.t.m.alt pm po (some ⟨cb, 0, none⟩) xw (EmAt.of hs K32.rm) (by rfl) (by rfl) (by rfl) H1.out); (with_reducible refine hC.mono ?_); clear hC; rintro e w1 ⟨rfl, hb⟩; have hB2 := hB.trans (hb.mono hB.size); clear HB hB; have HB := Lib.hid hB2; clear hB2; have hs := hs.below hb; clear hb; (try clear hcE hzE hlE); (try clear hcW hzW hlW); obtain ⟨hcE, hzE, hlE⟩ := hs.here (b := b) K32.rm; obtain ⟨hcW, hzW, hlW⟩ := hs.here (b := w.heap.size) K32.rm; (try clear hcE23 hcE25 hcE0 hcE1 hcE30); have hcE23 := (hcE 23).trans (emV_23 ..); have hcE25 := (hcE 25).trans (emV_25 ..); have hcE0 := (hcE 0).trans (emV_0 ..); have hcE1 := (hcE 1).trans (emV_1 ..); have hcE30 := (hcE 30).trans (emV_30 ..); clear hcE; (try clear hcW0 hcW1 hcW2 hcW3 hcW4 hcW5); have hcW0 := hcW 0; have hcW1 := hcW 1; have hcW2 := hcW 2; have hcW3 := hcW 3; have hcW4 := hcW 4; have hcW5 := hcW 5; clear hcW; simp only [List.getElem?_cons_zero, List.getElem?_cons_succ] at hcW0 hcW1 hcW2 hcW3 hcW4 hcW5; (try clear hlt); obtain ⟨hc', hlt⟩ := gL_hc (hs.pick2 (r1 := .blk cb (gcells m.t.cg gb gc) 121) (r2 := .row (.slice (some ⟨gb, 0, none⟩) m.t.cg.c.length gc) 58 6 m.t.cg.c.length (m.t.cg.c.flatMap ceV)) K32.rm K32.rm); have HC := Lib.hid hc'; clear hc'; have HS := Lib.hid hs; clear hs) | (refine K30.atR (id := 4) ?_; (with_reducible apply wp_atB (B := w.heap.size) (w0 := w)); (focus ((first | (with_reducible exact HB.out) | (with_reducible refine Below.alloc HB.out (Nat.le_refl _) _)); done)); exact K32.fnd; intro xw hB hs; (try simp only [emV_sets] at hs); (try clear hcE hzE hlE); (try clear hcW hzW hlW); obtain ⟨hcE, hzE, hlE⟩ := hs.here (b := b) K32.rm; obtain ⟨hcW, hzW, hlW⟩ := hs.here (b := w.heap.size) K32.rm; (try clear hcE23 hcE25 hcE0 hcE1 hcE30); have hcE23 := (hcE 23).trans (emV_23 ..); have hcE25 := (hcE 25).trans (emV_25 ..); have hcE0 := (hcE 0).trans (emV_0 ..); have hcE1 := (hcE 1).trans (emV_1 ..); have hcE30 := (hcE 30).trans (emV_30 ..); clear hcE; (try clear hcW0 hcW1 hcW2 hcW3 hcW4 hcW5); have hcW0 := hcW 0; have hcW1 := hcW 1; have hcW2 := hcW 2; have hcW3 := hcW 3; have hcW4 := hcW 4; have hcW5 := hcW 5; clear hcW; simp only [List.getElem?_cons_zero, List.getElem?_cons_succ] at hcW0 hcW1 hcW2 hcW3 hcW4 hcW5; (try clear hlt); obtain ⟨hc', hlt⟩ := gL_hc (hs.pick2 (r1 := .blk cb (gcells m.t.cg gb gc) 121) (r2 := .row (.slice (some ⟨gb, 0, none⟩) m.t.cg.c.length gc) 58 6 m.t.cg.c.length (m.t.cg.c.flatMap ceV)) K32.rm K32.rm); have HC := Lib.hid hc'; clear hc'; have HS := Lib.hid hs; clear hs; refine K32.reg0 (w := xw) [5] [] 21 ?_; simp only [numbered, List.take_succ_cons, List.take_zero, List.drop_succ_cons, List.drop_zero, List.take_nil, List.drop_nil, Nat.reduceAdd]; (iterate 5 (refine K32.zc ?_; apply Exists.intro; refine ⟨fun bs hok wx hwx hL => ?_, ?_⟩; (focus ((have hwx : Below _ _ wx := hwx; have hcx := cellA hwx; have hfx := frozA hwx; have hzx := hwx.size; (try simp at hzx)); unfold zAt; (try simp [go_sem, K32.ev, ↓IntWalk.iteOmega, *]); (try simp (disch := omega) only [K32.unw]); (try simp only [zUpon]); (first | (refine ⟨rfl, ?_⟩; go_at_call 47; refine (G1.W_any cb gb gc m.t.cg wx ((GrAt.of HS.out K32.rm).low hwx)).mono ?_; rintro e wy ⟨rfl, hby⟩; exact ⟨_, rfl, rfl, hby⟩) | (refine ⟨rfl, ?_⟩; go_at_call 45; refine (G1.H_any cb gb gc m.t.cg wx ((GrAt.of HS.out K32.rm).low hwx)).mono ?_; rintro e wy ⟨rfl, hby⟩; exact ⟨_, rfl, rfl, hby⟩) | exact ⟨rfl, Below.refl _ _⟩))); (try go_simp))); (refine wz_any (fun p : Nat × Nat => .slice (some ⟨p.1, 0, none⟩) m.t.cg.c.length p.2) (fun p w => w.ownsRow xw.heap.size 58 6 (.slice (some ⟨p.1, 0, none⟩) m.t.cg.c.length p.2) m.t.cg.c.length (m.t.cg.c.flatMap ceV)) (0, 0) (by decide) (by decide) ?_ (by intro x y h; simp at h; (try obtain ⟨x1, x2⟩ := x); (try obtain ⟨y1, y2⟩ := y); simp_all) (fun p => own_fr0) ?_ ?_; (focus (first | rfl | (go_simp; done))); (focus (intro bs hok wx hwx hL; (have hwx : Below _ _ wx := hwx; have hcx := cellA hwx; have hfx := frozA hwx; have hzx := hwx.size; (try simp at hzx)); unfold zAt; (try simp [go_sem, K32.ev, ↓IntWalk.iteOmega, *]); (try simp only [zUpon]); refine ⟨rfl, ?_⟩; go_at_call 53; refine (cells_q xw.heap.size cb gb gc m.t.cg wx hwx.size ((GrAt.of HS.out K32.rm).low hwx) OK.out.t.cg (fun j v hj => (World.cell?_of_block (hwx.block gb hlt)).trans (HC.out j v hj)) (Nat.lt_of_lt_of_le hlt hwx.size)).mono ?_; rintro e wy ⟨⟨p, rfl, hby, hown⟩⟩; first | exact ⟨_, rfl, p, rfl, hwx.trans (hby.mono (by first | exact hwx.size | (simp at hzx ⊢; omega))), Fr.of_below hby, hown⟩ | exact ⟨_, rfl, p.1, p.2, rfl, hwx.trans (hby.mono (by first | exact hwx.size | (simp at hzx ⊢; omega))), Fr.of_below hby, hown⟩)); intro p5 F5 hF5; (try go_simp)); (iterate 15 (refine K32.zc ?_; apply Exists.intro; refine ⟨fun bs hok wx hwx hL => ?_, ?_⟩; (focus ((have hwx : Below _ _ wx := hwx; have hcx := cellA hwx; have hfx := frozA hwx; have hzx := hwx.size; (try simp at hzx)); unfold zAt; (try simp [go_sem, K32.ev, ↓IntWalk.iteOmega, *]); (try simp (disch := omega) only [K32.unw]); (try simp only [zUpon]); (first | (refine ⟨rfl, ?_⟩; go_at_call 47; refine (G1.W_any cb gb gc m.t.cg wx ((GrAt.of HS.out K32.rm).low hwx)).mono ?_; rintro e wy ⟨rfl, hby⟩; exact ⟨_, rfl, rfl, hby⟩) | (refine ⟨rfl, ?_⟩; go_at_call 45; refine (G1.H_any cb gb gc m.t.cg wx ((GrAt.of HS.out K32.rm).low hwx)).mono ?_; rintro e wy ⟨rfl, hby⟩; exact ⟨_, rfl, rfl, hby⟩) | exact ⟨rfl, Below.refl _ _⟩))); (try go_simp))); refine wz_nil ?_; intro wq hbq hLq; have hA5 := Lib.hid (hF5 _ (hLq.get 5 (by simp))); clear hLq hF5; have hcwq := cellA hbq; have hfwq := frozA hbq; have hzwq := hbq.size; (try simp at hzwq); have hB2 := hB.trans (hbq.mono hB.size); clear HB; have HB := Lib.hid hB2; clear hB2; have hown := own_mono hA5.out hB.size; have HO := Lib.hid hown; clear hown hB; have hs := HS.out.addRow hbq hA5.out; (try clear hcE hzE hlE); (try clear hcW hzW hlW); obtain ⟨hcE, hzE, hlE⟩ := hs.here (b := b) K32.rm; obtain ⟨hcW, hzW, hlW⟩ := hs.here (b := w.heap.size) K32.rm; (try clear hcE23 hcE25 hcE0 hcE1 hcE30); have hcE23 := (hcE 23).trans (emV_23 ..); have hcE25 := (hcE 25).trans (emV_25 ..); have hcE0 := (hcE 0).trans (emV_0 ..); have hcE1 := (hcE 1).trans (emV_1 ..); have hcE30 := (hcE 30).trans (emV_30 ..); clear hcE; (try clear hcW0 hcW1 hcW2 hcW3 hcW4 hcW5); have hcW0 := hcW 0; have hcW1 := hcW 1; have hcW2 := hcW 2; have hcW3 := hcW 3; have hcW4 := hcW 4; have hcW5 := hcW 5; clear hcW; simp only [List.getElem?_cons_zero, List.getElem?_cons_succ] at hcW0 hcW1 hcW2 hcW3 hcW4 hcW5; (try clear hlt); obtain ⟨hc', hlt⟩ := gL_hc (hs.pick2 (r1 := .blk cb (gcells m.t.cg gb gc) 121) (r2 := .row (.slice (some ⟨gb, 0, none⟩) m.t.cg.c.length gc) 58 6 m.t.cg.c.length (m.t.cg.c.flatMap ceV)) K32.rm K32.rm); have HC := Lib.hid hc'; clear hc'; have HS := Lib.hid hs; clear hs hbq hA5 hcwq hfwq))
  refine bodyPost_ret (v := scrV m.t p5.1 p5.2) (by simp [results, Tryz.results34, go_sem, scrV, ↓IntWalk.iteOmega, *]) rfl ⟨⟨p5, rfl, ?_, ?_⟩⟩
  · (repeat' (first | (with_reducible exact HB.out) | (with_reducible apply Below.setCell) | exact Nat.le_refl _))
  · (with_reducible apply own_end)
    exact K32.fnd
    (repeat (first | exact K30.Rm.here | apply K30.Rm.there))
    exact own_ge HO.out
end Go.Proofs.YtnjgnbdebkckfaaGreatDoor.T28
namespace Go.Proofs.YtnjgnbdebkckfaaGreatDoor.X6
set_option maxRecDepth 100000
open Go.RowKit K1 K3 K5 K11 K12 K14 K20 K21 K22 K25 K30 K31 M0 M0 ME MF T21 T22 T23 T24 MP Y0 Y1 Y2 G10 X4 Y3 T25 T26 T27 T28
attribute [local go_sem] cell_pastA froz_pastA
structure ScV (B : Nat) (V : Nat → Nat → Value) (n : Nat) (xs : List Value) (w : World) (e : Ending) (w' : World) : Prop where
  out : ∃ p : Nat × Nat, e = .returned (V p.1 p.2) ∧ Below w.heap.size w w' ∧ w'.ownsRow B 58 6 (.slice (some ⟨p.1, 0, none⟩) n p.2) n xs
theorem scr_c {b : Nat} {m : Tm} {LA L F : List Res} {w : World} (B : Nat) (V : Nat → Nat → Value) (hs : Sep w L) (hA : TmL b m LA) (ok : TmOk m) (hV : ∀ k c, scrV m.t k c = V k c) (hB : B ≤ w.heap.size) (h2 : RmL L LA F := by (repeat (first | (with_reducible exact RmL.here) | (with_reducible apply RmL.past) | (with_reducible apply RmL.there)))) :
    Calls Tryz.prog 34 #[.pointer (some ⟨b, 0, none⟩)] w (ScV B V m.t.cg.c.length (m.t.cg.c.flatMap ceV) w) := by
  refine (screen_q b m F w (tml_at hs hA h2) ok).mono ?_
  rintro e w' ⟨⟨p, rfl, hb, ho⟩⟩
  exact ⟨⟨p, by rw [hV], hb, own_mono ho hB⟩⟩
theorem hd_one (t : Te) (p : Pg) (g : Gd p) (v : Bool) : ∃ m1, feedT ⟨t, p⟩ [27, 91, 63, 50, 53, if v = true then 108 else 104] = ([], m1) ∧ m1.p = G0 ∧ m1.t.m.hidden = v := by
  cases v
  · refine ⟨_, feedT_of (m := ⟨t, p⟩) (fd_app p [27] [91, 63, 50, 53, 104] (A := []) (B := [⟨4, 0, 104, 63, [25], [], []⟩]) (q := E1) (r := G0) (fd_one _ _ (st_esc g)) (by kernel_rfl)), rfl, rfl⟩
  · refine ⟨_, feedT_of (m := ⟨t, p⟩) (fd_app p [27] [91, 63, 50, 53, 108] (A := []) (B := [⟨4, 0, 108, 63, [25], [], []⟩]) (q := E1) (r := G0) (fd_one _ _ (st_esc g)) (by kernel_rfl)), rfl, rfl⟩
theorem hd_two (t : Te) (p : Pg) (g : Gd p) (s : List UInt8) (hs : ∀ c ∈ s, c ≠ 27) : ∃ m1, feedT ⟨t, p⟩ (s ++ [24]) = ([], m1) ∧ m1.p = G0 ∧ Kp t m1.t := by
  obtain ⟨h1, h2⟩ := fd_ground s g.s hs
  obtain ⟨h3, h4⟩ := st_can (feedP p s).2 (fun h => absurd h1 h)
  have hf : feedP p (s ++ [24]) = ((feedP p s).1 ++ (stepP (feedP p s).2 24).1, G0) := by
    rw [feed_app, fd_one _ _ (A := (stepP (feedP p s).2 24).1) (q := G0) (by rw [← h3])]
  obtain ⟨k1, k2⟩ := kp_acts ((feedP p s).1 ++ (stepP (feedP p s).2 24).1) t (fun a ha => (List.mem_append.1 ha).elim (h2 a) (h4 a))
  refine ⟨⟨(actsE t ((feedP p s).1 ++ (stepP (feedP p s).2 24).1)).2, G0⟩, ?_, rfl, k1⟩
  rw [feedT_of (m := ⟨t, p⟩) hf]
  simp only [k2]
theorem no_next {s : ByteArray} {j : Nat} (h : ∀ k, k < j → s.data.toList[k]? ≠ some 27) (hlt : j < s.size) (hc : (((s[j]).toNat : Int) == 27) = false) : ∀ k, k < j + 1 → s.data.toList[k]? ≠ some 27 := by
  intro k hk e
  by_cases hkj : k < j
  · exact h k hkj e
  · obtain rfl : k = j := by omega
    have e2 : s.data.toList[k]? = some s[k] := by
      have : s[k] = s.data[k] := rfl
      rw [this, Array.getElem?_toList, Array.getElem?_eq_getElem]
    rw [e2] at e
    have e3 : s[k] = 27 := Option.some.inj e
    rw [e3] at hc
    exact absurd hc (by decide)
theorem no_all {s : ByteArray} (h : ∀ k, k < s.size → s.data.toList[k]? ≠ some 27) : ∀ c ∈ s.data.toList, c ≠ 27 := by
  intro c hc e
  subst e
  obtain ⟨k, hk⟩ := List.getElem?_of_mem hc
  exact h k (by have := (List.getElem?_eq_some_iff.1 hk).1; simpa using this) hk
structure HdI (b : Nat) (W : World) (n : Nat) (i : Value) (wr : World) : Prop where
  out : ∃ (j : Nat) (m : Tm) (LA : List Res), j ≤ n ∧ i = .int .i64 j ∧ Gd m.p ∧ TmOk m ∧ TmL b m LA ∧ Sep wr (LA ++ [.low W.heap.size W])
structure HdS (s : ByteArray) (W : World) (i : Value) (wr : World) : Prop where
  out : ∃ j : Nat, j ≤ s.size ∧ i = .int .i64 j ∧ (∀ k, k < j → s.data.toList[k]? ≠ some 27) ∧ Sep wr [.low W.heap.size W]
set_option maxHeartbeats 4000000 in
theorem hides_any (w h : Int) (s : ByteArray) (ao : Option Addr) (sb off n cap : Nat) (L : Nat → Bool) (W : World) (hao : ao = some ⟨sb, off, none⟩ ∨ n = 0) (hn : n ≤ 20) (hsz : s.size ≤ 200)
    (hc : ∀ k, k < n → W.cell? ⟨sb, off + k, none⟩ = some (.bool (L k))) (hsb : 0 < n → sb < W.heap.size) : Calls Tryz.prog 18 #[.int .i64 w, .int .i64 h, .string s, .slice ao n cap] W fun e w' => e = .returned (.bool true) ∧ Below W.heap.size W w' := by
  have HS := Lib.hid (Sep.start W)
  have HC := Lib.hid hc
  have HSB := Lib.hid hsb
  have HAO := Lib.hid hao
  clear hc hsb hao
  go_enter Tryz.func18, Tryz.ntmps18
  go_wp2_with (first | (go_at_call 21; refine K32.ca (fun xw hs => ?_); clear HS; (with_reducible refine (alive_any _).mono ?_); rintro e w1 ⟨rfl, hb⟩; replace hs := hs.below hb; clear hb; have HS := Lib.hid hs; clear hs))
  go_loopw [9] (fun i wr => HdS s W i wr) (fun i _ => s.size - (intOf i).toNat)
  case atStart => exact ⟨⟨0, Nat.zero_le _, rfl, fun k hk => absurd hk (by omega), HS.out⟩⟩
  case round =>
    clear HS
    obtain ⟨⟨j, hj, rfl, h27, hs⟩⟩ := hrel
    have HS := Lib.hid hs
    have H27 := Lib.hid h27
    clear hs h27
    by_cases hlt : j < s.size
    · obtain ⟨cv, hcv⟩ : ∃ cv, (((s[j]).toNat : Int) == 27) = cv := ⟨_, rfl⟩
      cases cv
      · go_wp2_with fail
        go_roundw
        case rel => exact ⟨⟨j + 1, by omega, by go_num, no_next H27.out hlt hcv, HS.out⟩⟩
        case measure => simp [intOf]; omega
      · go_wp2_with fail
        go_ret
        exact ⟨rfl, HS.out.hereLow (B := W.heap.size) (w0 := W) rma⟩
    · obtain rfl : j = s.size := by omega
      have hno := no_all H27.out
      have HNO := Lib.hid hno
      clear H27 hno
      go_wp2_with (first | (go_at_call 22; refine K32.ca (fun xw hs => ?_); clear HS; (with_reducible refine (newL w h hs).mono ?_); rintro e w1 ⟨b, LA, rfl, hl, hs⟩; have HLA := Lib.hid hl; clear hl; have HS := Lib.hid hs; clear hs))
      go_loopw [11] (fun i wr => HdI b W n i wr) (fun i _ => n - (intOf i).toNat)
      case atStart => exact ⟨⟨0, newT w h, LA, Nat.zero_le _, rfl, gd0, newT_ok w h, HLA.out, HS.out⟩⟩
      case round =>
        clear HS HLA
        obtain ⟨⟨j, m, LA, hj, rfl, hg, ok, hA, hs⟩⟩ := hrel
        by_cases hlt : j < n
        · rcases HAO.out with rfl | h0
          rotate_left
          · omega
          have hsb' := HSB.out (by omega)
          have HCJ := Lib.hid (HC.out j hlt)
          (try clear hcl hsx); have hlow := hs.hereLow (B := W.heap.size) (w0 := W) rma; have hcl := (World.cell?_of_block (hlow.block sb hsb')).trans HCJ.out; have hsx := Nat.lt_of_lt_of_le hsb' hlow.size; clear hlow
          have HS := Lib.hid hs
          have HLA := Lib.hid hA
          obtain ⟨m1, f1, g1, v1⟩ := hd_one m.t m.p hg (L j)
          obtain ⟨m2, f2, g2, v2⟩ := hd_two m1.t m1.p (g1 ▸ gdG) s.data.toList HNO.out
          obtain ⟨X, hX⟩ : ∃ X, X = wrap64 (w + j) := ⟨_, rfl⟩
          obtain ⟨m3, hm3⟩ : ∃ m3, m3 = sizeT m2 X h := ⟨_, rfl⟩
          have OK := Lib.hid ok
          have ok1 : TmOk m1 := by have := feedT_ok ok [27, 91, 63, 50, 53, if L j = true then 108 else 104]; rw [show m = ⟨m.t, m.p⟩ from rfl, f1] at this; exact this
          have ok2 : TmOk m2 := by have := feedT_ok ok1 (s.data.toList ++ [24]); rw [show m1 = ⟨m1.t, m1.p⟩ from rfl, f2] at this; exact this
          have OK1 := Lib.hid ok1
          have OK2 := Lib.hid ok2
          have OK3 := Lib.hid (show TmOk m3 from hm3 ▸ sizeT_ok ok2 X h)
          have HG3 := Lib.hid (show Gd m3.p from by rw [hm3]; show Gd m2.p; rw [g2]; exact gdG)
          have HV := Lib.hid (show ∀ k c, scrV m3.t k c = .agg #[.int .i64 m3.t.cg.w, .int .i64 m3.t.cg.h, .slice (some ⟨k, 0, none⟩) m3.t.cg.c.length c, .int .i64 m3.t.m.cu.x, .int .i64 m3.t.m.cu.y, .bool (L j)] from fun k c => by unfold scrV; rw [show m3.t.m.hidden = L j from by rw [hm3]; exact v2.hid.trans v1])
          have HF1 := Lib.hid f1
          have HF2 := Lib.hid f2
          have HM3 := Lib.hid hm3
          have HX := Lib.hid hX
          clear hs hA hg ok ok1 ok2 f1 f2 g1 g2 v1 v2 hm3 hX HAO
          cases hL : L j
          · rw [hL] at hcl
            have HF1 := Lib.hid (show feedT m [27, 91, 63, 50, 53, 104] = ([], m1) from by have := HF1.out; rw [hL] at this; exact this)
            have HV := Lib.hid (show ∀ k c, scrV m3.t k c = .agg #[.int .i64 m3.t.cg.w, .int .i64 m3.t.cg.h, .slice (some ⟨k, 0, none⟩) m3.t.cg.c.length c, .int .i64 m3.t.m.cu.x, .int .i64 m3.t.m.cu.y, .bool false] from fun k c => (HV.out k c).trans (by rw [hL]))
            have HCJ := Lib.hid (HCJ.out.trans (by rw [hL]))
            clear hL
            go_wp2_with (first | (go_at_call 24; refine K32.ca (fun xw hs => ?_); clear HS; have hC := feedL [⟨#[27, 91, 63, 50, 53, 104]⟩] [27, 91, 63, 50, 53, 104] hs HLA.out OK.out HF1.out rfl (by simp) rfl; refine hC.mono ?_; clear hC; rintro e w1 ⟨LA, rfl, hl, hs⟩; clear HLA; have HLA := Lib.hid hl; clear hl; have HS := Lib.hid hs; clear hs) | (go_at_call 24; refine K32.ca (fun xw hs => ?_); clear HS; have hC := feedL [s, ⟨#[24]⟩] (s.data.toList ++ [24]) hs HLA.out OK1.out HF2.out rfl (by simp; omega) rfl; refine hC.mono ?_; clear hC; rintro e w1 ⟨LA, rfl, hl, hs⟩; clear HLA; have HLA := Lib.hid hl; clear hl; have HS := Lib.hid hs; clear hs) | (go_at_call 39; refine K32.ca (fun xw hs => ?_); clear HS; refine (sizeL _ _ hs HLA.out OK2.out).mono ?_; rintro e w1 ⟨LA, rfl, hl, hs⟩; rw [← HX.out, ← HM3.out] at hl; clear HLA; have HLA := Lib.hid hl; clear hl; have HS := Lib.hid hs; clear hs) | (refine K32.atW 19 (fun xw hs => ?_); (try clear hcl hsx); have hlow := hs.hereLow (B := W.heap.size) (w0 := W) rma; have hcl := (World.cell?_of_block (hlow.block sb hsb')).trans HCJ.out; have hsx := Nat.lt_of_lt_of_le hsb' hlow.size; clear hlow; have HS := Lib.hid hs; clear hs; refine K32.reg0 (w := xw) [1] [] 8 ?_; simp only [numbered, List.take_succ_cons, List.take_zero, List.drop_succ_cons, List.drop_zero, List.take_nil, List.drop_nil, Nat.reduceAdd]; (refine K32.zd ?_; (try go_simp)); (refine wz_any (fun p : Nat × Nat => .agg #[.int .i64 m3.t.cg.w, .int .i64 m3.t.cg.h, .slice (some ⟨p.1, 0, none⟩) m3.t.cg.c.length p.2, .int .i64 m3.t.m.cu.x, .int .i64 m3.t.m.cu.y, .bool false]) (fun p w => w.ownsRow xw.heap.size 58 6 (.slice (some ⟨p.1, 0, none⟩) m3.t.cg.c.length p.2) m3.t.cg.c.length (m3.t.cg.c.flatMap ceV)) (0, 0) (by decide) (by decide) ?_ (by intro x y h; simp at h; (try obtain ⟨x1, x2⟩ := x); (try obtain ⟨y1, y2⟩ := y); simp_all) (fun p => own_fr0) ?_ ?_; (focus (first | rfl | (go_simp; done))); (focus (intro bs hok wx hwx hL; (have hwx : Below _ _ wx := hwx; have hcx := cellA hwx; have hfx := frozA hwx; have hzx := hwx.size; (try simp at hzx)); unfold zAt; (try simp [go_sem, K32.ev, ↓IntWalk.iteOmega, *]); (try simp only [zUpon]); refine ⟨rfl, ?_⟩; go_at_call 34; refine (scr_c xw.heap.size (fun k c => .agg #[.int .i64 m3.t.cg.w, .int .i64 m3.t.cg.h, .slice (some ⟨k, 0, none⟩) m3.t.cg.c.length c, .int .i64 m3.t.m.cu.x, .int .i64 m3.t.m.cu.y, .bool false]) (HS.out.below hwx) HLA.out OK3.out HV.out hwx.size).mono ?_; rintro e wy ⟨⟨p, rfl, hby, hown⟩⟩; first | exact ⟨_, rfl, p, rfl, hwx.trans (hby.mono (by first | exact hwx.size | (simp at hzx ⊢; omega))), Fr.of_below hby, hown⟩ | exact ⟨_, rfl, p.1, p.2, rfl, hwx.trans (hby.mono (by first | exact hwx.size | (simp at hzx ⊢; omega))), Fr.of_below hby, hown⟩)); intro p1 F1 hF1; (try go_simp)); (iterate 6 (refine K32.zd ?_; (try go_simp))); refine wz_nil ?_; intro wq hbq hLq; have hA1 := Lib.hid (hF1 _ (hLq.get 1 (by simp))); clear hLq hF1; have hcwq := cellA hbq; have hfwq := frozA hbq; have hzwq := hbq.size; (try simp at hzwq); have hs := HS.out.below hbq; have HS := Lib.hid hs; clear hs hbq hA1 hcwq hfwq))
            go_roundw
            case rel => exact ⟨⟨j + 1, m3, LA, by omega, by go_num, HG3.out, OK3.out, HLA.out, se⟩⟩
            case measure => simp [intOf]; omega
          · rw [hL] at hcl
            have HF1 := Lib.hid (show feedT m [27, 91, 63, 50, 53, 108] = ([], m1) from by have := HF1.out; rw [hL] at this; exact this)
            have HV := Lib.hid (show ∀ k c, scrV m3.t k c = .agg #[.int .i64 m3.t.cg.w, .int .i64 m3.t.cg.h, .slice (some ⟨k, 0, none⟩) m3.t.cg.c.length c, .int .i64 m3.t.m.cu.x, .int .i64 m3.t.m.cu.y, .bool true] from fun k c => (HV.out k c).trans (by rw [hL]))
            have HCJ := Lib.hid (HCJ.out.trans (by rw [hL]))
            clear hL
            go_wp2_with (first | (go_at_call 24; refine K32.ca (fun xw hs => ?_); clear HS; have hC := feedL [⟨#[27, 91, 63, 50, 53, 108]⟩] [27, 91, 63, 50, 53, 108] hs HLA.out OK.out HF1.out rfl (by simp) rfl; refine hC.mono ?_; clear hC; rintro e w1 ⟨LA, rfl, hl, hs⟩; clear HLA; have HLA := Lib.hid hl; clear hl; have HS := Lib.hid hs; clear hs) | (go_at_call 24; refine K32.ca (fun xw hs => ?_); clear HS; have hC := feedL [s, ⟨#[24]⟩] (s.data.toList ++ [24]) hs HLA.out OK1.out HF2.out rfl (by simp; omega) rfl; refine hC.mono ?_; clear hC; rintro e w1 ⟨LA, rfl, hl, hs⟩; clear HLA; have HLA := Lib.hid hl; clear hl; have HS := Lib.hid hs; clear hs) | (go_at_call 39; refine K32.ca (fun xw hs => ?_); clear HS; refine (sizeL _ _ hs HLA.out OK2.out).mono ?_; rintro e w1 ⟨LA, rfl, hl, hs⟩; rw [← HX.out, ← HM3.out] at hl; clear HLA; have HLA := Lib.hid hl; clear hl; have HS := Lib.hid hs; clear hs) | (refine K32.atW 19 (fun xw hs => ?_); (try clear hcl hsx); have hlow := hs.hereLow (B := W.heap.size) (w0 := W) rma; have hcl := (World.cell?_of_block (hlow.block sb hsb')).trans HCJ.out; have hsx := Nat.lt_of_lt_of_le hsb' hlow.size; clear hlow; have HS := Lib.hid hs; clear hs; refine K32.reg0 (w := xw) [1] [] 8 ?_; simp only [numbered, List.take_succ_cons, List.take_zero, List.drop_succ_cons, List.drop_zero, List.take_nil, List.drop_nil, Nat.reduceAdd]; (refine K32.zd ?_; (try go_simp)); (refine wz_any (fun p : Nat × Nat => .agg #[.int .i64 m3.t.cg.w, .int .i64 m3.t.cg.h, .slice (some ⟨p.1, 0, none⟩) m3.t.cg.c.length p.2, .int .i64 m3.t.m.cu.x, .int .i64 m3.t.m.cu.y, .bool true]) (fun p w => w.ownsRow xw.heap.size 58 6 (.slice (some ⟨p.1, 0, none⟩) m3.t.cg.c.length p.2) m3.t.cg.c.length (m3.t.cg.c.flatMap ceV)) (0, 0) (by decide) (by decide) ?_ (by intro x y h; simp at h; (try obtain ⟨x1, x2⟩ := x); (try obtain ⟨y1, y2⟩ := y); simp_all) (fun p => own_fr0) ?_ ?_; (focus (first | rfl | (go_simp; done))); (focus (intro bs hok wx hwx hL; (have hwx : Below _ _ wx := hwx; have hcx := cellA hwx; have hfx := frozA hwx; have hzx := hwx.size; (try simp at hzx)); unfold zAt; (try simp [go_sem, K32.ev, ↓IntWalk.iteOmega, *]); (try simp only [zUpon]); refine ⟨rfl, ?_⟩; go_at_call 34; refine (scr_c xw.heap.size (fun k c => .agg #[.int .i64 m3.t.cg.w, .int .i64 m3.t.cg.h, .slice (some ⟨k, 0, none⟩) m3.t.cg.c.length c, .int .i64 m3.t.m.cu.x, .int .i64 m3.t.m.cu.y, .bool true]) (HS.out.below hwx) HLA.out OK3.out HV.out hwx.size).mono ?_; rintro e wy ⟨⟨p, rfl, hby, hown⟩⟩; first | exact ⟨_, rfl, p, rfl, hwx.trans (hby.mono (by first | exact hwx.size | (simp at hzx ⊢; omega))), Fr.of_below hby, hown⟩ | exact ⟨_, rfl, p.1, p.2, rfl, hwx.trans (hby.mono (by first | exact hwx.size | (simp at hzx ⊢; omega))), Fr.of_below hby, hown⟩)); intro p1 F1 hF1; (try go_simp)); (iterate 6 (refine K32.zd ?_; (try go_simp))); refine wz_nil ?_; intro wq hbq hLq; have hA1 := Lib.hid (hF1 _ (hLq.get 1 (by simp))); clear hLq hF1; have hcwq := cellA hbq; have hfwq := frozA hbq; have hzwq := hbq.size; (try simp at hzwq); have hs := HS.out.below hbq; have HS := Lib.hid hs; clear hs hbq hA1 hcwq hfwq))
            go_roundw
            case rel => exact ⟨⟨j + 1, m3, LA, by omega, by go_num, HG3.out, OK3.out, HLA.out, se⟩⟩
            case measure => simp [intOf]; omega
        · have HS := Lib.hid hs
          have hje : j = n := by omega
          clear hA hs ok hg HAO
          go_wp2_with fail
          go_ret
          exact ⟨rfl, HS.out.hereLow (B := W.heap.size) (w0 := W) rma⟩
theorem hides_long (w h : Int) (s : ByteArray) (ao : Option Addr) (n cap : Nat) (W : World) (hb : 200 < s.size ∨ (s.size ≤ 200 ∧ 20 < n)) (hn : n ≤ 9223372036854775807) (hs : s.size ≤ 9223372036854775807) : Calls Tryz.prog 18 #[.int .i64 w, .int .i64 h, .string s, .slice ao n cap] W fun e w' => e = .returned (.bool true) ∧ Below W.heap.size W w' := by
  have HS := Lib.hid (Sep.start W)
  rcases hb with hb | ⟨hb, hb2⟩
  all_goals
    go_enter Tryz.func18, Tryz.ntmps18
    go_wp2_with (first | (go_at_call 21; refine K32.ca (fun xw hs => ?_); clear HS; (with_reducible refine (alive_any _).mono ?_); rintro e w1 ⟨rfl, hb⟩; replace hs := hs.below hb; clear hb; have HS := Lib.hid hs; clear hs))
    go_ret
    exact ⟨rfl, HS.out.hereLow (B := W.heap.size) (w0 := W) rma⟩
theorem law_any (w h : Int) (s : ByteArray) (ao : Option Addr) (sb off n cap : Nat) (L : Nat → Bool) (W : World) (hao : ao = some ⟨sb, off, none⟩ ∨ n = 0) (hn : n ≤ 9223372036854775807) (hs : s.size ≤ 9223372036854775807)
    (hc : ∀ k, k < n → W.cell? ⟨sb, off + k, none⟩ = some (.bool (L k))) (hsb : 0 < n → sb < W.heap.size) : Calls Tryz.prog 18 #[.int .i64 w, .int .i64 h, .string s, .slice ao n cap] W fun e w' => e = .returned (.bool true) ∧ Below W.heap.size W w' := by
  by_cases h1 : 200 < s.size ∨ (s.size ≤ 200 ∧ 20 < n)
  · exact hides_long w h s ao n cap W h1 hn hs
  · exact hides_any w h s ao sb off n cap L W hao (by omega) (by omega) hc hsb
end Go.Proofs.YtnjgnbdebkckfaaGreatDoor.X6
