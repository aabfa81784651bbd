/- EmuWraps: what the law's function does, and that its answer is true. Conditions: none. -/
import Derived.Test.YtnjgnbdebkckfaaGreatDoorA34
import Derived.Test.YtnjgnbdebkckfaaGreatDoorA33
import Derived.Lib.Hide
import Derived.Test.YtnjgnbdebkckfaaGreatDoorA21
import Derived.Test.YtnjgnbdebkckfaaGreatDoorA2
import Derived.Test.YtnjgnbdebkckfaaGreatDoorA5
import Derived.Test.YtnjgnbdebkckfaaGreatDoorA32
import Derived.Test.YtnjgnbdebkckfaaGreatDoorA11
set_option linter.unusedVariables false
set_option linter.unusedSimpArgs false
set_option linter.unnecessarySimpa false
namespace Go.Proofs.YtnjgnbdebkckfaaGreatDoor.X4
set_option maxRecDepth 100000
open Go.RowKit K1 K3 K5 K11 K12 K14 K20 K21 K22 K25 K30 K31 M0 M0 ME MF T21 T22 T23 T24 MP Y0 Y1 Y2
attribute [local go_sem] cell_pastA froz_pastA
theorem feedT_of {m : Tm} {q : List UInt8} {A : List Ac} {p : Pg} (h : feedP m.p q = (A, p)) : feedT m q = ((actsE m.t A).1, ⟨(actsE m.t A).2, p⟩) := by
  unfold feedT
  rw [h]
def goTo (t : Te) (x y : Int) : Te := ((t.setY y).setX x).setLate false
/-- the cursor is sent to a place, origin off -/
theorem act_goto (t : Te) (y x : Int) (ho : t.m.cu.origin = false) : actE1 t ⟨4, 0, 72, 0, [y, x], [], []⟩ = goTo t (min (max x 1 - 1) (t.cg.w - 1)) (min (max y 1 - 1) (t.cg.h - 1)) := by
  show (columnE (rowE t (max y 1 - 1)) (max x 1 - 1)).setLate false = _
  unfold rowE
  rw [if_neg (by rw [ho]; decide)]
  rfl
theorem acts2 (t : Te) (a b : Ac) : actsE t [a, b] = (actR t a ++ (actR (actE1 t a) b ++ []), actE1 (actE1 t a) b) := rfl
theorem act_6 (t : Te) : actE1 t ⟨4, 0, 110, 0, [6], [], []⟩ = t := by simp [actE1, csiE, moveE, editE, stateE]
def Q1 (y x : Int) : List UInt8 := [27, 91] ++ (digF y ++ ([59] ++ (digF x ++ [72, 27, 91, 54, 110])))
def Q2 : List UInt8 := [27, 91, 53, 110, 27, 91, 99, 27, 91, 48, 99, 27, 91, 49, 99]
theorem p_one {p : Pg} (g : Gd p) (y x : Int) (hy : 0 ≤ y) (hy2 : y ≤ 9999) (hx : 0 ≤ x) (hx2 : x ≤ 9999) : feedP p (Q1 y x) = ([⟨4, 0, 72, 0, [y, x], [], []⟩, ⟨4, 0, 110, 0, [6], [], []⟩], G0) := by
  obtain ⟨n, rfl⟩ := Int.eq_ofNat_of_zero_le hy
  obtain ⟨k, rfl⟩ := Int.eq_ofNat_of_zero_le hx
  have e : Q1 n k = ([27, 91] ++ (digF n ++ ([59] ++ (digF k ++ [72])))) ++ [27, 91, 54, 110] := by simp [Q1]
  rw [e]
  exact fd_app p _ _ (csi2 g n k (by omega) (by omega) 72 (by decide) (by decide)) (by kernel_rfl)
theorem report_6 (t : Te) (ho : t.m.cu.origin = false) : actR t ⟨4, 0, 110, 0, [6], [], []⟩ = [27, 91] ++ digF (t.m.cu.y + 1) ++ [59] ++ digF (t.m.cu.x + 1) ++ [82] := by
  show [27, 91] ++ digF (repY t + 1) ++ [59] ++ digF (t.m.cu.x + 1) ++ [82] = _
  unfold repY
  rw [if_neg (by rw [ho]; decide)]
theorem one (w h y x : Int) (hy : 0 ≤ y) (hy2 : y ≤ 9999) (hx : 0 ≤ x) (hx2 : x ≤ 9999) :
    feedT (newT w h) (Q1 y x) = ([27, 91] ++ digF (min (max y 1) (endH h)) ++ [59] ++ digF (min (max x 1) (endW w)) ++ [82], ⟨goTo (newE w h) (min (max x 1) (endW w) - 1) (min (max y 1) (endH h) - 1), G0⟩) := by
  rw [feedT_of (p_one gd0 y x hy hy2 hx hx2)]
  rw [acts2]
  have a0 : actR (newT w h).t ⟨4, 0, 72, 0, [y, x], [], []⟩ = [] := by simp [actR, csiR, stateR]
  rw [a0]
  rw [show (newT w h).t = newE w h from rfl, act_goto _ _ _ rfl, act_6]
  have e1 : min (max y 1 - 1) ((newE w h).cg.h - 1) = min (max y 1) (endH h) - 1 := by show min (max y 1 - 1) (endH h - 1) = _; omega
  have e2 : min (max x 1 - 1) ((newE w h).cg.w - 1) = min (max x 1) (endW w) - 1 := by show min (max x 1 - 1) (endW w - 1) = _; omega
  rw [e1, e2, report_6 _ rfl]
  have e3 : (goTo (newE w h) (min (max x 1) (endW w) - 1) (min (max y 1) (endH h) - 1)).m.cu.y + 1 = min (max y 1) (endH h) := by show min (max y 1) (endH h) - 1 + 1 = _; omega
  have e4 : (goTo (newE w h) (min (max x 1) (endW w) - 1) (min (max y 1) (endH h) - 1)).m.cu.x + 1 = min (max x 1) (endW w) := by show min (max x 1) (endW w) - 1 + 1 = _; omega
  rw [e3, e4, List.nil_append, List.append_nil]
theorem two (t : Te) : feedT ⟨t, G0⟩ Q2 = ([27, 91, 48, 110, 27, 91, 63, 49, 59, 50, 99, 27, 91, 63, 49, 59, 50, 99], ⟨t, G0⟩) := by
  rw [feedT_of (m := ⟨t, G0⟩) (A := [⟨4, 0, 110, 0, [5], [], []⟩, ⟨4, 0, 99, 0, [], [], []⟩, ⟨4, 0, 99, 0, [0], [], []⟩, ⟨4, 0, 99, 0, [1], [], []⟩]) (p := G0) (by kernel_rfl)]
  rfl
theorem cat5 (a b : List UInt8) : (⟨([27, 91] ++ a ++ [59] ++ b ++ [82]).toArray⟩ : ByteArray) = ⟨#[27, 91]⟩ ++ ⟨a.toArray⟩ ++ ⟨#[59]⟩ ++ ⟨b.toArray⟩ ++ ⟨#[82]⟩ := by
  apply ByteArray.ext
  simp
theorem dig_size {D : ByteArray} {n : Int} (h : D = ⟨(digF n).toArray⟩) : D.size ≤ 20 := by
  subst h
  exact digN_len 20 n.toNat
set_option maxHeartbeats 4000000 in
theorem law_any (w h x y : Int) (W : World) : Calls Tryz.prog 8 #[.int .i64 w, .int .i64 h, .int .i64 x, .int .i64 y] W fun e w' => e = .returned (.bool true) ∧ Below W.heap.size W w' := by
  have HS := Lib.hid (Sep.start W)
  obtain ⟨D1, hD1⟩ : ∃ D, D = (⟨(digF (min (max y 0) 9999)).toArray⟩ : ByteArray) := ⟨_, rfl⟩
  obtain ⟨D2, hD2⟩ : ∃ D, D = (⟨(digF (min (max x 0) 9999)).toArray⟩ : ByteArray) := ⟨_, rfl⟩
  obtain ⟨E1, hE1⟩ : ∃ D, D = (⟨(digF (min (max (min (max y 0) 9999) 1) (endH h))).toArray⟩ : ByteArray) := ⟨_, rfl⟩
  obtain ⟨E2, hE2⟩ : ∃ D, D = (⟨(digF (min (max (min (max x 0) 9999) 1) (endW w))).toArray⟩ : ByteArray) := ⟨_, rfl⟩
  obtain ⟨m1, hm1⟩ : ∃ m, m = (⟨goTo (newE w h) ((min (max (min (max x 0) 9999) 1) (endW w)) - 1) ((min (max (min (max y 0) 9999) 1) (endH h)) - 1), G0⟩ : Tm) := ⟨_, rfl⟩
  have HF1 := Lib.hid (show feedT (newT w h) (Q1 (min (max y 0) 9999) (min (max x 0) 9999)) = (_, m1) from (one w h (min (max y 0) 9999) (min (max x 0) 9999) (by omega) (by omega) (by omega) (by omega)).trans (by rw [hm1]))
  have HF2 := Lib.hid (show feedT m1 Q2 = (_, m1) from by rw [hm1]; exact two _)
  have OK0 := Lib.hid (newT_ok w h)
  have OK1 := Lib.hid (show TmOk m1 from (show (feedT (newT w h) (Q1 (min (max y 0) 9999) (min (max x 0) 9999))).2 = m1 by rw [HF1.out]) ▸ feedT_ok (newT_ok w h) _)
  have HQ1 := Lib.hid (show ([⟨#[27, 91]⟩, D1, ⟨#[59]⟩, D2, ⟨#[72, 27, 91, 54, 110]⟩] : List ByteArray).flatMap (fun s => s.data.toList) = Q1 (min (max y 0) 9999) (min (max x 0) 9999) from by rw [hD1, hD2]; rfl)
  have HL1 := Lib.hid (show (Q1 (min (max y 0) 9999) (min (max x 0) 9999)).length ≤ 10000 from by have h1 := digN_len 20 (min (max y 0) 9999).toNat; have h2 := digN_len 20 (min (max x 0) 9999).toNat; simp only [Q1, List.length_append]; show 2 + ((digN 20 (min (max y 0) 9999).toNat).length + (1 + ((digN 20 (min (max x 0) 9999).toNat).length + 5))) ≤ _; omega)
  have HZ1 := Lib.hid (show (⟨#[27, 91]⟩ ++ E1 ++ ⟨#[59]⟩ ++ E2 ++ ⟨#[82]⟩ : ByteArray) = ⟨([27, 91] ++ digF (min (max (min (max y 0) 9999) 1) (endH h)) ++ [59] ++ digF (min (max (min (max x 0) 9999) 1) (endW w)) ++ [82]).toArray⟩ from by rw [cat5, hE1, hE2])
  have HX := Lib.hid (show m1.t.m.cu.x = (min (max (min (max x 0) 9999) 1) (endW w)) - 1 from by rw [hm1]; rfl)
  have HY := Lib.hid (show m1.t.m.cu.y = (min (max (min (max y 0) 9999) 1) (endH h)) - 1 from by rw [hm1]; rfl)
  have HD1 := Lib.hid hD1
  have HD2 := Lib.hid hD2
  have HE1 := Lib.hid hE1
  have HE2 := Lib.hid hE2
  have hw2 : 2 ≤ endW w := by unfold endW; omega
  have hw4 : endW w ≤ 40 := by unfold endW; omega
  have hh1 : 1 ≤ endH h := by unfold endH; omega
  have hh2 : endH h ≤ 20 := by unfold endH; omega
  have hs1 := dig_size hE1
  have hs2 := dig_size hE2
  clear hD1 hD2 hE1 hE2 hm1
  go_enter Tryz.func8, Tryz.ntmps8
  go_wp2_with (first | (go_at_call 21; refine K32.ca (fun xw hs => ?_); clear HS; (with_reducible refine (alive_any _).mono ?_); rintro e w1 ⟨rfl, hb⟩; replace hs := hs.below hb; clear hb; have HS := Lib.hid hs; clear hs) | (go_at_call 22; refine K32.ca (fun xw hs => ?_); clear HS; (with_reducible refine (newL w h hs).mono ?_); rintro e w1 ⟨b, LA, rfl, hl, hs⟩; have HLA := Lib.hid hl; clear hl; have HS := Lib.hid hs; clear hs) | (go_at_call 23; refine (ends_any _ _ _).mono ?_; rintro e w1 ⟨rfl, rfl⟩) | (go_at_call 27; refine K32.ca (fun xw hs => ?_); clear HS; (with_reducible refine (digits_i (min (max y 0) 9999) D1 HD1.out (by omega) (by omega)).mono ?_); rintro e w1 ⟨rfl, hb⟩; replace hs := hs.below hb; clear hb; have HS := Lib.hid hs; clear hs) | (go_at_call 27; refine K32.ca (fun xw hs => ?_); clear HS; (with_reducible refine (digits_i (min (max x 0) 9999) D2 HD2.out (by omega) (by omega)).mono ?_); rintro e w1 ⟨rfl, hb⟩; replace hs := hs.below hb; clear hb; have HS := Lib.hid hs; clear hs) | (go_at_call 27; refine K32.ca (fun xw hs => ?_); clear HS; (with_reducible refine (digits_i (min (max (min (max y 0) 9999) 1) (endH h)) E1 HE1.out (by omega) (by omega)).mono ?_); rintro e w1 ⟨rfl, hb⟩; replace hs := hs.below hb; clear hb; (try clear hcS hzS hlS); (try obtain ⟨hcS, hzS, hlS⟩ := hs.here (t := 47) rma); have HS := Lib.hid hs; clear hs) | (go_at_call 27; refine K32.ca (fun xw hs => ?_); clear HS; (with_reducible refine (digits_i (min (max (min (max x 0) 9999) 1) (endW w)) E2 HE2.out (by omega) (by omega)).mono ?_); rintro e w1 ⟨rfl, hb⟩; replace hs := hs.below hb; clear hb; (try clear hcS hzS hlS); (try obtain ⟨hcS, hzS, hlS⟩ := hs.here (t := 47) rma); have HS := Lib.hid hs; clear hs) | (go_at_call 24; refine K32.ca (fun xw hs => ?_); clear HS; have hC := feedL [⟨#[27, 91]⟩, D1, ⟨#[59]⟩, D2, ⟨#[72, 27, 91, 54, 110]⟩] (Q1 (min (max y 0) 9999) (min (max x 0) 9999)) hs HLA.out OK0.out HF1.out HQ1.out HL1.out HZ1.out; refine hC.mono ?_; clear hC; rintro e w1 ⟨LA, rfl, hl, hs⟩; clear HLA; have HLA := Lib.hid hl; clear hl; have HS := Lib.hid hs; clear hs) | (go_at_call 34; refine K32.ca (fun xw hs => ?_); clear HS; have hC := screenL (fun k c => .agg #[.int .i64 m1.t.cg.w, .int .i64 m1.t.cg.h, .slice (some ⟨k, 0, none⟩) m1.t.cg.c.length c, .int .i64 ((min (max (min (max x 0) 9999) 1) (endW w)) - 1), .int .i64 ((min (max (min (max y 0) 9999) 1) (endH h)) - 1), .bool m1.t.m.hidden]) hs HLA.out OK1.out (fun k c => by unfold scrV; rw [HX.out, HY.out]); refine hC.mono ?_; clear hC; rintro e w1 ⟨k, c, LA, rfl, hl, hs⟩; clear HLA; have HLA := Lib.hid hl; clear hl; have HS := Lib.hid hs; clear hs) | (go_at_call 24; refine K32.ca (fun xw hs => ?_); clear HS; have hC := feedL [⟨#[27, 91, 53, 110, 27, 91, 99, 27, 91, 48, 99, 27, 91, 49, 99]⟩] Q2 hs HLA.out OK1.out HF2.out rfl (by decide) rfl; refine hC.mono ?_; clear hC; rintro e w1 ⟨LA, rfl, hl, hs⟩; clear HLA; have HLA := Lib.hid hl; clear hl; have HS := Lib.hid hs; clear hs))
  go_ret
  exact ⟨rfl, HS.out.hereLow (B := W.heap.size) (w0 := W) rma⟩
end Go.Proofs.YtnjgnbdebkckfaaGreatDoor.X4
namespace Go.Proofs.YtnjgnbdebkckfaaGreatDoor.Y3
open Go.RowKit M0 ME MF MP Y0 Y2 T2 T8
/-- what is not cell, place or late -/
structure Kp (t u : Te) : Prop where
  kept : u.m.kept = t.m.kept
  alt : u.m.alt = t.m.alt
  top : u.m.top = t.m.top
  bot : u.m.bottom = t.m.bottom
  wrap : u.m.wrap = t.m.wrap
  ins : u.m.ins = t.m.ins
  hid : u.m.hidden = t.m.hidden
  pen : u.m.cu.pen = t.m.cu.pen
  ori : u.m.cu.origin = t.m.cu.origin
  s0 : u.m.cu.s0 = t.m.cu.s0
  s1 : u.m.cu.s1 = t.m.cu.s1
  s : u.s = t.s
  g : t.m.alt = true → u.g = t.g
  o : t.m.alt = false → u.o = t.o
theorem Kp.refl (t : Te) : Kp t t := ⟨rfl, rfl, rfl, rfl, rfl, rfl, rfl, rfl, rfl, rfl, rfl, rfl, fun _ => rfl, fun _ => rfl⟩
theorem Kp.trans {t u v : Te} (a : Kp t u) (b : Kp u v) : Kp t v := ⟨b.kept.trans a.kept, b.alt.trans a.alt, b.top.trans a.top, b.bot.trans a.bot, b.wrap.trans a.wrap, b.ins.trans a.ins, b.hid.trans a.hid, b.pen.trans a.pen, b.ori.trans a.ori, b.s0.trans a.s0, b.s1.trans a.s1, b.s.trans a.s, fun h => (b.g (a.alt.trans h)).trans (a.g h), fun h => (b.o (a.alt.trans h)).trans (a.o h)⟩
theorem kp_cg (t : Te) (g : Gr) : Kp t (t.setCg g) := by
  cases ha : t.m.alt
  · have e : t.setCg g = { t with g := g } := by unfold Te.setCg; rw [ha]; rfl
    rw [e]
    exact ⟨rfl, rfl, rfl, rfl, rfl, rfl, rfl, rfl, rfl, rfl, rfl, rfl, fun h => absurd (ha.symm.trans h) (by decide), fun _ => rfl⟩
  · have e : t.setCg g = { t with o := g } := by unfold Te.setCg; rw [ha]; rfl
    rw [e]
    exact ⟨rfl, rfl, rfl, rfl, rfl, rfl, rfl, rfl, rfl, rfl, rfl, rfl, fun _ => rfl, fun h => absurd (ha.symm.trans h) (by decide)⟩
theorem kp_x (t : Te) (x : Int) : Kp t (t.setX x) := ⟨rfl, rfl, rfl, rfl, rfl, rfl, rfl, rfl, rfl, rfl, rfl, rfl, fun _ => rfl, fun _ => rfl⟩
theorem kp_y (t : Te) (x : Int) : Kp t (t.setY x) := ⟨rfl, rfl, rfl, rfl, rfl, rfl, rfl, rfl, rfl, rfl, rfl, rfl, fun _ => rfl, fun _ => rfl⟩
theorem kp_l (t : Te) (x : Bool) : Kp t (t.setLate x) := ⟨rfl, rfl, rfl, rfl, rfl, rfl, rfl, rfl, rfl, rfl, rfl, rfl, fun _ => rfl, fun _ => rfl⟩
theorem kp_index (t : Te) : Kp t (indexE t) := by
  unfold indexE
  split
  · exact kp_cg _ _
  · split
    · exact kp_y _ _
    · exact Kp.refl _
theorem kp_print (t : Te) (r : Int) : Kp t (printE t r) := by
  have h1 : Kp t (wrapE t) := by
    unfold wrapE
    split
    · exact (kp_x _ _).trans (kp_index _)
    · exact Kp.refl _
  have h2 : Kp (wrapE t) (insE (wrapE t)) := by
    unfold insE
    split
    · exact kp_cg _ _
    · exact Kp.refl _
  have h3 : ∀ u : Te, Kp u (lastE u) := fun u => by
    unfold lastE
    split
    · exact kp_l _ _
    · exact (kp_l _ _).trans (kp_x _ _)
  exact ((h1.trans h2).trans (kp_cg _ _)).trans (h3 _)
theorem kp_control (t : Te) (b : Int) : Kp t (controlE t b) := by
  unfold controlE
  repeat' split
  · exact (kp_l _ _).trans (kp_x _ _)
  · exact (kp_l _ _).trans (kp_x _ _)
  · exact (kp_l _ _).trans (kp_index _)
  · exact (kp_l _ _).trans (kp_x _ _)
  · exact ⟨rfl, rfl, rfl, rfl, rfl, rfl, rfl, rfl, rfl, rfl, rfl, rfl, fun _ => rfl, fun _ => rfl⟩
  · exact ⟨rfl, rfl, rfl, rfl, rfl, rfl, rfl, rfl, rfl, rfl, rfl, rfl, fun _ => rfl, fun _ => rfl⟩
  · exact Kp.refl _
/-- acts that print, or are a byte below 32 -/
def Sm (a : Ac) : Prop := a.kind = 1 ∨ a.kind = 2
theorem kp_act (t : Te) {a : Ac} (h : Sm a) : Kp t (actE1 t a) ∧ actR t a = [] := by
  unfold actE1 actR
  rcases h with h | h
  · rw [if_pos h, if_neg (by rw [h]; decide)]
    exact ⟨kp_print _ _, rfl⟩
  · rw [if_neg (by rw [h]; decide), if_pos h, if_neg (by rw [h]; decide)]
    exact ⟨kp_control _ _, rfl⟩
theorem kp_acts : ∀ (l : List Ac) (t : Te), (∀ a ∈ l, Sm a) → Kp t (actsE t l).2 ∧ (actsE t l).1 = []
  | [], t, _ => ⟨Kp.refl _, rfl⟩
  | a :: l, t, h => by
    obtain ⟨h1, h2⟩ := kp_act t (h a (by simp))
    obtain ⟨h3, h4⟩ := kp_acts l (actE1 t a) (fun x hx => h x (by simp [hx]))
    refine ⟨h1.trans h3, ?_⟩
    show actR t a ++ (actsE (actE1 t a) l).1 = []
    rw [h2, h4]
    rfl
theorem sm_print (l : List Int) : ∀ a ∈ l.map acPrint, Sm a := by
  intro a ha
  obtain ⟨x, _, rfl⟩ := List.mem_map.1 ha
  exact .inl rfl
/-- a byte that is not 27, on the ground -/
theorem st_ground {p : Pg} (h : p.state = 0) (c : UInt8) (hc : c ≠ 27) : (stepP p c).2.state = 0 ∧ ∀ a ∈ (stepP p c).1, Sm a := by
  have ha : (aheadP p c).2.state = 0 ∧ ∀ a ∈ (aheadP p c).1, Sm a := by
    unfold aheadP
    split
    · exact ⟨h, sm_print _⟩
    · exact ⟨h, fun a ha => by cases ha⟩
  have hb : ∀ q : Pg, q.state = 0 → (bodyP q c).2.state = 0 ∧ ∀ a ∈ (bodyP q c).1, Sm a := by
    intro q hq
    unfold bodyP
    by_cases h24 : c = 24 ∨ c = 26
    · rw [if_pos h24]
      exact ⟨rfl, fun a ha => by cases ha⟩
    · rw [if_neg h24]
      rw [if_neg hc]
      have hw : whatF q c = 2 ∨ whatF q c = 1 ∨ whatF q c = 0 := by
        unfold whatF
        rw [hq]
        have h6 := class_lt c
        have : ∀ k : Fin 6, tableL.getD (0 * 6 + k.1) 0 = 2 ∨ tableL.getD (0 * 6 + k.1) 0 = 1 ∨ tableL.getD (0 * 6 + k.1) 0 = 0 := by decide
        exact this ⟨classF c, h6⟩
      rw [if_neg (show ¬ whatF q c = 9 by omega)]
      unfold actP
      rcases hw with hw | hw | hw
      · rw [hw, if_neg (by decide), if_pos rfl]
        exact ⟨hq, fun a ha => by rw [List.mem_singleton] at ha; subst ha; exact .inr rfl⟩
      · rw [hw, if_pos rfl]
        exact ⟨hq, sm_print _⟩
      · rw [hw]
        exact ⟨hq, fun a ha => by cases ha⟩
  obtain ⟨h1, h2⟩ := hb _ ha.1
  exact ⟨h1, fun a h => (List.mem_append.1 h).elim (ha.2 a) (h2 a)⟩
theorem fd_ground : ∀ (l : List UInt8) {p : Pg}, p.state = 0 → (∀ c ∈ l, c ≠ 27) → (feedP p l).2.state = 0 ∧ ∀ a ∈ (feedP p l).1, Sm a
  | [], p, h, _ => ⟨h, fun a ha => by cases ha⟩
  | c :: l, p, h, hc => by
    obtain ⟨h1, h2⟩ := st_ground h c (hc c (by simp))
    obtain ⟨h3, h4⟩ := fd_ground l h1 (fun x hx => hc x (by simp [hx]))
    exact ⟨h3, fun a ha => (List.mem_append.1 ha).elim (h2 a) (h4 a)⟩
/-- 24 ends whatever there is -/
theorem st_can (p : Pg) (hg : p.state ≠ 0 → p.half = []) : (stepP p 24).2 = G0 ∧ ∀ a ∈ (stepP p 24).1, Sm a := by
  have e : (stepP p 24).2 = beginP (aheadP p 24).2 0 := rfl
  have e2 : (stepP p 24).1 = (aheadP p 24).1 ++ [] := rfl
  rw [e, e2, List.append_nil]
  unfold aheadP
  split
  · exact ⟨rfl, sm_print _⟩
  · rename_i hn
    refine ⟨?_, fun a ha => by cases ha⟩
    have hs : p.state ≠ 0 := fun hs => hn ⟨hs, .inl (by decide)⟩
    have : p.half = [] := hg hs
    show beginP p 0 = G0
    unfold beginP
    rw [this]
    rfl
end Go.Proofs.YtnjgnbdebkckfaaGreatDoor.Y3
namespace Go.Proofs.YtnjgnbdebkckfaaGreatDoor.Y4
set_option maxRecDepth 100000
open Go.RowKit K1 K3 K5 K11 K12 K14 K20 K21 K22 K25 K30 K31 M0 M0 ME MF T21 T22 T23 T24 MP Y0 Y1 Y2 G8
attribute [local go_sem] cell_pastA froz_pastA
theorem infoB : (Tryz.prog.info? 5).map (fun i => (i.zero, i.size, i.bytes)) = some (some (.int .u8 0), 1, 1) := by kernel_rfl
theorem makeB (W : World) (N : Nat) (h1 : N ≤ 10000) : ∃ M : Array Value, M.toList = (List.replicate N (0 : UInt8)).map K14.u8 ∧ (Instr.makeSlice 36 (.int .i64 N) (.int .i64 N)).run Tryz.prog W = .ok (.slice (some ⟨W.heap.size, 0, none⟩) N N) (W.alloc (.cells M 5)) := by
  obtain ⟨i0, hi, hz0, hz1, hz2⟩ := info_parts infoB
  have h := run_makeSlice (P := Tryz.prog) W 36 5 i0 (.int .u8 0) Tryz.underlying36 hi hz0 .i64 .i64 N N (by omega) (Int.le_refl _) (by rw [hz1]; omega) (by rw [hz2]; omega) (by omega)
  rw [hz1] at h
  refine ⟨_, ?_, h⟩
  apply List.ext_getElem?
  intro i
  by_cases hi : i < N
  · simp [madeCells, hi, Value.cells, K14.u8, Nat.mod_one]
  · simp [madeCells, hi]
theorem next_row (N j : Nat) (c : UInt8) (hj : j < N) : ((List.replicate j c ++ List.replicate (N - j) 0).map K14.u8).set j (K14.u8 c) = (List.replicate (j + 1) c ++ List.replicate (N - (j + 1)) 0).map K14.u8 := by
  rw [← List.map_set]
  congr 1
  have e : List.replicate (N - j) (0 : UInt8) = 0 :: List.replicate (N - (j + 1)) 0 := by
    rw [show N - j = (N - (j + 1)) + 1 by omega, List.replicate_succ]
  rw [e, List.set_append_right _ _ (by simp)]
  simp only [List.length_replicate, Nat.sub_self, List.set_cons_zero]
  rw [List.replicate_succ', List.append_assoc]
  rfl
structure LnI (N : Nat) (c : UInt8) (w : World) (i : Value) (wr : World) : Prop where
  out : ∃ j : Nat, j ≤ N ∧ i = .int .i64 j ∧ Sep wr [.row (.slice (some ⟨w.heap.size, 0, none⟩) N N) 5 1 N ((List.replicate j c ++ List.replicate (N - j) 0).map K14.u8), .low w.heap.size w]
set_option maxHeartbeats 4000000 in
theorem line_any (N : Nat) (c : UInt8) (w : World) (hN : N ≤ 10000) : Calls Tryz.prog 28 #[.int .i64 N, .int .u8 c.toNat] w fun e w' => e = .returned (.string ⟨(List.replicate N c).toArray⟩) ∧ Below w.heap.size w w' := by
  obtain ⟨M, hM, HMK⟩ := makeB w N hN
  have hs0 := (Sep.start w).alloc (cs := M) (t := 5) rfl rfl
  rw [hM] at hs0
  have hs1 : Sep (w.alloc (.cells M 5)) [.row (.slice (some ⟨w.heap.size, 0, none⟩) N N) 5 1 N ((List.replicate 0 c ++ List.replicate (N - 0) 0).map K14.u8), .low w.heap.size w] := hs0.asRow (c := N) (s := 1) (by simp) (Nat.le_refl _) (by unfold maxLen; omega) (by simp)
  have HS := Lib.hid hs1
  clear hs0 hs1 hM
  go_enter Tryz.func28, Tryz.ntmps28
  go_wp2_with fail
  go_loopw [11] (fun i wr => LnI N c w i wr) (fun i _ => N - (intOf i).toNat)
  case atStart => exact ⟨⟨0, Nat.zero_le _, rfl, HS.out⟩⟩
  case round =>
    clear HS HMK
    obtain ⟨⟨j, hj, rfl, hs⟩⟩ := hrel
    by_cases hlt : j < N
    · obtain ⟨hrB, hqB, hgB, -, -⟩ := K30.row_cells (hs.hereRow (v := .slice (some ⟨w.heap.size, 0, none⟩) N N) K32.rm)
      have hrj : wr.cell? ⟨w.heap.size, j, none⟩ = some (K14.u8 0) := by
        rw [hrB j (by omega), List.getElem?_map, List.getElem?_append_right (by simp)]
        rw [List.length_replicate, Nat.sub_self, show N - j = (N - (j + 1)) + 1 by omega, List.replicate_succ]
        rfl
      have hfj := hqB j
      have HS := Lib.hid hs
      unfold K14.u8 at hrj
      clear hs hrB hqB
      go_wp2_with fail
      exact ⟨⟨⟨j + 1, by omega, by go_num, HS.out.setRow (i := j) (v := K14.u8 c) (by omega) (next_row N j c hlt).symm⟩⟩, by simp [intOf]; omega⟩
    · obtain rfl : j = N := by omega
      have hrow := hs.hereRow (v := .slice (some ⟨w.heap.size, 0, none⟩) j j) K32.rm
      rw [Nat.sub_self, List.replicate_zero, List.append_nil] at hrow
      obtain ⟨D, hD⟩ : ∃ D : ByteArray, D = ⟨(List.replicate j c).toArray⟩ := ⟨_, rfl⟩
      have HCV : (convert 36 9 (.slice (some ⟨w.heap.size, 0, none⟩) j j)).run Tryz.prog wr = .ok (.string D) wr := by rw [hD]; exact U1.conv_own hrow (by simp)
      have HS := Lib.hid hs
      have HD := Lib.hid hD
      clear hs hrow hD
      go_wp2_with fail
      go_ret
      exact ⟨by rw [← HD.out]; rfl, HS.out.lowOf (by simp)⟩
end Go.Proofs.YtnjgnbdebkckfaaGreatDoor.Y4
namespace Go.Proofs.YtnjgnbdebkckfaaGreatDoor.Y5
open Go.RowKit M0 ME MF MP T21 T22 U1 U3 Y0 Y2 Y3
theorem splice_set {α : Type} (l : List α) (o : Nat) (c : α) (h : o < l.length) : splice l o [c] = l.set o c := by
  unfold splice
  rw [List.set_eq_take_append_cons_drop, if_pos h]
  rfl
theorem setG_set (g : Gr) (x y : Int) (c : Ce) (h0 : 0 ≤ x) (h1 : x < g.w) (h2 : 0 ≤ y) (h3 : y < g.h) (hl : (y * g.w + x).toNat < g.c.length) : setG g x y [c] = { g with c := g.c.set (y * g.w + x).toNat c } := by
  unfold setG rowO
  rw [if_neg (by omega)]
  simp only
  obtain ⟨k, hk⟩ : ∃ k, (g.w - x).toNat = k + 1 := ⟨(g.w - x).toNat - 1, by omega⟩
  rw [hk, List.take_succ_cons, List.take_nil, splice_set _ _ _ hl]
theorem enc_ascii (r : Int) (h0 : 0 ≤ r) (h1 : r < 128) : Lib.encodeRune r = [UInt8.ofNat r.toNat] := by
  unfold Lib.encodeRune
  simp [h0, h1]
  exact ⟨r, by unfold Lib.encodeRuneZ; simp [h0, h1]; omega, rfl⟩
theorem text_ascii : ∀ l : List Int, (∀ r ∈ l, 0 ≤ r ∧ r < 128) → textB l = l.map fun r => UInt8.ofNat r.toNat
  | [], _ => rfl
  | r :: l, h => by
    have h1 := h r (by simp)
    have ih := text_ascii l (fun x hx => h x (by simp [hx]))
    unfold textB at *
    rw [List.flatMap_cons, ih, enc_ascii r h1.1 h1.2]
    rfl
/-- a byte that is printed -/
theorem st_print {p : Pg} (g : Gd p) (b : UInt8) (h1 : 32 ≤ b.toNat) (h2 : b.toNat ≤ 126) : stepP p b = ([acPrint b.toNat], p) := by
  have e : ∀ b : Fin 127, 32 ≤ b.1 → (UInt8.ofNat b.1 < 32 ∨ UInt8.ofNat b.1 = 127) = False ∧ (UInt8.ofNat b.1 = 24 ∨ UInt8.ofNat b.1 = 26) = False ∧ (UInt8.ofNat b.1 = 27) = False ∧ tableL.getD (0 * 6 + classF (UInt8.ofNat b.1)) 0 = 1 ∧ startU (UInt8.ofNat b.1) = ([((UInt8.ofNat b.1).toNat : Int)], []) := by decide
  obtain ⟨e1, e2, e3, e4, e5⟩ := e ⟨b.toNat, by omega⟩ h1
  simp only [UInt8.ofNat_toNat] at e1 e2 e3 e4 e5
  obtain ⟨s, ha, i, w, f, m, n, u, t⟩ := p
  obtain ⟨rfl, rfl⟩ : s = 0 ∧ ha = [] := ⟨g.s, g.h⟩
  have ha : aheadP ⟨0, [], i, w, f, m, n, u, t⟩ b = ([], ⟨0, [], i, w, f, m, n, u, t⟩) := if_neg (by rw [e1]; simp)
  have hw : whatF ⟨0, [], i, w, f, m, n, u, t⟩ b = 1 := e4
  have hb : bodyP ⟨0, [], i, w, f, m, n, u, t⟩ b = ([acPrint b.toNat], ⟨0, [], i, w, f, m, n, u, t⟩) := by
    unfold bodyP
    rw [if_neg (by rw [e2]; exact id), if_neg (by rw [e3]; exact id), hw, if_neg (by decide)]
    unfold actP
    rw [if_pos rfl]
    unfold printP stepU
    rw [if_pos rfl, e5]
    rfl
  unfold stepP
  rw [ha]
  simp only
  rw [hb]
  rfl
def prints (s : List UInt8) : List Ac := s.map fun b => acPrint b.toNat
theorem fd_prints : ∀ (s : List UInt8) {p : Pg}, Gd p → (∀ b ∈ s, 32 ≤ b.toNat ∧ b.toNat ≤ 126) → feedP p s = (prints s, p)
  | [], p, g, h => rfl
  | b :: s, p, g, h => by
    have h1 := h b (by simp)
    rw [fd_cons p b s (st_print g b h1.1 h1.2) (fd_prints s g (fun x hx => h x (by simp [hx])))]
    rfl
theorem acts_prints : ∀ (s : List UInt8) (t : Te), (actsE t (prints s)).1 = [] ∧ (actsE t (prints s)).2 = s.foldl (fun t b => printE t b.toNat) t
  | [], t => ⟨rfl, rfl⟩
  | b :: s, t => by
    obtain ⟨h1, h2⟩ := acts_prints s (printE t b.toNat)
    have e : actE1 t (acPrint b.toNat) = printE t b.toNat := rfl
    refine ⟨?_, ?_⟩
    · show actR t (acPrint b.toNat) ++ (actsE (actE1 t (acPrint b.toNat)) (prints s)).1 = []
      rw [e, h1]; rfl
    · show (actsE (actE1 t (acPrint b.toNat)) (prints s)).2 = _
      rw [e, h2]; rfl
end Go.Proofs.YtnjgnbdebkckfaaGreatDoor.Y5
namespace Go.Proofs.YtnjgnbdebkckfaaGreatDoor.X9
set_option maxRecDepth 100000
open Go.RowKit K1 K3 K5 K11 K12 K14 K20 K21 K22 K25 K30 K31 M0 M0 ME MF T21 T22 T23 T24 MP Y0 Y1 Y2 X4 Y3 Y4 Y5 U1 U3
attribute [local go_sem] cell_pastA froz_pastA
theorem map_B (r : Int) : ME.mapF 66 r = r := by
  show S1.mapF 66 r = r
  unfold S1.mapF
  simp
def wrS (w : Int) (c : List Ce) (x : Int) : Te := { newE w 1 with m := { (newE w 1).m with cu := { cu0 with x := x }, wrap := false }, g := ⟨endW w, 1, c⟩ }
theorem wr_print (w : Int) (c : List Ce) (x r : Int) (hc : c.length = (endW w).toNat) (h0 : 0 ≤ x) (h1 : x < endW w) (hr : r < 128) : printE (wrS w c x) r = wrS w (c.set x.toNat ⟨r, At.zero⟩) (if x = endW w - 1 then x else x + 1) := by
  have e1 : wrapE (wrS w c x) = wrS w c x := if_neg (fun h => absurd h.1 (show ¬ (false = true) by decide))
  have e2 : insE (wrS w c x) = wrS w c x := if_neg (show ¬ (false = true) by decide)
  have e3 : runeE (wrS w c x) r = r := by
    unfold runeE
    rw [if_pos hr]
    exact map_B r
  unfold printE
  rw [e1, e2, e3]
  have e4 : putE (wrS w c x) r = wrS w (c.set x.toNat ⟨r, At.zero⟩) x := by
    show (wrS w c x).setCg (setG ⟨endW w, 1, c⟩ x 0 [⟨r, At.zero⟩]) = _
    rw [setG_set ⟨endW w, 1, c⟩ x 0 _ h0 h1 (by decide) (by show (0 : Int) < 1; decide) (by show ((0 * endW w + x).toNat) < c.length; rw [Int.zero_mul, Int.zero_add]; omega)]
    show (wrS w c x).setCg ⟨endW w, 1, c.set (0 * endW w + x).toNat ⟨r, At.zero⟩⟩ = _
    rw [Int.zero_mul, Int.zero_add]
    rfl
  rw [e4]
  unfold lastE
  by_cases hx : x = endW w - 1
  · rw [if_pos (show (wrS w (c.set x.toNat ⟨r, At.zero⟩) x).m.cu.x = (wrS w (c.set x.toNat ⟨r, At.zero⟩) x).cg.w - 1 from hx), if_pos hx]
    rfl
  · rw [if_neg (show ¬ (wrS w (c.set x.toNat ⟨r, At.zero⟩) x).m.cu.x = (wrS w (c.set x.toNat ⟨r, At.zero⟩) x).cg.w - 1 from hx), if_neg hx]
    rfl
/-- what stands at a place behind the bytes s, W wide -/
def FW (W : Nat) (s : List UInt8) (i : Nat) : UInt8 := if i + 1 = W ∧ W ≤ s.length then s.getD (s.length - 1) 32 else s.getD i 32
def WC (W : Nat) (s : List UInt8) : List Ce := (List.range W).map fun i => ⟨((FW W s i).toNat : Int), At.zero⟩
theorem WC_len (W : Nat) (s : List UInt8) : (WC W s).length = W := by simp [WC]
theorem getD_snoc (s : List UInt8) (b : UInt8) (i : Nat) : (s ++ [b]).getD i 32 = if i < s.length then s.getD i 32 else if i = s.length then b else 32 := by
  simp only [List.getD_eq_getElem?_getD, List.getElem?_append]
  split
  · rfl
  · split
    · rename_i h; subst h; simp
    · rename_i h1 h2
      have : i - s.length ≠ 0 := by omega
      obtain ⟨k, hk⟩ : ∃ k, i - s.length = k + 1 := ⟨i - s.length - 1, by omega⟩
      rw [hk]; simp
theorem FW_snoc (W : Nat) (hW : 1 ≤ W) (s : List UInt8) (b : UInt8) (i : Nat) (hi : i < W) : FW W (s ++ [b]) i = if i = min s.length (W - 1) then b else FW W s i := by
  unfold FW
  simp only [List.length_append, List.length_singleton, Nat.add_sub_cancel, getD_snoc]
  by_cases h1 : i + 1 = W ∧ W ≤ s.length + 1
  · rw [if_pos h1, if_neg (by omega), if_pos (by omega : i = min s.length (W - 1))]
    simp
  · rw [if_neg h1]
    by_cases h2 : i < s.length
    · rw [if_pos h2, if_neg (by omega), if_neg (by omega)]
    · rw [if_neg h2]
      by_cases h3 : i = s.length
      · rw [if_pos h3, if_pos (by omega)]
      · rw [if_neg h3, if_neg (by omega), if_neg (by omega)]
        rw [List.getD_eq_getElem?_getD, List.getElem?_eq_none (by omega)]
        rfl
theorem WC_snoc (W : Nat) (hW : 1 ≤ W) (s : List UInt8) (b : UInt8) : WC W (s ++ [b]) = (WC W s).set (min s.length (W - 1)) ⟨(b.toNat : Int), At.zero⟩ := by
  apply List.ext_getElem?
  intro i
  unfold WC
  rw [List.getElem?_set, List.getElem?_map, List.getElem?_map]
  by_cases hi : i < W
  · rw [List.getElem?_range hi]
    simp only [Option.map_some, List.length_map, List.length_range]
    rw [FW_snoc W hW s b i hi]
    by_cases h : i = min s.length (W - 1)
    · rw [if_pos h, if_pos h.symm, if_pos (by omega)]
    · rw [if_neg h, if_neg (fun e => h e.symm)]
  · rw [List.getElem?_eq_none (by simp; omega)]
    split
    · split
      · simp at *; omega
      · rfl
    · rfl
theorem wr_all (w : Int) (W : Nat) (hw : (W : Int) = endW w) (hW : 2 ≤ W) : ∀ n : Nat, ∀ s : List UInt8, s.length = n → (∀ b ∈ s, b.toNat ≤ 126) → s.foldl (fun t b => printE t b.toNat) (wrS w (WC W []) 0) = wrS w (WC W s) (min (s.length : Int) (endW w - 1)) := by
  intro n
  induction n with
  | zero =>
    intro s hs _
    obtain rfl := List.length_eq_zero_iff.1 hs
    have e : min (((([] : List UInt8).length : Nat) : Int)) (endW w - 1) = 0 := by simp; omega
    rw [e]
    rfl
  | succ n ih =>
    intro s hs hb
    obtain ⟨s', b, rfl⟩ : ∃ s' b, s = s' ++ [b] := by
      rcases List.eq_nil_or_concat s with rfl | ⟨s', b, h⟩
      · simp at hs
      · exact ⟨s', b, by rw [h, List.concat_eq_append]⟩
    have hs' : s'.length = n := by simpa using hs
    rw [List.foldl_append, ih s' hs' (fun x hx => hb x (by simp [hx]))]
    show printE (wrS w (WC W s') (min (s'.length : Int) (endW w - 1))) b.toNat = _
    have hb1 := hb b (by simp)
    rw [wr_print w _ _ _ (by rw [WC_len]; omega) (by omega) (by omega) (by omega), WC_snoc W (by omega)]
    have e1 : (min (s'.length : Int) (endW w - 1)).toNat = min s'.length (W - 1) := by omega
    have e2 : (if min (s'.length : Int) (endW w - 1) = endW w - 1 then min (s'.length : Int) (endW w - 1) else min (s'.length : Int) (endW w - 1) + 1) = min ((s' ++ [b]).length : Int) (endW w - 1) := by
      rw [List.length_append, List.length_singleton]
      split <;> omega
    rw [e1, e2]
def wantW (W : Nat) (s : List UInt8) : List UInt8 := if W < s.length then s.take (W - 1) ++ s.drop (s.length - 1) else s ++ List.replicate (W - s.length) 32
theorem FW_want (W : Nat) (hW : 2 ≤ W) (s : List UInt8) : (List.range W).map (FW W s) = wantW W s := by
  apply List.ext_getElem?
  intro i
  unfold wantW FW
  by_cases hi : i < W
  · rw [List.getElem?_map, List.getElem?_range hi]
    simp only [Option.map_some]
    by_cases hl : W < s.length
    · rw [if_pos hl]
      by_cases h1 : i + 1 = W
      · rw [if_pos ⟨h1, by omega⟩, List.getElem?_append_right (by simp; omega), List.getElem?_drop]
        rw [show s.length - 1 + (i - (List.take (W - 1) s).length) = s.length - 1 by simp; omega, List.getD_eq_getElem?_getD, List.getElem?_eq_getElem (by omega)]
        rfl
      · rw [if_neg (by omega), List.getElem?_append_left (by simp; omega), List.getElem?_take_of_lt (by omega), List.getD_eq_getElem?_getD, List.getElem?_eq_getElem (by omega)]
        rfl
    · rw [if_neg hl]
      by_cases h1 : i < s.length
      · rw [List.getElem?_append_left h1]
        by_cases h2 : i + 1 = W ∧ W ≤ s.length
        · rw [if_pos h2, show s.length - 1 = i by omega, List.getD_eq_getElem?_getD, List.getElem?_eq_getElem h1]; rfl
        · rw [if_neg h2, List.getD_eq_getElem?_getD, List.getElem?_eq_getElem h1]; rfl
      · rw [if_neg (by omega), List.getElem?_append_right (by omega), List.getElem?_replicate, if_pos (by omega), List.getD_eq_getElem?_getD, List.getElem?_eq_none (by omega)]
        rfl
  · rw [List.getElem?_eq_none (by simp; omega)]
    symm
    apply List.getElem?_eq_none
    split <;> simp <;> omega
theorem wr_text (w : Int) (W : Nat) (hw : (W : Int) = endW w) (hW : 2 ≤ W) (s : List UInt8) (hb : ∀ b ∈ s, b.toNat ≤ 126) (x : Int) : textE (wrS w (WC W s) x) = [wantW W s] := by
  show [rowT ⟨endW w, 1, WC W s⟩ 0] = _
  have e : rowO ⟨endW w, 1, WC W s⟩ 0 ((0 : Nat) : Int) = (0, W) := by
    unfold rowO
    rw [if_neg (by simp only; omega)]
    simp only [Int.zero_mul]
    exact Prod.ext (by simp) (by simp; omega)
  unfold rowT
  rw [e]
  have e2 : segm (WC W s) 0 W = WC W s := by
    unfold segm
    rw [List.drop_zero, List.take_of_length_le (by rw [WC_len]; exact Nat.le_refl _)]
  simp only
  rw [e2, text_ascii]
  · rw [← FW_want W hW s]
    congr 1
    unfold WC
    rw [List.map_map, List.map_map]
    apply List.map_congr_left
    intro i _
    simp
  · intro r hr
    unfold WC at hr
    rw [List.map_map] at hr
    obtain ⟨i, _, rfl⟩ := List.mem_map.1 hr
    simp only [Function.comp]
    have : (FW W s i).toNat ≤ 126 := by
      unfold FW
      have hd : ∀ k, (s.getD k 32).toNat ≤ 126 := by
        intro k
        rw [List.getD_eq_getElem?_getD]
        by_cases hk : k < s.length
        · rw [List.getElem?_eq_getElem hk]
          exact hb _ (List.getElem_mem hk)
        · rw [List.getElem?_eq_none (by omega)]
          decide
      split <;> exact hd _
    omega
theorem f_wr (w : Int) (W : Nat) (hw : (W : Int) = endW w) (hW : 2 ≤ W) (s : List UInt8) (hb : ∀ b ∈ s, 32 ≤ b.toNat ∧ b.toNat ≤ 126) : feedT (newT w 1) ([27, 91, 63, 55, 108] ++ s) = ([], ⟨wrS w (WC W s) (min (s.length : Int) (endW w - 1)), G0⟩) := by
  have hp : feedP Pg.zero ([27, 91, 63, 55, 108] ++ s) = (⟨4, 0, 108, 63, [7], [], []⟩ :: prints s, G0) := fd_app _ _ _ (A := [⟨4, 0, 108, 63, [7], [], []⟩]) (q := G0) (by kernel_rfl) (fd_prints s gdG hb)
  rw [feedT_of (m := newT w 1) hp]
  have e0 : WC W [] = (newG w 1).c := by
    unfold WC FW newG
    apply List.ext_getElem?
    intro i
    have e1 : (endW w * endH 1).toNat = W := by show (endW w * 1).toNat = W; omega
    simp only
    rw [e1, List.getElem?_replicate, List.getElem?_map]
    by_cases hi : i < W
    · rw [if_pos hi, List.getElem?_range hi]
      simp
      rfl
    · rw [if_neg hi, List.getElem?_eq_none (by simp; omega)]
      rfl
  have e1 : actE1 (newE w 1) ⟨4, 0, 108, 63, [7], [], []⟩ = wrS w (WC W []) 0 := by rw [e0]; rfl
  obtain ⟨h1, h2⟩ := acts_prints s (wrS w (WC W []) 0)
  have e2 : actsE (newT w 1).t (⟨4, 0, 108, 63, [7], [], []⟩ :: prints s) = ([], wrS w (WC W s) (min (s.length : Int) (endW w - 1))) := by
    show (actR (newE w 1) _ ++ (actsE (actE1 (newE w 1) _) (prints s)).1, (actsE (actE1 (newE w 1) _) (prints s)).2) = _
    rw [e1, h1, h2, wr_all w W hw hW s.length s rfl (fun b h => (hb b h).2)]
    rfl
  rw [e2]
theorem line_32 {w : World} (v : Int) (D : ByteArray) (hD : D = ⟨(List.replicate v.toNat 32).toArray⟩) (h0 : 0 ≤ v) (h1 : v ≤ 10000) : Calls Tryz.prog 28 #[.int .i64 v, .int .u8 32] w fun e w' => e = .returned (.string D) ∧ Below w.heap.size w w' := by
  subst hD
  obtain ⟨n, rfl⟩ := Int.eq_ofNat_of_zero_le h0
  exact line_any n 32 w (by omega)
theorem textV {b : Nat} {m : Tm} {LA L F : List Res} {w : World} (k : Nat) (xs : List Value) (hs : Sep w L) (hA : TmL b m LA) (ok : TmOk m) (hk : (textE m.t).length = k) (hx : (textE m.t).map strW = xs) (h0 : 0 < k) (h2 : RmL L LA F := by (repeat (first | (with_reducible exact RmL.here) | (with_reducible apply RmL.past) | (with_reducible apply RmL.there)))) :
    Calls Tryz.prog 25 #[.pointer (some ⟨b, 0, none⟩)] w fun e w' => ∃ g cp LA', e = .returned (.slice (some ⟨g, 0, none⟩) k cp) ∧ TmL b m LA' ∧ Sep w' (LA' ++ (.row (.slice (some ⟨g, 0, none⟩) k cp) 9 1 k xs :: F)) := by
  refine (textL hs hA ok h2).mono ?_
  rintro e w' ⟨v, LA', rfl, h3, h4⟩
  rw [hk, hx] at h4
  obtain ⟨g, cp, rfl⟩ := E5.own_some (Sep.rowOf h4 (List.mem_append_right _ (List.mem_cons_self ..))) h0
  exact ⟨g, cp, LA', rfl, h3, h4⟩
theorem fld3 (a b c d e f : Value) (w : World) : (Instr.field 47 (.agg #[a, b, c, d, e, f]) 3).run Tryz.prog w = .ok d w := by simp [go_sem, Instr.field, asAgg]
structure WrS (s : ByteArray) (W : World) (i : Value) (wr : World) : Prop where
  out : ∃ j : Nat, j ≤ s.size ∧ i = .int .i64 j ∧ (∀ (k : Nat) (hk : k < s.size), k < j → 33 ≤ s[k].toNat ∧ s[k].toNat ≤ 126) ∧ Sep wr [.low W.heap.size W]
theorem all_of {s : ByteArray} (h : ∀ (k : Nat) (hk : k < s.size), k < s.size → 33 ≤ s[k].toNat ∧ s[k].toNat ≤ 126) : ∀ b ∈ s.data.toList, 32 ≤ b.toNat ∧ b.toNat ≤ 126 := by
  intro b hb
  obtain ⟨k, hk, rfl⟩ := List.getElem_of_mem hb
  have hk' : k < s.size := by simpa using hk
  have h1 := h k hk' hk'
  have e : s[k] = s.data.toList[k] := rfl
  rw [e] at h1
  omega
set_option maxHeartbeats 4000000 in
theorem wraps_any (w : Int) (s : ByteArray) (W : World) (h0 : 0 < s.size) (h100 : s.size ≤ 100) : Calls Tryz.prog 13 #[.int .i64 w, .string s] W fun e w' => e = .returned (.bool true) ∧ Below W.heap.size W w' := by
  have HS := Lib.hid (Sep.start W)
  have hne : ((s.size : Int) == 0) = false := beq_eq_false_iff_ne.2 (by omega)
  go_enter Tryz.func13, Tryz.ntmps13
  go_wp2_with (first | (go_at_call 21; refine K32.ca (fun xw hs => ?_); clear HS; (try simp only [World.size_alloc, World.size_setCell] at hs); (with_reducible refine (alive_any _).mono ?_); rintro e w1 ⟨rfl, hb⟩; replace hs := hs.below hb; clear hb; have HS := Lib.hid hs; clear hs) | fail)
  go_loopw [5] (fun i wr => WrS s W i wr) (fun i _ => s.size - (intOf i).toNat)
  case atStart => exact ⟨⟨0, Nat.zero_le _, rfl, fun k hk h => absurd h (by omega), HS.out⟩⟩
  case round =>
    clear HS
    obtain ⟨⟨j, hj, rfl, hb, hs⟩⟩ := hrel
    have HS := Lib.hid hs
    have HB := Lib.hid hb
    clear hs hb
    by_cases hlt : j < s.size
    · have hc : ((s[j].toNat : Int) < 33) ∨ (33 ≤ (s[j].toNat : Int) ∧ (126 : Int) < s[j].toNat) ∨ (33 ≤ (s[j].toNat : Int) ∧ (s[j].toNat : Int) ≤ 126) := by omega
      rcases hc with hc | ⟨hc, hc2⟩ | ⟨hc, hc2⟩
      · go_wp2_with fail
        go_ret
        exact ⟨rfl, HS.out.hereLow (B := W.heap.size) (w0 := W) rma⟩
      · go_wp2_with fail
        go_ret
        exact ⟨rfl, HS.out.hereLow (B := W.heap.size) (w0 := W) rma⟩
      · go_wp2_with fail
        refine ⟨⟨⟨j + 1, by omega, by go_num, fun k hk h => ?_, HS.out⟩⟩, by simp [intOf]; omega⟩
        by_cases e : k = j
        · subst e; omega
        · exact HB.out k hk (by omega)
    · obtain rfl : j = s.size := by omega
      have hall := all_of HB.out
      have hw2 : 2 ≤ endW w := by unfold endW; omega
      have hw4 : endW w ≤ 40 := by unfold endW; omega
      obtain ⟨Wn, hWn⟩ : ∃ Wn : Nat, (Wn : Int) = endW w := ⟨(endW w).toNat, by omega⟩
      have hsl : s.data.toList.length = s.size := by simp
      obtain ⟨m0, hm0⟩ : ∃ m0, m0 = newT w 1 := ⟨_, rfl⟩
      obtain ⟨m1, hm1⟩ : ∃ m1, m1 = (⟨wrS w (WC Wn s.data.toList) (min (s.size : Int) (endW w - 1)), G0⟩ : Tm) := ⟨_, rfl⟩
      have f1 : feedT m0 ([27, 91, 63, 55, 108] ++ s.data.toList) = ([], m1) := by rw [hm0, hm1, ← hsl]; exact f_wr w Wn hWn (by omega) s.data.toList hall
      have ok0 : TmOk m0 := hm0 ▸ newT_ok w 1
      have ok1 : TmOk m1 := by have := feedT_ok ok0 ([27, 91, 63, 55, 108] ++ s.data.toList); rw [f1] at this; exact this
      have htx : textE m1.t = [wantW Wn s.data.toList] := by rw [hm1]; exact wr_text w Wn hWn (by omega) s.data.toList (fun b h => (hall b h).2) _
      obtain ⟨D, hD⟩ : ∃ D : ByteArray, D = ⟨(List.replicate (max (endW w - (s.size : Int)) 0).toNat 32).toArray⟩ := ⟨_, rfl⟩
      have hDs : D.size ≤ 40 := by rw [hD]; show (List.replicate _ _).toArray.size ≤ _; simp; omega
      have hV : m1.t.m.cu.x = min (s.size : Int) (endW w - 1) := by rw [hm1]; rfl
      have HQ := Lib.hid (show ([⟨#[27, 91, 63, 55, 108]⟩, s] : List ByteArray).flatMap (fun s => s.data.toList) = [27, 91, 63, 55, 108] ++ s.data.toList from by simp)
      have HL := Lib.hid (show ([27, 91, 63, 55, 108] ++ s.data.toList).length ≤ 10000 from by rw [List.length_append, hsl]; show 5 + s.size ≤ _; omega)
      have HTL := Lib.hid (show (textE m1.t).length = 1 from by rw [htx]; rfl)
      have hw6 : wrap64 (endW w - (s.size : Int)) = endW w - s.size := by unfold wrap64; omega
      have hw7 : wrap64 (endW w - 1) = endW w - 1 := by unfold wrap64; omega
      have HFD := fld3
      have HM0 := Lib.hid hm0
      have HF := Lib.hid f1
      have OK0 := Lib.hid ok0
      have OK1 := Lib.hid ok1
      have HD := Lib.hid hD
      have HV := Lib.hid hV
      by_cases hcs : (s.size : Int) ≤ endW w
      · obtain ⟨ZT, hZT⟩ : ∃ Z : ByteArray, s ++ D = Z := ⟨_, rfl⟩
        have HTX := Lib.hid (show (textE m1.t).map strW = [.string ZT] from by
          rw [htx, ← hZT]
          have e : wantW Wn s.data.toList = s.data.toList ++ List.replicate (Wn - s.size) 32 := by unfold wantW; rw [if_neg (by omega), hsl]
          show [Value.string ⟨(wantW Wn s.data.toList).toArray⟩] = _
          rw [e]
          congr 2
          apply ByteArray.ext
          rw [ByteArray.data_append, hD, show (max (endW w - (s.size : Int)) 0).toNat = Wn - s.size by omega]
          simp)
        clear HB hall f1 ok0 ok1 htx hm0 hm1 hD hV hsl
        go_wp2_with (first | (go_at_call 22; refine K32.ca (fun xw hs => ?_); clear HS; (try simp only [World.size_alloc, World.size_setCell] at hs); (with_reducible refine (newL w 1 hs).mono ?_); rintro e w1 ⟨b, LA, rfl, hl, hs⟩; rw [← HM0.out] at hl; have HLA := Lib.hid hl; clear hl; have HS := Lib.hid hs; clear hs) | (go_at_call 23; refine (ends_any _ _ _).mono ?_; rintro e w1 ⟨rfl, rfl⟩) | (go_at_call 24; refine K32.ca (fun xw hs => ?_); clear HS; (try simp only [World.size_alloc, World.size_setCell] at hs); have hC := feedL [⟨#[27, 91, 63, 55, 108]⟩, s] ([27, 91, 63, 55, 108] ++ s.data.toList) hs HLA.out OK0.out HF.out HQ.out HL.out rfl; refine hC.mono ?_; clear hC; rintro e w1 ⟨LA, rfl, hl, hs⟩; clear HLA; have HLA := Lib.hid hl; clear hl; have HS := Lib.hid hs; clear hs) | (go_at_call 28; refine K32.ca (fun xw hs => ?_); clear HS; (try simp only [World.size_alloc, World.size_setCell] at hs); (with_reducible refine (line_32 (max (endW w - (s.size : Int)) 0) D HD.out (by omega) (by omega)).mono ?_); rintro e w1 ⟨rfl, hb⟩; replace hs := hs.below hb; clear hb; have HS := Lib.hid hs; clear hs) | (go_at_call 25; refine K32.ca (fun xw hs => ?_); clear HS; (try simp only [World.size_alloc, World.size_setCell] at hs); have hC := textV 1 [.string ZT] hs HLA.out OK1.out HTL.out HTX.out (by decide); refine hC.mono ?_; clear hC; rintro e w1 ⟨g, cp, LA, rfl, hl, hs⟩; clear HLA; have HLA := Lib.hid hl; clear hl; (try clear hr0 hf0 hgT hcT); obtain ⟨hrT, hqT, hgT, hcT, -⟩ := K30.row_cells (hs.hereRow (v := .slice (some ⟨g, 0, none⟩) 1 cp) rma); have hr0 : w1.cell? ⟨g, 0, none⟩ = some (.string ZT) := hrT 0 (by decide); have hf0 := hqT 0; clear hrT hqT; have HS := Lib.hid hs; clear hs) | (go_at_call 34; refine K32.ca (fun xw hs => ?_); clear HS; (try simp only [World.size_alloc, World.size_setCell] at hs); have hC := screenL (scrV m1.t) hs HLA.out OK1.out (fun _ _ => rfl); refine hC.mono ?_; clear hC; rintro e w1 ⟨k, c, LA, rfl, hl, hs⟩; clear HLA; have HLA := Lib.hid hl; clear hl; (try clear hr0 hf0 hgT hcT); obtain ⟨hrT, hqT, hgT, hcT, -⟩ := K30.row_cells (hs.hereRow (v := .slice (some ⟨g, 0, none⟩) 1 cp) rma); have hr0 : w1.cell? ⟨g, 0, none⟩ = some (.string ZT) := hrT 0 (by decide); have hf0 := hqT 0; clear hrT hqT; have HS := Lib.hid hs; clear hs; simp only [scrV, HV.out]) | fail)
        go_ret
        exact ⟨rfl, HS.out.hereLow (B := W.heap.size) (w0 := W) rma⟩
      · obtain ⟨ZT, hZT⟩ : ∃ Z : ByteArray, s.extract 0 ((endW w).toNat - 1) ++ s.extract (s.size - 1) s.size = Z := ⟨_, rfl⟩
        have HTX := Lib.hid (show (textE m1.t).map strW = [.string ZT] from by
          rw [htx, ← hZT]
          have e : wantW Wn s.data.toList = s.data.toList.take (Wn - 1) ++ s.data.toList.drop (s.size - 1) := by unfold wantW; rw [if_pos (by omega), hsl]
          show [Value.string ⟨(wantW Wn s.data.toList).toArray⟩] = _
          rw [e]
          congr 2
          apply ByteArray.ext
          rw [ByteArray.data_append, show (endW w).toNat = Wn by omega]
          simp [ByteArray.data_extract, List.extract]
          exact (List.take_of_length_le (by rw [List.length_drop, hsl]; omega)).symm)
        clear HB hall f1 ok0 ok1 htx hm0 hm1 hD hV hsl
        go_wp2_with (first | (go_at_call 22; refine K32.ca (fun xw hs => ?_); clear HS; (try simp only [World.size_alloc, World.size_setCell] at hs); (with_reducible refine (newL w 1 hs).mono ?_); rintro e w1 ⟨b, LA, rfl, hl, hs⟩; rw [← HM0.out] at hl; have HLA := Lib.hid hl; clear hl; have HS := Lib.hid hs; clear hs) | (go_at_call 23; refine (ends_any _ _ _).mono ?_; rintro e w1 ⟨rfl, rfl⟩) | (go_at_call 24; refine K32.ca (fun xw hs => ?_); clear HS; (try simp only [World.size_alloc, World.size_setCell] at hs); have hC := feedL [⟨#[27, 91, 63, 55, 108]⟩, s] ([27, 91, 63, 55, 108] ++ s.data.toList) hs HLA.out OK0.out HF.out HQ.out HL.out rfl; refine hC.mono ?_; clear hC; rintro e w1 ⟨LA, rfl, hl, hs⟩; clear HLA; have HLA := Lib.hid hl; clear hl; have HS := Lib.hid hs; clear hs) | (go_at_call 28; refine K32.ca (fun xw hs => ?_); clear HS; (try simp only [World.size_alloc, World.size_setCell] at hs); (with_reducible refine (line_32 (max (endW w - (s.size : Int)) 0) D HD.out (by omega) (by omega)).mono ?_); rintro e w1 ⟨rfl, hb⟩; replace hs := hs.below hb; clear hb; have HS := Lib.hid hs; clear hs) | (refine K30.atR (id := 15) ?_; (with_reducible apply K30.wp_at); exact K32.fnd0; intro xw hs; skip; skip; have HS := Lib.hid hs; clear hs; refine K32.reg0 (w := xw) [] [] 11 ?_; simp only [numbered, List.take_succ_cons, List.take_zero, List.drop_succ_cons, List.drop_zero, List.take_nil, List.drop_nil, Nat.reduceAdd]; (iterate 11 (refine K32.zd ?_; (try go_simp))); refine wz_nil ?_; intro wq hbq hLq; clear hLq ; have hcwq := cellA hbq; have hfwq := frozA hbq; have hzwq := hbq.size; (try simp at hzwq); have hs := HS.out.below hbq; skip; have HS := Lib.hid hs; clear hs hcwq hfwq hzwq hbq) | (go_at_call 25; refine K32.ca (fun xw hs => ?_); clear HS; (try simp only [World.size_alloc, World.size_setCell] at hs); have hC := textV 1 [.string ZT] hs HLA.out OK1.out HTL.out HTX.out (by decide); refine hC.mono ?_; clear hC; rintro e w1 ⟨g, cp, LA, rfl, hl, hs⟩; clear HLA; have HLA := Lib.hid hl; clear hl; (try clear hr0 hf0 hgT hcT); obtain ⟨hrT, hqT, hgT, hcT, -⟩ := K30.row_cells (hs.hereRow (v := .slice (some ⟨g, 0, none⟩) 1 cp) rma); have hr0 : w1.cell? ⟨g, 0, none⟩ = some (.string ZT) := hrT 0 (by decide); have hf0 := hqT 0; clear hrT hqT; have HS := Lib.hid hs; clear hs) | (go_at_call 34; refine K32.ca (fun xw hs => ?_); clear HS; (try simp only [World.size_alloc, World.size_setCell] at hs); have hC := screenL (scrV m1.t) hs HLA.out OK1.out (fun _ _ => rfl); refine hC.mono ?_; clear hC; rintro e w1 ⟨k, c, LA, rfl, hl, hs⟩; clear HLA; have HLA := Lib.hid hl; clear hl; (try clear hr0 hf0 hgT hcT); obtain ⟨hrT, hqT, hgT, hcT, -⟩ := K30.row_cells (hs.hereRow (v := .slice (some ⟨g, 0, none⟩) 1 cp) rma); have hr0 : w1.cell? ⟨g, 0, none⟩ = some (.string ZT) := hrT 0 (by decide); have hf0 := hqT 0; clear hrT hqT; have HS := Lib.hid hs; clear hs; simp only [scrV, HV.out]) | fail)
        go_ret
        exact ⟨rfl, HS.out.hereLow (B := W.heap.size) (w0 := W) rma⟩
theorem wraps_long (w : Int) (s : ByteArray) (W : World) (hr : s.size = 0 ∨ (0 < s.size ∧ 100 < s.size)) (hs : s.size ≤ 9223372036854775807) : Calls Tryz.prog 13 #[.int .i64 w, .string s] W fun e w' => e = .returned (.bool true) ∧ Below W.heap.size W w' := by
  have HS := Lib.hid (Sep.start W)
  rcases hr with hr | ⟨hr, hr2⟩
  · have h1 : ((s.size : Int) == 0) = true := by rw [hr]; rfl
    go_enter Tryz.func13, Tryz.ntmps13
    go_wp2_with (first | (go_at_call 21; refine K32.ca (fun xw hs => ?_); clear HS; (try simp only [World.size_alloc, World.size_setCell] at hs); (with_reducible refine (alive_any _).mono ?_); rintro e w1 ⟨rfl, hb⟩; replace hs := hs.below hb; clear hb; have HS := Lib.hid hs; clear hs) | fail)
    go_ret
    exact ⟨rfl, HS.out.hereLow (B := W.heap.size) (w0 := W) rma⟩
  · go_enter Tryz.func13, Tryz.ntmps13
    go_wp2_with (first | (go_at_call 21; refine K32.ca (fun xw hs => ?_); clear HS; (try simp only [World.size_alloc, World.size_setCell] at hs); (with_reducible refine (alive_any _).mono ?_); rintro e w1 ⟨rfl, hb⟩; replace hs := hs.below hb; clear hb; have HS := Lib.hid hs; clear hs) | fail)
    go_ret
    exact ⟨rfl, HS.out.hereLow (B := W.heap.size) (w0 := W) rma⟩
theorem law_any (w : Int) (s : ByteArray) (W : World) (hs : s.size ≤ 9223372036854775807) : Calls Tryz.prog 13 #[.int .i64 w, .string s] W fun e w' => e = .returned (.bool true) ∧ Below W.heap.size W w' := by
  by_cases h1 : 0 < s.size ∧ s.size ≤ 100
  · exact wraps_any w s W h1.1 h1.2
  · exact wraps_long w s W (by omega) hs
end Go.Proofs.YtnjgnbdebkckfaaGreatDoor.X9
