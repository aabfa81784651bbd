/- EmuOrigins: what the law's function does, and that its answer is true. Conditions: none. -/
import Derived.Test.YtnjgnbdebkckfaaGreatDoorA34
import Derived.Test.YtnjgnbdebkckfaaGreatDoorA33
import Derived.Lib.Hide
import Derived.Test.YtnjgnbdebkckfaaGreatDoorA2
set_option linter.unusedVariables false
set_option linter.unusedSimpArgs false
set_option linter.unnecessarySimpa false
namespace Go.Proofs.YtnjgnbdebkckfaaGreatDoor.X4
set_option maxRecDepth 100000
open Go.RowKit K1 K3 K5 K11 K12 K14 K20 K21 K22 K25 K30 K31 M0 M0 ME MF T21 T22 T23 T24 MP Y0 Y1 Y2
attribute [local go_sem] cell_pastA froz_pastA
theorem feedT_of {m : Tm} {q : List UInt8} {A : List Ac} {p : Pg} (h : feedP m.p q = (A, p)) : feedT m q = ((actsE m.t A).1, ⟨(actsE m.t A).2, p⟩) := by
  unfold feedT
  rw [h]
def goTo (t : Te) (x y : Int) : Te := ((t.setY y).setX x).setLate false
/-- the cursor is sent to a place, origin off -/
theorem act_goto (t : Te) (y x : Int) (ho : t.m.cu.origin = false) : actE1 t ⟨4, 0, 72, 0, [y, x], [], []⟩ = goTo t (min (max x 1 - 1) (t.cg.w - 1)) (min (max y 1 - 1) (t.cg.h - 1)) := by
  show (columnE (rowE t (max y 1 - 1)) (max x 1 - 1)).setLate false = _
  unfold rowE
  rw [if_neg (by rw [ho]; decide)]
  rfl
theorem acts2 (t : Te) (a b : Ac) : actsE t [a, b] = (actR t a ++ (actR (actE1 t a) b ++ []), actE1 (actE1 t a) b) := rfl
theorem act_6 (t : Te) : actE1 t ⟨4, 0, 110, 0, [6], [], []⟩ = t := by simp [actE1, csiE, moveE, editE, stateE]
def Q1 (y x : Int) : List UInt8 := [27, 91] ++ (digF y ++ ([59] ++ (digF x ++ [72, 27, 91, 54, 110])))
def Q2 : List UInt8 := [27, 91, 53, 110, 27, 91, 99, 27, 91, 48, 99, 27, 91, 49, 99]
theorem p_one {p : Pg} (g : Gd p) (y x : Int) (hy : 0 ≤ y) (hy2 : y ≤ 9999) (hx : 0 ≤ x) (hx2 : x ≤ 9999) : feedP p (Q1 y x) = ([⟨4, 0, 72, 0, [y, x], [], []⟩, ⟨4, 0, 110, 0, [6], [], []⟩], G0) := by
  obtain ⟨n, rfl⟩ := Int.eq_ofNat_of_zero_le hy
  obtain ⟨k, rfl⟩ := Int.eq_ofNat_of_zero_le hx
  have e : Q1 n k = ([27, 91] ++ (digF n ++ ([59] ++ (digF k ++ [72])))) ++ [27, 91, 54, 110] := by simp [Q1]
  rw [e]
  exact fd_app p _ _ (csi2 g n k (by omega) (by omega) 72 (by decide) (by decide)) (by kernel_rfl)
theorem report_6 (t : Te) (ho : t.m.cu.origin = false) : actR t ⟨4, 0, 110, 0, [6], [], []⟩ = [27, 91] ++ digF (t.m.cu.y + 1) ++ [59] ++ digF (t.m.cu.x + 1) ++ [82] := by
  show [27, 91] ++ digF (repY t + 1) ++ [59] ++ digF (t.m.cu.x + 1) ++ [82] = _
  unfold repY
  rw [if_neg (by rw [ho]; decide)]
theorem one (w h y x : Int) (hy : 0 ≤ y) (hy2 : y ≤ 9999) (hx : 0 ≤ x) (hx2 : x ≤ 9999) :
    feedT (newT w h) (Q1 y x) = ([27, 91] ++ digF (min (max y 1) (endH h)) ++ [59] ++ digF (min (max x 1) (endW w)) ++ [82], ⟨goTo (newE w h) (min (max x 1) (endW w) - 1) (min (max y 1) (endH h) - 1), G0⟩) := by
  rw [feedT_of (p_one gd0 y x hy hy2 hx hx2)]
  rw [acts2]
  have a0 : actR (newT w h).t ⟨4, 0, 72, 0, [y, x], [], []⟩ = [] := by simp [actR, csiR, stateR]
  rw [a0]
  rw [show (newT w h).t = newE w h from rfl, act_goto _ _ _ rfl, act_6]
  have e1 : min (max y 1 - 1) ((newE w h).cg.h - 1) = min (max y 1) (endH h) - 1 := by show min (max y 1 - 1) (endH h - 1) = _; omega
  have e2 : min (max x 1 - 1) ((newE w h).cg.w - 1) = min (max x 1) (endW w) - 1 := by show min (max x 1 - 1) (endW w - 1) = _; omega
  rw [e1, e2, report_6 _ rfl]
  have e3 : (goTo (newE w h) (min (max x 1) (endW w) - 1) (min (max y 1) (endH h) - 1)).m.cu.y + 1 = min (max y 1) (endH h) := by show min (max y 1) (endH h) - 1 + 1 = _; omega
  have e4 : (goTo (newE w h) (min (max x 1) (endW w) - 1) (min (max y 1) (endH h) - 1)).m.cu.x + 1 = min (max x 1) (endW w) := by show min (max x 1) (endW w) - 1 + 1 = _; omega
  rw [e3, e4, List.nil_append, List.append_nil]
theorem two (t : Te) : feedT ⟨t, G0⟩ Q2 = ([27, 91, 48, 110, 27, 91, 63, 49, 59, 50, 99, 27, 91, 63, 49, 59, 50, 99], ⟨t, G0⟩) := by
  rw [feedT_of (m := ⟨t, G0⟩) (A := [⟨4, 0, 110, 0, [5], [], []⟩, ⟨4, 0, 99, 0, [], [], []⟩, ⟨4, 0, 99, 0, [0], [], []⟩, ⟨4, 0, 99, 0, [1], [], []⟩]) (p := G0) (by kernel_rfl)]
  rfl
theorem cat5 (a b : List UInt8) : (⟨([27, 91] ++ a ++ [59] ++ b ++ [82]).toArray⟩ : ByteArray) = ⟨#[27, 91]⟩ ++ ⟨a.toArray⟩ ++ ⟨#[59]⟩ ++ ⟨b.toArray⟩ ++ ⟨#[82]⟩ := by
  apply ByteArray.ext
  simp
theorem dig_size {D : ByteArray} {n : Int} (h : D = ⟨(digF n).toArray⟩) : D.size ≤ 20 := by
  subst h
  exact digN_len 20 n.toNat
set_option maxHeartbeats 4000000 in
theorem law_any (w h x y : Int) (W : World) : Calls Tryz.prog 8 #[.int .i64 w, .int .i64 h, .int .i64 x, .int .i64 y] W fun e w' => e = .returned (.bool true) ∧ Below W.heap.size W w' := by
  have HS := Lib.hid (Sep.start W)
  obtain ⟨D1, hD1⟩ : ∃ D, D = (⟨(digF (min (max y 0) 9999)).toArray⟩ : ByteArray) := ⟨_, rfl⟩
  obtain ⟨D2, hD2⟩ : ∃ D, D = (⟨(digF (min (max x 0) 9999)).toArray⟩ : ByteArray) := ⟨_, rfl⟩
  obtain ⟨E1, hE1⟩ : ∃ D, D = (⟨(digF (min (max (min (max y 0) 9999) 1) (endH h))).toArray⟩ : ByteArray) := ⟨_, rfl⟩
  obtain ⟨E2, hE2⟩ : ∃ D, D = (⟨(digF (min (max (min (max x 0) 9999) 1) (endW w))).toArray⟩ : ByteArray) := ⟨_, rfl⟩
  obtain ⟨m1, hm1⟩ : ∃ m, m = (⟨goTo (newE w h) ((min (max (min (max x 0) 9999) 1) (endW w)) - 1) ((min (max (min (max y 0) 9999) 1) (endH h)) - 1), G0⟩ : Tm) := ⟨_, rfl⟩
  have HF1 := Lib.hid (show feedT (newT w h) (Q1 (min (max y 0) 9999) (min (max x 0) 9999)) = (_, m1) from (one w h (min (max y 0) 9999) (min (max x 0) 9999) (by omega) (by omega) (by omega) (by omega)).trans (by rw [hm1]))
  have HF2 := Lib.hid (show feedT m1 Q2 = (_, m1) from by rw [hm1]; exact two _)
  have OK0 := Lib.hid (newT_ok w h)
  have OK1 := Lib.hid (show TmOk m1 from (show (feedT (newT w h) (Q1 (min (max y 0) 9999) (min (max x 0) 9999))).2 = m1 by rw [HF1.out]) ▸ feedT_ok (newT_ok w h) _)
  have HQ1 := Lib.hid (show ([⟨#[27, 91]⟩, D1, ⟨#[59]⟩, D2, ⟨#[72, 27, 91, 54, 110]⟩] : List ByteArray).flatMap (fun s => s.data.toList) = Q1 (min (max y 0) 9999) (min (max x 0) 9999) from by rw [hD1, hD2]; rfl)
  have HL1 := Lib.hid (show (Q1 (min (max y 0) 9999) (min (max x 0) 9999)).length ≤ 10000 from by have h1 := digN_len 20 (min (max y 0) 9999).toNat; have h2 := digN_len 20 (min (max x 0) 9999).toNat; simp only [Q1, List.length_append]; show 2 + ((digN 20 (min (max y 0) 9999).toNat).length + (1 + ((digN 20 (min (max x 0) 9999).toNat).length + 5))) ≤ _; omega)
  have HZ1 := Lib.hid (show (⟨#[27, 91]⟩ ++ E1 ++ ⟨#[59]⟩ ++ E2 ++ ⟨#[82]⟩ : ByteArray) = ⟨([27, 91] ++ digF (min (max (min (max y 0) 9999) 1) (endH h)) ++ [59] ++ digF (min (max (min (max x 0) 9999) 1) (endW w)) ++ [82]).toArray⟩ from by rw [cat5, hE1, hE2])
  have HX := Lib.hid (show m1.t.m.cu.x = (min (max (min (max x 0) 9999) 1) (endW w)) - 1 from by rw [hm1]; rfl)
  have HY := Lib.hid (show m1.t.m.cu.y = (min (max (min (max y 0) 9999) 1) (endH h)) - 1 from by rw [hm1]; rfl)
  have HD1 := Lib.hid hD1
  have HD2 := Lib.hid hD2
  have HE1 := Lib.hid hE1
  have HE2 := Lib.hid hE2
  have hw2 : 2 ≤ endW w := by unfold endW; omega
  have hw4 : endW w ≤ 40 := by unfold endW; omega
  have hh1 : 1 ≤ endH h := by unfold endH; omega
  have hh2 : endH h ≤ 20 := by unfold endH; omega
  have hs1 := dig_size hE1
  have hs2 := dig_size hE2
  clear hD1 hD2 hE1 hE2 hm1
  go_enter Tryz.func8, Tryz.ntmps8
  go_wp2_with (first | (go_at_call 21; refine K32.ca (fun xw hs => ?_); clear HS; (with_reducible refine (alive_any _).mono ?_); rintro e w1 ⟨rfl, hb⟩; replace hs := hs.below hb; clear hb; have HS := Lib.hid hs; clear hs) | (go_at_call 22; refine K32.ca (fun xw hs => ?_); clear HS; (with_reducible refine (newL w h hs).mono ?_); rintro e w1 ⟨b, LA, rfl, hl, hs⟩; have HLA := Lib.hid hl; clear hl; have HS := Lib.hid hs; clear hs) | (go_at_call 23; refine (ends_any _ _ _).mono ?_; rintro e w1 ⟨rfl, rfl⟩) | (go_at_call 27; refine K32.ca (fun xw hs => ?_); clear HS; (with_reducible refine (digits_i (min (max y 0) 9999) D1 HD1.out (by omega) (by omega)).mono ?_); rintro e w1 ⟨rfl, hb⟩; replace hs := hs.below hb; clear hb; have HS := Lib.hid hs; clear hs) | (go_at_call 27; refine K32.ca (fun xw hs => ?_); clear HS; (with_reducible refine (digits_i (min (max x 0) 9999) D2 HD2.out (by omega) (by omega)).mono ?_); rintro e w1 ⟨rfl, hb⟩; replace hs := hs.below hb; clear hb; have HS := Lib.hid hs; clear hs) | (go_at_call 27; refine K32.ca (fun xw hs => ?_); clear HS; (with_reducible refine (digits_i (min (max (min (max y 0) 9999) 1) (endH h)) E1 HE1.out (by omega) (by omega)).mono ?_); rintro e w1 ⟨rfl, hb⟩; replace hs := hs.below hb; clear hb; (try clear hcS hzS hlS); (try obtain ⟨hcS, hzS, hlS⟩ := hs.here (t := 47) rma); have HS := Lib.hid hs; clear hs) | (go_at_call 27; refine K32.ca (fun xw hs => ?_); clear HS; (with_reducible refine (digits_i (min (max (min (max x 0) 9999) 1) (endW w)) E2 HE2.out (by omega) (by omega)).mono ?_); rintro e w1 ⟨rfl, hb⟩; replace hs := hs.below hb; clear hb; (try clear hcS hzS hlS); (try obtain ⟨hcS, hzS, hlS⟩ := hs.here (t := 47) rma); have HS := Lib.hid hs; clear hs) | (go_at_call 24; refine K32.ca (fun xw hs => ?_); clear HS; have hC := feedL [⟨#[27, 91]⟩, D1, ⟨#[59]⟩, D2, ⟨#[72, 27, 91, 54, 110]⟩] (Q1 (min (max y 0) 9999) (min (max x 0) 9999)) hs HLA.out OK0.out HF1.out HQ1.out HL1.out HZ1.out; refine hC.mono ?_; clear hC; rintro e w1 ⟨LA, rfl, hl, hs⟩; clear HLA; have HLA := Lib.hid hl; clear hl; have HS := Lib.hid hs; clear hs) | (go_at_call 34; refine K32.ca (fun xw hs => ?_); clear HS; have hC := screenL (fun k c => .agg #[.int .i64 m1.t.cg.w, .int .i64 m1.t.cg.h, .slice (some ⟨k, 0, none⟩) m1.t.cg.c.length c, .int .i64 ((min (max (min (max x 0) 9999) 1) (endW w)) - 1), .int .i64 ((min (max (min (max y 0) 9999) 1) (endH h)) - 1), .bool m1.t.m.hidden]) hs HLA.out OK1.out (fun k c => by unfold scrV; rw [HX.out, HY.out]); refine hC.mono ?_; clear hC; rintro e w1 ⟨k, c, LA, rfl, hl, hs⟩; clear HLA; have HLA := Lib.hid hl; clear hl; have HS := Lib.hid hs; clear hs) | (go_at_call 24; refine K32.ca (fun xw hs => ?_); clear HS; have hC := feedL [⟨#[27, 91, 53, 110, 27, 91, 99, 27, 91, 48, 99, 27, 91, 49, 99]⟩] Q2 hs HLA.out OK1.out HF2.out rfl (by decide) rfl; refine hC.mono ?_; clear hC; rintro e w1 ⟨LA, rfl, hl, hs⟩; clear HLA; have HLA := Lib.hid hl; clear hl; have HS := Lib.hid hs; clear hs))
  go_ret
  exact ⟨rfl, HS.out.hereLow (B := W.heap.size) (w0 := W) rma⟩
end Go.Proofs.YtnjgnbdebkckfaaGreatDoor.X4
namespace Go.Proofs.YtnjgnbdebkckfaaGreatDoor.X5
set_option maxRecDepth 100000
open Go.RowKit K1 K3 K5 K11 K12 K14 K20 K21 K22 K25 K30 K31 M0 M0 ME MF T21 T22 T23 T24 MP Y0 Y1 Y2 X4
attribute [local go_sem] cell_pastA froz_pastA
theorem goTo_goTo (t : Te) (x y u v : Int) : goTo (goTo t x y) u v = goTo t u v := rfl
theorem mv_up (w h X Y : Int) (n : Int) (hY : 0 ≤ Y) : actE1 (goTo (newE w h) X Y) ⟨4, 0, 65, 0, [n], [], []⟩ = goTo (newE w h) X (max (Y - max n 1) 0) := by
  show (upE (goTo (newE w h) X Y) (max n 1)).setLate false = _
  unfold upE
  rw [if_pos (show (goTo (newE w h) X Y).m.top ≤ (goTo (newE w h) X Y).m.cu.y from hY)]
  rfl
theorem mv_down (w h X Y : Int) (n : Int) (hY : Y < endH h) : actE1 (goTo (newE w h) X Y) ⟨4, 0, 66, 0, [n], [], []⟩ = goTo (newE w h) X (min (Y + max n 1) (endH h - 1)) := by
  show (downE (goTo (newE w h) X Y) (max n 1)).setLate false = _
  have e : lastRow (goTo (newE w h) X Y) = endH h - 1 := by
    unfold lastRow
    rw [if_pos (show (goTo (newE w h) X Y).m.cu.y < (goTo (newE w h) X Y).m.bottom from hY)]
    rfl
  unfold downE
  rw [e]
  have e2 : min Y (endH h - 1) + min (max n 1) (endH h - 1 - min Y (endH h - 1)) = min (Y + max n 1) (endH h - 1) := by omega
  show goTo (newE w h) X (min Y (endH h - 1) + min (max n 1) (endH h - 1 - min Y (endH h - 1))) = _
  rw [e2]
theorem mv_right (w h X Y : Int) (n : Int) (hX : X < endW w) : actE1 (goTo (newE w h) X Y) ⟨4, 0, 67, 0, [n], [], []⟩ = goTo (newE w h) (min (X + max n 1) (endW w - 1)) Y := by
  show goTo (newE w h) (X + min (max n 1) (endW w - 1 - X)) Y = _
  rw [show X + min (max n 1) (endW w - 1 - X) = min (X + max n 1) (endW w - 1) by omega]
theorem mv_left (w h X Y : Int) (n : Int) : actE1 (goTo (newE w h) X Y) ⟨4, 0, 68, 0, [n], [], []⟩ = goTo (newE w h) (max (X - max n 1) 0) Y := rfl
theorem quiet (t : Te) (b : Int) (n : List Int) (h : b ≠ 110) (h2 : b ≠ 99) : actR t ⟨4, 0, b, 0, n, [], []⟩ = [] := by simp [actR, csiR, stateR, h, h2]
theorem acts1 (t : Te) (a : Ac) : actsE t [a] = (actR t a ++ [], actE1 t a) := rfl
theorem mv0 (w h : Int) (p : Pg) (X Y : Int) (N : Nat) (g : Gd p) (hX : 0 ≤ X ∧ X < endW w) (hY : 0 ≤ Y ∧ Y < endH h) (hN : N ≤ 9999) : feedT ⟨goTo (newE w h) X Y, p⟩ ([27, 91] ++ (digF N ++ [65])) = ([], ⟨goTo (newE w h) X (max (Y - max (N : Int) 1) 0), G0⟩) := by
  rw [feedT_of (csi1 g N hN 65 (by decide) (by decide)), acts1, quiet _ _ _ (by decide) (by decide)]
  show (([] : List UInt8), (⟨actE1 (goTo (newE w h) X Y) ⟨4, 0, 65, 0, [(N : Int)], [], []⟩, G0⟩ : Tm)) = _
  rw [mv_up w h X Y N hY.1]
theorem mv1 (w h : Int) (p : Pg) (X Y : Int) (N : Nat) (g : Gd p) (hX : 0 ≤ X ∧ X < endW w) (hY : 0 ≤ Y ∧ Y < endH h) (hN : N ≤ 9999) : feedT ⟨goTo (newE w h) X Y, p⟩ ([27, 91] ++ (digF N ++ [66])) = ([], ⟨goTo (newE w h) X (min (Y + max (N : Int) 1) (endH h - 1)), G0⟩) := by
  rw [feedT_of (csi1 g N hN 66 (by decide) (by decide)), acts1, quiet _ _ _ (by decide) (by decide)]
  show (([] : List UInt8), (⟨actE1 (goTo (newE w h) X Y) ⟨4, 0, 66, 0, [(N : Int)], [], []⟩, G0⟩ : Tm)) = _
  rw [mv_down w h X Y N hY.2]
theorem mv2 (w h : Int) (p : Pg) (X Y : Int) (N : Nat) (g : Gd p) (hX : 0 ≤ X ∧ X < endW w) (hY : 0 ≤ Y ∧ Y < endH h) (hN : N ≤ 9999) : feedT ⟨goTo (newE w h) X Y, p⟩ ([27, 91] ++ (digF N ++ [67])) = ([], ⟨goTo (newE w h) (min (X + max (N : Int) 1) (endW w - 1)) Y, G0⟩) := by
  rw [feedT_of (csi1 g N hN 67 (by decide) (by decide)), acts1, quiet _ _ _ (by decide) (by decide)]
  show (([] : List UInt8), (⟨actE1 (goTo (newE w h) X Y) ⟨4, 0, 67, 0, [(N : Int)], [], []⟩, G0⟩ : Tm)) = _
  rw [mv_right w h X Y N hX.2]
theorem mv3 (w h : Int) (p : Pg) (X Y : Int) (N : Nat) (g : Gd p) (hX : 0 ≤ X ∧ X < endW w) (hY : 0 ≤ Y ∧ Y < endH h) (hN : N ≤ 9999) : feedT ⟨goTo (newE w h) X Y, p⟩ ([27, 91] ++ (digF N ++ [68])) = ([], ⟨goTo (newE w h) (max (X - max (N : Int) 1) 0) Y, G0⟩) := by
  rw [feedT_of (csi1 g N hN 68 (by decide) (by decide)), acts1, quiet _ _ _ (by decide) (by decide)]
  rfl
structure MvI (w h : Int) (b : Nat) (W : World) (n : Nat) (i x y : Value) (wr : World) : Prop where
  out : ∃ (j : Nat) (X Y : Int) (p : Pg) (LA : List Res), j ≤ n ∧ i = .int .i64 j ∧ x = .int .i64 X ∧ y = .int .i64 Y ∧ Gd p ∧ (0 ≤ X ∧ X < endW w) ∧ (0 ≤ Y ∧ Y < endH h) ∧ TmOk ⟨goTo (newE w h) X Y, p⟩ ∧ TmL b ⟨goTo (newE w h) X Y, p⟩ LA ∧ Sep wr (LA ++ [.low W.heap.size W])
/-- a rest that is never negative -/
theorem rest (x k : Int) (hk : 0 < k) (hk2 : k ≤ 100000) : ∃ N : Nat, (N : Int) < k ∧ (wrap64 (x.tmod k + k)).tmod k = N := by
  have h1 := Int.tmod_lt_of_pos x hk
  have h2 := Int.lt_tmod_of_pos x hk
  have h0 : wrap64 (x.tmod k + k) = x.tmod k + k := by unfold wrap64; omega
  have h3 := Int.tmod_nonneg k (show 0 ≤ x.tmod k + k by omega)
  have h4 := Int.tmod_lt_of_pos (x.tmod k + k) hk
  rw [h0]
  exact ⟨((x.tmod k + k).tmod k).toNat, by omega, by omega⟩
set_option maxHeartbeats 4000000 in
theorem moves_any (w h : Int) (ao : Option Addr) (sb off n cap : Nat) (L : Nat → Int × Int) (W : World) (hao : ao = some ⟨sb, off, none⟩ ∨ n = 0) (hn : n ≤ 40) (hL : ∀ k, k < n → (-9223372036854775808 ≤ (L k).1 ∧ (L k).1 ≤ 9223372036854775807) ∧ (-9223372036854775808 ≤ (L k).2 ∧ (L k).2 ≤ 9223372036854775807))
    (hc : ∀ k, k < n → W.cell? ⟨sb, off + k * 2, none⟩ = some (.int .i64 (L k).1) ∧ W.cell? ⟨sb, off + k * 2 + 1, none⟩ = some (.int .i64 (L k).2)) (hsb : 0 < n → sb < W.heap.size) : Calls Tryz.prog 15 #[.int .i64 w, .int .i64 h, .slice ao n cap] W fun e w' => e = .returned (.bool true) ∧ Below W.heap.size W w' := by
  have HS := Lib.hid (Sep.start W)
  have HC := Lib.hid hc
  have HSB := Lib.hid hsb
  have HAO := Lib.hid hao
  have HLN := Lib.hid hL
  have hw2 : 2 ≤ endW w := by unfold endW; omega
  have hw4 : endW w ≤ 40 := by unfold endW; omega
  have hh1 : 1 ≤ endH h := by unfold endH; omega
  have hh2 : endH h ≤ 20 := by unfold endH; omega
  clear hc hsb hao hL
  go_enter Tryz.func15, Tryz.ntmps15
  go_wp2_with (first | (go_at_call 21; refine K32.ca (fun xw hs => ?_); clear HS; (with_reducible refine (alive_any _).mono ?_); rintro e w1 ⟨rfl, hb⟩; replace hs := hs.below hb; clear hb; have HS := Lib.hid hs; clear hs) | (go_at_call 22; refine K32.ca (fun xw hs => ?_); clear HS; (with_reducible refine (newL w h hs).mono ?_); rintro e w1 ⟨b, LA, rfl, hl, hs⟩; have HLA := Lib.hid hl; clear hl; have HS := Lib.hid hs; clear hs) | (go_at_call 23; refine (ends_any _ _ _).mono ?_; rintro e w1 ⟨rfl, rfl⟩))
  go_loopw [10, 8, 9] (fun i x y wr => MvI w h b W n i x y wr) (fun i _ _ _ => n - (intOf i).toNat)
  case atStart => exact ⟨⟨0, 0, 0, Pg.zero, LA, Nat.zero_le _, rfl, rfl, rfl, gd0, by omega, by omega, newT_ok w h, HLA.out, HS.out⟩⟩
  case round =>
    clear HS HLA
    obtain ⟨⟨j, X, Y, p, LA, hj, rfl, rfl, rfl, hg, hX, hY, ok, hA, hs⟩⟩ := hrel
    have hX0 := hX.1
    have hX1 := hX.2
    have hY0 := hY.1
    have hY1 := hY.2
    by_cases hlt : j < n
    · have hlow := hs.hereLow (B := W.heap.size) (w0 := W) rma
      rcases HAO.out with rfl | h0
      rotate_left
      · omega
      have hq := HC.out j hlt
      have c0 : wr.cell? ⟨sb, off + j * 2, none⟩ = some (.int .i64 (L j).1) := (World.cell?_of_block (hlow.block sb (HSB.out (by omega)))).trans hq.1
      have c1 : wr.cell? ⟨sb, off + j * 2 + 1, none⟩ = some (.int .i64 (L j).2) := (World.cell?_of_block (hlow.block sb (HSB.out (by omega)))).trans hq.2
      obtain ⟨k1, hk1⟩ : ∃ k, (L j).1 = k := ⟨_, rfl⟩
      obtain ⟨k2, hk2⟩ : ∃ k, (L j).2 = k := ⟨_, rfl⟩
      rw [hk1] at c0
      rw [hk2] at c1
      obtain ⟨C, hC4, hC⟩ := rest k1 4 (by decide) (by decide)
      obtain ⟨N, hN50, hN⟩ := rest k2 50 (by decide) (by decide)
      obtain ⟨D, hD⟩ : ∃ D, D = (⟨(digF N).toArray⟩ : ByteArray) := ⟨_, rfl⟩
      have hDs := dig_size hD
      have HD := Lib.hid hD
      have OK := Lib.hid ok
      have HLA := Lib.hid hA
      have HS := Lib.hid hs
      have HL0 := digN_len 20 N
      clear hlow hq hk1 hk2 ok hA hs HAO
      have hCC : C = 0 ∨ C = 1 ∨ C = 2 ∨ C = 3 := by omega
      rcases hCC with rfl | rfl | rfl | rfl
      · have HF := Lib.hid (mv0 w h p X Y N hg hX hY (by omega))
        have HQ := Lib.hid (show ([⟨#[27, 91]⟩, D, ⟨#[65]⟩] : List ByteArray).flatMap (fun s => s.data.toList) = [27, 91] ++ (digF N ++ [65]) from by rw [hD]; rfl)
        replace hC : (wrap64 (k1.tmod 4 + 4)).tmod 4 = 0 := hC
        have HOK1 := feedT_ok OK.out ([27, 91] ++ (digF N ++ [65]))
        rw [HF.out] at HOK1
        have OK1 := Lib.hid HOK1
        have HL := Lib.hid (show ([27, 91] ++ (digF N ++ [65])).length ≤ 10000 from by simp only [List.length_append]; show 2 + ((digN 20 N).length + 1) ≤ _; omega)
        clear hD hg HOK1
        go_wp2_with (first | (go_at_call 27; refine K32.ca (fun xw hs => ?_); clear HS; (with_reducible refine (digits_i N D HD.out (by omega) (by omega)).mono ?_); rintro e w1 ⟨rfl, hb⟩; replace hs := hs.below hb; clear hb; have HS := Lib.hid hs; clear hs) | (go_at_call 24; refine K32.ca (fun xw hs => ?_); clear HS; have hC := feedL [⟨#[27, 91]⟩, D, ⟨#[65]⟩] ([27, 91] ++ (digF N ++ [65])) hs HLA.out OK.out HF.out HQ.out HL.out rfl; refine hC.mono ?_; clear hC; rintro e w1 ⟨LA, rfl, hl, hs⟩; clear HLA; have HLA := Lib.hid hl; clear hl; have HS := Lib.hid hs; clear hs) | (go_at_call 34; refine K32.ca (fun xw hs => ?_); clear HS; have hC := screenL (fun k c => .agg #[.int .i64 (endW w), .int .i64 (endH h), .slice (some ⟨k, 0, none⟩) (newG w h).c.length c, .int .i64 X, .int .i64 (max (Y - max (N : Int) 1) 0), .bool false]) hs HLA.out OK1.out (fun k c => rfl); refine hC.mono ?_; clear hC; rintro e w1 ⟨k, c, LA, rfl, hl, hs⟩; clear HLA; have HLA := Lib.hid hl; clear hl; have HS := Lib.hid hs; clear hs))
        go_roundw
        case rel => exact ⟨⟨j + 1, X, (max (Y - max (N : Int) 1) 0), G0, LA, by omega, by go_num, rfl, rfl, gdG, by omega, by omega, OK1.out, HLA.out, se⟩⟩
        case measure => simp [intOf]; omega
      · have HF := Lib.hid (mv1 w h p X Y N hg hX hY (by omega))
        have HQ := Lib.hid (show ([⟨#[27, 91]⟩, D, ⟨#[66]⟩] : List ByteArray).flatMap (fun s => s.data.toList) = [27, 91] ++ (digF N ++ [66]) from by rw [hD]; rfl)
        replace hC : (wrap64 (k1.tmod 4 + 4)).tmod 4 = 1 := hC
        have HOK1 := feedT_ok OK.out ([27, 91] ++ (digF N ++ [66]))
        rw [HF.out] at HOK1
        have OK1 := Lib.hid HOK1
        have HL := Lib.hid (show ([27, 91] ++ (digF N ++ [66])).length ≤ 10000 from by simp only [List.length_append]; show 2 + ((digN 20 N).length + 1) ≤ _; omega)
        clear hD hg HOK1
        go_wp2_with (first | (go_at_call 27; refine K32.ca (fun xw hs => ?_); clear HS; (with_reducible refine (digits_i N D HD.out (by omega) (by omega)).mono ?_); rintro e w1 ⟨rfl, hb⟩; replace hs := hs.below hb; clear hb; have HS := Lib.hid hs; clear hs) | (go_at_call 24; refine K32.ca (fun xw hs => ?_); clear HS; have hC := feedL [⟨#[27, 91]⟩, D, ⟨#[66]⟩] ([27, 91] ++ (digF N ++ [66])) hs HLA.out OK.out HF.out HQ.out HL.out rfl; refine hC.mono ?_; clear hC; rintro e w1 ⟨LA, rfl, hl, hs⟩; clear HLA; have HLA := Lib.hid hl; clear hl; have HS := Lib.hid hs; clear hs) | (go_at_call 34; refine K32.ca (fun xw hs => ?_); clear HS; have hC := screenL (fun k c => .agg #[.int .i64 (endW w), .int .i64 (endH h), .slice (some ⟨k, 0, none⟩) (newG w h).c.length c, .int .i64 X, .int .i64 (min (Y + max (N : Int) 1) (endH h - 1)), .bool false]) hs HLA.out OK1.out (fun k c => rfl); refine hC.mono ?_; clear hC; rintro e w1 ⟨k, c, LA, rfl, hl, hs⟩; clear HLA; have HLA := Lib.hid hl; clear hl; have HS := Lib.hid hs; clear hs))
        go_roundw
        case rel => exact ⟨⟨j + 1, X, (min (Y + max (N : Int) 1) (endH h - 1)), G0, LA, by omega, by go_num, rfl, rfl, gdG, by omega, by omega, OK1.out, HLA.out, se⟩⟩
        case measure => simp [intOf]; omega
      · have HF := Lib.hid (mv2 w h p X Y N hg hX hY (by omega))
        have HQ := Lib.hid (show ([⟨#[27, 91]⟩, D, ⟨#[67]⟩] : List ByteArray).flatMap (fun s => s.data.toList) = [27, 91] ++ (digF N ++ [67]) from by rw [hD]; rfl)
        replace hC : (wrap64 (k1.tmod 4 + 4)).tmod 4 = 2 := hC
        have HOK1 := feedT_ok OK.out ([27, 91] ++ (digF N ++ [67]))
        rw [HF.out] at HOK1
        have OK1 := Lib.hid HOK1
        have HL := Lib.hid (show ([27, 91] ++ (digF N ++ [67])).length ≤ 10000 from by simp only [List.length_append]; show 2 + ((digN 20 N).length + 1) ≤ _; omega)
        clear hD hg HOK1
        go_wp2_with (first | (go_at_call 27; refine K32.ca (fun xw hs => ?_); clear HS; (with_reducible refine (digits_i N D HD.out (by omega) (by omega)).mono ?_); rintro e w1 ⟨rfl, hb⟩; replace hs := hs.below hb; clear hb; have HS := Lib.hid hs; clear hs) | (go_at_call 24; refine K32.ca (fun xw hs => ?_); clear HS; have hC := feedL [⟨#[27, 91]⟩, D, ⟨#[67]⟩] ([27, 91] ++ (digF N ++ [67])) hs HLA.out OK.out HF.out HQ.out HL.out rfl; refine hC.mono ?_; clear hC; rintro e w1 ⟨LA, rfl, hl, hs⟩; clear HLA; have HLA := Lib.hid hl; clear hl; have HS := Lib.hid hs; clear hs) | (go_at_call 34; refine K32.ca (fun xw hs => ?_); clear HS; have hC := screenL (fun k c => .agg #[.int .i64 (endW w), .int .i64 (endH h), .slice (some ⟨k, 0, none⟩) (newG w h).c.length c, .int .i64 (min (X + max (N : Int) 1) (endW w - 1)), .int .i64 Y, .bool false]) hs HLA.out OK1.out (fun k c => rfl); refine hC.mono ?_; clear hC; rintro e w1 ⟨k, c, LA, rfl, hl, hs⟩; clear HLA; have HLA := Lib.hid hl; clear hl; have HS := Lib.hid hs; clear hs))
        go_roundw
        case rel => exact ⟨⟨j + 1, (min (X + max (N : Int) 1) (endW w - 1)), Y, G0, LA, by omega, by go_num, rfl, rfl, gdG, by omega, by omega, OK1.out, HLA.out, se⟩⟩
        case measure => simp [intOf]; omega
      · have HF := Lib.hid (mv3 w h p X Y N hg hX hY (by omega))
        have HQ := Lib.hid (show ([⟨#[27, 91]⟩, D, ⟨#[68]⟩] : List ByteArray).flatMap (fun s => s.data.toList) = [27, 91] ++ (digF N ++ [68]) from by rw [hD]; rfl)
        replace hC : (wrap64 (k1.tmod 4 + 4)).tmod 4 = 3 := hC
        have HOK1 := feedT_ok OK.out ([27, 91] ++ (digF N ++ [68]))
        rw [HF.out] at HOK1
        have OK1 := Lib.hid HOK1
        have HL := Lib.hid (show ([27, 91] ++ (digF N ++ [68])).length ≤ 10000 from by simp only [List.length_append]; show 2 + ((digN 20 N).length + 1) ≤ _; omega)
        clear hD hg HOK1
        go_wp2_with (first | (go_at_call 27; refine K32.ca (fun xw hs => ?_); clear HS; (with_reducible refine (digits_i N D HD.out (by omega) (by omega)).mono ?_); rintro e w1 ⟨rfl, hb⟩; replace hs := hs.below hb; clear hb; have HS := Lib.hid hs; clear hs) | (go_at_call 24; refine K32.ca (fun xw hs => ?_); clear HS; have hC := feedL [⟨#[27, 91]⟩, D, ⟨#[68]⟩] ([27, 91] ++ (digF N ++ [68])) hs HLA.out OK.out HF.out HQ.out HL.out rfl; refine hC.mono ?_; clear hC; rintro e w1 ⟨LA, rfl, hl, hs⟩; clear HLA; have HLA := Lib.hid hl; clear hl; have HS := Lib.hid hs; clear hs) | (go_at_call 34; refine K32.ca (fun xw hs => ?_); clear HS; have hC := screenL (fun k c => .agg #[.int .i64 (endW w), .int .i64 (endH h), .slice (some ⟨k, 0, none⟩) (newG w h).c.length c, .int .i64 (max (X - max (N : Int) 1) 0), .int .i64 Y, .bool false]) hs HLA.out OK1.out (fun k c => rfl); refine hC.mono ?_; clear hC; rintro e w1 ⟨k, c, LA, rfl, hl, hs⟩; clear HLA; have HLA := Lib.hid hl; clear hl; have HS := Lib.hid hs; clear hs))
        go_roundw
        case rel => exact ⟨⟨j + 1, (max (X - max (N : Int) 1) 0), Y, G0, LA, by omega, by go_num, rfl, rfl, gdG, by omega, by omega, OK1.out, HLA.out, se⟩⟩
        case measure => simp [intOf]; omega
    · have hje : j = n := by omega
      have HS := Lib.hid hs
      clear ok hA hs HAO hg
      go_wp2_with fail
      go_ret
      exact ⟨rfl, HS.out.hereLow (B := W.heap.size) (w0 := W) rma⟩
theorem moves_long (w h : Int) (ao : Option Addr) (n cap : Nat) (W : World) (hn : 40 < n) (hn2 : n ≤ 9223372036854775807) : Calls Tryz.prog 15 #[.int .i64 w, .int .i64 h, .slice ao n cap] W fun e w' => e = .returned (.bool true) ∧ Below W.heap.size W w' := by
  have HS := Lib.hid (Sep.start W)
  go_enter Tryz.func15, Tryz.ntmps15
  go_wp2_with (first | (go_at_call 21; refine K32.ca (fun xw hs => ?_); clear HS; (with_reducible refine (alive_any _).mono ?_); rintro e w1 ⟨rfl, hb⟩; replace hs := hs.below hb; clear hb; have HS := Lib.hid hs; clear hs))
  go_ret
  exact ⟨rfl, HS.out.hereLow (B := W.heap.size) (w0 := W) rma⟩
theorem law_any (w h : Int) (ao : Option Addr) (sb off n cap : Nat) (L : Nat → Int × Int) (W : World) (hao : ao = some ⟨sb, off, none⟩ ∨ n = 0) (hn : n ≤ 9223372036854775807) (hL : ∀ k, k < n → (-9223372036854775808 ≤ (L k).1 ∧ (L k).1 ≤ 9223372036854775807) ∧ (-9223372036854775808 ≤ (L k).2 ∧ (L k).2 ≤ 9223372036854775807))
    (hc : ∀ k, k < n → W.cell? ⟨sb, off + k * 2, none⟩ = some (.int .i64 (L k).1) ∧ W.cell? ⟨sb, off + k * 2 + 1, none⟩ = some (.int .i64 (L k).2)) (hsb : 0 < n → sb < W.heap.size) : Calls Tryz.prog 15 #[.int .i64 w, .int .i64 h, .slice ao n cap] W fun e w' => e = .returned (.bool true) ∧ Below W.heap.size W w' := by
  by_cases h1 : n ≤ 40
  · exact moves_any w h ao sb off n cap L W hao h1 hL hc hsb
  · exact moves_long w h ao n cap W (by omega) hn
end Go.Proofs.YtnjgnbdebkckfaaGreatDoor.X5
namespace Go.Proofs.YtnjgnbdebkckfaaGreatDoor.X7
set_option maxRecDepth 100000
open Go.RowKit K1 K3 K5 K11 K12 K14 K20 K21 K22 K25 K30 K31 M0 M0 ME MF T21 T22 T23 T24 MP Y0 Y1 Y2 X4
attribute [local go_sem] cell_pastA froz_pastA
def stO (h T B x y : Int) (o : Bool) : Te := { newE 9 h with m := { (newE 9 h).m with cu := { cu0 with x := x, y := y, origin := o }, top := T, bottom := B, late := false } }
def QA (T B r : Int) : List UInt8 := [27, 91] ++ (digF (T + 1) ++ ([59] ++ (digF B ++ ([114, 27, 91, 63, 54, 104, 27, 91] ++ (digF r ++ [59, 51, 72])))))
def QC (r : Int) : List UInt8 := [27, 91, 63, 54, 108, 27, 91] ++ (digF r ++ [59, 51, 72])
theorem csi2i {p : Pg} (g : Gd p) (n k : Int) (hn0 : 0 ≤ n) (hn : n ≤ 9999) (hk0 : 0 ≤ k) (hk : k ≤ 9999) (b : UInt8) (h1 : 64 ≤ b.toNat) (h2 : b.toNat ≤ 126) : feedP p ([27, 91] ++ (digF n ++ ([59] ++ (digF k ++ [b])))) = ([⟨4, 0, b.toNat, 0, [n, k], [], []⟩], G0) := by
  obtain ⟨n, rfl⟩ := Int.eq_ofNat_of_zero_le hn0
  obtain ⟨k, rfl⟩ := Int.eq_ofNat_of_zero_le hk0
  exact csi2 g n k (by omega) (by omega) b h1 h2
theorem row3 {p : Pg} (g : Gd p) (r : Int) (h0 : 0 ≤ r) (h1 : r ≤ 50) : feedP p ([27, 91] ++ (digF r ++ [59, 51, 72])) = ([⟨4, 0, 72, 0, [r, 3], [], []⟩], G0) := csi2i g r 3 h0 (by omega) (by decide) (by decide) 72 (by decide) (by decide)
theorem pA {p : Pg} (g : Gd p) (T B r : Int) (h0 : 0 ≤ T) (h1 : T ≤ 100) (b0 : 0 ≤ B) (b1 : B ≤ 100) (r0 : 0 ≤ r) (r1 : r ≤ 50) : feedP p (QA T B r) = ([⟨4, 0, 114, 0, [T + 1, B], [], []⟩, ⟨4, 0, 104, 63, [6], [], []⟩, ⟨4, 0, 72, 0, [r, 3], [], []⟩], G0) := by
  have e : QA T B r = ([27, 91] ++ (digF (T + 1) ++ ([59] ++ (digF B ++ [114])))) ++ ([27, 91, 63, 54, 104] ++ ([27, 91] ++ (digF r ++ [59, 51, 72]))) := by simp [QA]
  rw [e]
  exact fd_app p _ _ (csi2i g (T + 1) B (by omega) (by omega) b0 (by omega) 114 (by decide) (by decide)) (fd_app _ _ _ (A := [⟨4, 0, 104, 63, [6], [], []⟩]) (q := G0) (by kernel_rfl) (row3 gdG r r0 r1))
theorem pC {p : Pg} (g : Gd p) (r : Int) (r0 : 0 ≤ r) (r1 : r ≤ 50) : feedP p (QC r) = ([⟨4, 0, 108, 63, [6], [], []⟩, ⟨4, 0, 72, 0, [r, 3], [], []⟩], G0) := by
  have e : QC r = ([27] ++ [91, 63, 54, 108]) ++ ([27, 91] ++ (digF r ++ [59, 51, 72])) := by simp [QC]
  rw [e]
  exact fd_app p _ _ (fd_app p [27] [91, 63, 54, 108] (A := []) (B := [⟨4, 0, 108, 63, [6], [], []⟩]) (r := G0) (fd_one _ _ (st_esc g)) (by kernel_rfl)) (row3 gdG r r0 r1)
theorem acts3 (t : Te) (a b c : Ac) : actsE t [a, b, c] = (actR t a ++ (actR (actE1 t a) b ++ (actR (actE1 (actE1 t a) b) c ++ [])), actE1 (actE1 (actE1 t a) b) c) := rfl
theorem quietQ (t : Te) (b m : Int) (n : List Int) (h : b ≠ 110) (h2 : b ≠ 99) : actR t ⟨4, 0, b, m, n, [], []⟩ = [] := by simp [actR, csiR, stateR, h, h2]
/-- the region's act -/
theorem a_reg (h T B : Int) (hT : 0 ≤ T) (hB : (T < B - 1 ∧ B ≤ endH h) ∨ (T = 0 ∧ B = endH h)) (hh : 1 ≤ endH h) : actE1 (newE 9 h) ⟨4, 0, 114, 0, [T + 1, B], [], []⟩ = stO h T B 0 0 false := by
  have e1 : countN [T + 1, B] 0 - 1 = T := by show max (T + 1) 1 - 1 = T; omega
  have e2 : atN [T + 1, B] 1 = B := rfl
  have e3 : (newE 9 h).cg.h = endH h := rfl
  have e4 : (if atN [T + 1, B] 1 < 1 ∨ (newE 9 h).cg.h < atN [T + 1, B] 1 then (newE 9 h).cg.h else atN [T + 1, B] 1) = B := by
    rw [e2, e3]
    exact if_neg (by omega)
  show regionE (newE 9 h) [T + 1, B] = _
  unfold regionE
  rw [e4, e1]
  by_cases hc : T < B - 1
  · rw [if_pos hc]
    rfl
  · rw [if_neg hc]
    obtain ⟨rfl, rfl⟩ : T = 0 ∧ B = endH h := by omega
    rfl
theorem a_row (h T B x y r : Int) : actE1 (stO h T B x y true) ⟨4, 0, 72, 0, [r, 3], [], []⟩ = stO h T B 2 (min (max r 1 - 1) (B - 1 - T) + T) true := rfl
theorem a_rowN (h T B x y r : Int) : actE1 (stO h T B x y false) ⟨4, 0, 72, 0, [r, 3], [], []⟩ = stO h T B 2 (min (max r 1 - 1) (endH h - 1)) false := rfl
theorem a_on (h T B x y : Int) (o : Bool) : actE1 (stO h T B x y o) ⟨4, 0, 104, 63, [6], [], []⟩ = stO h T B 0 T true := rfl
theorem a_off (h T B x y : Int) (o : Bool) : actE1 (stO h T B x y o) ⟨4, 0, 108, 63, [6], [], []⟩ = stO h T B 0 0 false := rfl
theorem r_6 (h T B y : Int) : actR (stO h T B 2 y true) ⟨4, 0, 110, 0, [6], [], []⟩ = [27, 91] ++ digF (max (y - T) 0 + 1) ++ [59] ++ digF 3 ++ [82] := rfl
theorem fA (h T B r y : Int) (hT : 0 ≤ T) (hB : (T < B - 1 ∧ B ≤ endH h) ∨ (T = 0 ∧ B = endH h)) (r0 : 0 ≤ r) (r1 : r ≤ 50) (hh : 1 ≤ endH h ∧ endH h ≤ 20) (hy : y = T + min (max r 1) (B - T) - 1) : feedT (newT 9 h) (QA T B r) = ([], ⟨stO h T B 2 y true, G0⟩) := by
  rw [feedT_of (pA gd0 T B r hT (by omega) (by omega) (by omega) r0 r1), acts3, quietQ _ _ _ _ (by decide) (by decide), quietQ _ _ _ _ (by decide) (by decide), quietQ _ _ _ _ (by decide) (by decide)]
  rw [show (newT 9 h).t = newE 9 h from rfl, a_reg h T B hT hB hh.1, a_on, a_row, show min (max r 1 - 1) (B - 1 - T) + T = y by omega]
  rfl
theorem fB (h T B y K : Int) (hT : 0 ≤ T) (h0 : y = T + K - 1) (h1 : 1 ≤ K) : feedT ⟨stO h T B 2 y true, G0⟩ [27, 91, 54, 110] = ([27, 91] ++ digF K ++ [59, 51, 82], ⟨stO h T B 2 y true, G0⟩) := by
  rw [feedT_of (m := ⟨stO h T B 2 y true, G0⟩) (A := [⟨4, 0, 110, 0, [6], [], []⟩]) (p := G0) (by kernel_rfl), X5.acts1]
  rw [show (⟨stO h T B 2 y true, G0⟩ : Tm).t = stO h T B 2 y true from rfl, act_6, r_6, show max (y - T) 0 + 1 = K by omega, show digF 3 = [51] from rfl]
  simp
theorem fC (h T B y r K : Int) (r0 : 0 ≤ r) (r1 : r ≤ 50) (hK : K = min (max r 1) (endH h)) : feedT ⟨stO h T B 2 y true, G0⟩ (QC r) = ([], ⟨stO h T B 2 (K - 1) false, G0⟩) := by
  rw [feedT_of (m := ⟨stO h T B 2 y true, G0⟩) (pC gdG r r0 r1), acts2, quietQ _ _ _ _ (by decide) (by decide), quietQ _ _ _ _ (by decide) (by decide)]
  rw [show (⟨stO h T B 2 y true, G0⟩ : Tm).t = stO h T B 2 y true from rfl, a_off, a_rowN, show min (max r 1 - 1) (endH h - 1) = K - 1 by omega]
  rfl
set_option maxHeartbeats 4000000 in
theorem origins_any (h top bottom row : Int) (W : World) (h0 : 0 ≤ row) (h50 : row ≤ 50) : Calls Tryz.prog 12 #[.int .i64 h, .int .i64 top, .int .i64 bottom, .int .i64 row] W fun e w' => e = .returned (.bool true) ∧ Below W.heap.size W w' := by
  have HS := Lib.hid (Sep.start W)
  have hh1 : 1 ≤ endH h := by unfold endH; omega
  have hh2 : endH h ≤ 20 := by unfold endH; omega
  obtain ⟨N1, n1, r1⟩ := X5.rest top (endH h) (by omega) (by omega)
  obtain ⟨N2, n2, r2⟩ := X5.rest bottom (endH h) (by omega) (by omega)
  obtain ⟨D3, hD3⟩ : ∃ D, D = (⟨(digF row).toArray⟩ : ByteArray) := ⟨_, rfl⟩
  have HD3 := Lib.hid hD3
  have hs3 := dig_size hD3
  have HL3 := Lib.hid (show (QC row).length ≤ 10000 from by have h3 := digN_len 20 row.toNat; simp only [QC, List.length_append]; show 7 + ((digN 20 row.toNat).length + 3) ≤ _; omega)
  obtain ⟨m0, hm0⟩ : ∃ m0, m0 = newT 9 h := ⟨_, rfl⟩
  have OK0 := Lib.hid (show TmOk m0 from hm0 ▸ newT_ok 9 h)
  have HM0 := Lib.hid hm0
  clear hD3 hm0
  have hw1 : wrap64 ((N1 : Int) + 1) = N1 + 1 := by unfold wrap64; omega
  have hw2 : wrap64 ((N2 : Int) + 1) = N2 + 1 := by unfold wrap64; omega
  have r1r : (IntKind.i64.wrap (top.tmod (endH h) + endH h)).tmod (endH h) = N1 := by rw [IntWalk.i64_left]; exact r1
  have r2r : IntKind.i64.wrap ((IntKind.i64.wrap (bottom.tmod (endH h) + endH h)).tmod (endH h) + 1) = N2 + 1 := by rw [IntWalk.i64_left, IntWalk.i64_left, r2]; exact hw2
  have H1R := Lib.hid r1r
  have H2R := Lib.hid r2r
  clear r1r r2r
  have hw3 : wrap64 (N2 : Int) = N2 := by unfold wrap64; omega
  have hcc : ((N2 : Int) ≤ N1) ∨ ((N1 : Int) < N2) := by omega
  rcases hcc with hc | hc
  · have hc2 : wrap64 (N2 : Int) ≤ (wrap64 (top.tmod (endH h) + endH h)).tmod (endH h) := by rw [r1, hw3]; exact hc
    go_enter Tryz.func12, Tryz.ntmps12
    go_wp2_with (first | (go_at_call 21; refine K32.ca (fun xw hs => ?_); clear HS; (try simp only [World.size_alloc, World.size_setCell] at hs); (with_reducible refine (alive_any _).mono ?_); rintro e w1 ⟨rfl, hb⟩; replace hs := hs.below hb; clear hb; have HS := Lib.hid hs; clear hs) | (go_at_call 22; refine K32.ca (fun xw hs => ?_); clear HS; (try simp only [World.size_alloc, World.size_setCell] at hs); (with_reducible refine (newL 9 h hs).mono ?_); rintro e w1 ⟨b, LA, rfl, hl, hs⟩; rw [← HM0.out] at hl; have HLA := Lib.hid hl; clear hl; have HS := Lib.hid hs; clear hs) | (go_at_call 23; refine (ends_any _ _ _).mono ?_; rintro e w1 ⟨rfl, rfl⟩) | (refine K30.atR (id := 7) ?_; (with_reducible apply K30.wp_at); exact K32.fnd0; intro xw hs; skip; skip; have HS := Lib.hid hs; clear hs; refine K32.reg0 (w := xw) [] [] 17 ?_; simp only [numbered, List.take_succ_cons, List.take_zero, List.drop_succ_cons, List.drop_zero, List.take_nil, List.drop_nil, Nat.reduceAdd]; (iterate 17 (refine K32.zd ?_; (try go_simp))); refine wz_nil ?_; intro wq hbq hLq; clear hLq ; have hcwq := cellA hbq; have hfwq := frozA hbq; have hzwq := hbq.size; (try simp at hzwq); have hs := HS.out.below hbq; skip; have HS := Lib.hid hs; clear hs hcwq hfwq hzwq hbq; (try simp only [H1R.out, H2R.out])) | fail)
    obtain ⟨K, hK⟩ : ∃ K, min (max row 1) (endH h) = K := ⟨_, rfl⟩
    have k1 : 1 ≤ K := by omega
    have k2 : K ≤ 20 := by omega
    have hw5 : wrap64 (endH h) = endH h := by unfold wrap64; omega
    have hw6 : wrap64 K = K := by unfold wrap64; omega
    have hw7 : wrap64 (K - 1) = K - 1 := by unfold wrap64; omega
    obtain ⟨D1, hD1⟩ : ∃ D, D = (⟨(digF 1).toArray⟩ : ByteArray) := ⟨_, rfl⟩
    obtain ⟨D2, hD2⟩ : ∃ D, D = (⟨(digF (endH h)).toArray⟩ : ByteArray) := ⟨_, rfl⟩
    obtain ⟨D4, hD4⟩ : ∃ D, D = (⟨(digF K).toArray⟩ : ByteArray) := ⟨_, rfl⟩
    obtain ⟨m1, hm1⟩ : ∃ m1, m1 = (⟨stO h ((0 : Int)) ((endH h)) 2 (K - 1) true, G0⟩ : Tm) := ⟨_, rfl⟩
    obtain ⟨m2, hm2⟩ : ∃ m2, m2 = (⟨stO h ((0 : Int)) ((endH h)) 2 (K - 1) false, G0⟩ : Tm) := ⟨_, rfl⟩
    have f1 : feedT m0 (QA ((0 : Int)) ((endH h)) row) = ([], m1) := by rw [HM0.out, hm1]; exact fA h ((0 : Int)) ((endH h)) row (K - 1) (by omega) (by omega) h0 h50 (by omega) (by omega)
    have f2 : feedT m1 [27, 91, 54, 110] = ([27, 91] ++ digF K ++ [59, 51, 82], m1) := by rw [hm1]; exact fB h ((0 : Int)) ((endH h)) (K - 1) K (by omega) (by omega) (by omega)
    have f3 : feedT m1 (QC row) = ([], m2) := by rw [hm1, hm2]; exact fC h ((0 : Int)) ((endH h)) (K - 1) row K h0 h50 (by omega)
    have ok1 : TmOk m1 := by have := feedT_ok OK0.out (QA ((0 : Int)) ((endH h)) row); rw [f1] at this; exact this
    have ok2 : TmOk m2 := by have := feedT_ok ok1 (QC row); rw [f3] at this; exact this
    have hQ1 : ([⟨#[27, 91]⟩, D1, ⟨#[59]⟩, D2, ⟨#[114, 27, 91, 63, 54, 104, 27, 91]⟩, D3, ⟨#[59, 51, 72]⟩] : List ByteArray).flatMap (fun s => s.data.toList) = QA ((0 : Int)) ((endH h)) row := by rw [hD1, hD2, HD3.out]; rfl
    have hL1 : (QA ((0 : Int)) ((endH h)) row).length ≤ 10000 := by
      have h1 := digN_len 20 ((0 : Int) + 1).toNat; have h2 := digN_len 20 ((endH h)).toNat; have h3 := digN_len 20 row.toNat
      simp only [QA, List.length_append]; show 2 + ((digN 20 ((0 : Int) + 1).toNat).length + (1 + ((digN 20 ((endH h)).toNat).length + (8 + ((digN 20 row.toNat).length + 3))))) ≤ _; omega
    have hQ3 : ([⟨#[27, 91, 63, 54, 108, 27, 91]⟩, D3, ⟨#[59, 51, 72]⟩] : List ByteArray).flatMap (fun s => s.data.toList) = QC row := by rw [HD3.out]; rfl
    have hZ2 : (⟨#[27, 91]⟩ ++ D4 ++ ⟨#[59, 51, 82]⟩ : ByteArray) = ⟨([27, 91] ++ digF K ++ [59, 51, 82]).toArray⟩ := by rw [hD4]; apply ByteArray.ext; simp
    have hx1 : m1.t.m.cu.x = 2 := by rw [hm1]; rfl
    have hy1 : m1.t.m.cu.y = (K - 1) := by rw [hm1]; rfl
    have hx2 : m2.t.m.cu.x = 2 := by rw [hm2]; rfl
    have hy2 : m2.t.m.cu.y = (K - 1) := by rw [hm2]; rfl
    have hs4 := dig_size hD4
    have HD1 := Lib.hid hD1; have HD2 := Lib.hid hD2; have HD4 := Lib.hid hD4; have HF1 := Lib.hid f1; have HF2 := Lib.hid f2; have HF3 := Lib.hid f3
    have OK1 := Lib.hid ok1; have OK2 := Lib.hid ok2; have HQ1 := Lib.hid hQ1; have HL1 := Lib.hid hL1; have HQ3 := Lib.hid hQ3; have HZ2 := Lib.hid hZ2
    have HX1 := Lib.hid hx1; have HY1 := Lib.hid hy1; have HX2 := Lib.hid hx2; have HY2 := Lib.hid hy2
    clear hD1 hD2 hD4 f1 f2 f3 ok1 ok2 hQ1 hL1 hQ3 hZ2 hx1 hy1 hx2 hy2 hm1 hm2
    go_wp2_with (first | (go_at_call 27; refine K32.ca (fun xw hs => ?_); clear HS; (try simp only [World.size_alloc, World.size_setCell] at hs); (with_reducible refine (digits_i 1 D1 HD1.out (by omega) (by omega)).mono ?_); rintro e w1 ⟨rfl, hb⟩; replace hs := hs.below hb; clear hb; have HS := Lib.hid hs; clear hs) | (go_at_call 27; refine K32.ca (fun xw hs => ?_); clear HS; (try simp only [World.size_alloc, World.size_setCell] at hs); (with_reducible refine (digits_i (endH h) D2 HD2.out (by omega) (by omega)).mono ?_); rintro e w1 ⟨rfl, hb⟩; replace hs := hs.below hb; clear hb; have HS := Lib.hid hs; clear hs) | (go_at_call 27; refine K32.ca (fun xw hs => ?_); clear HS; (try simp only [World.size_alloc, World.size_setCell] at hs); (with_reducible refine (digits_i row D3 HD3.out (by omega) (by omega)).mono ?_); rintro e w1 ⟨rfl, hb⟩; replace hs := hs.below hb; clear hb; have HS := Lib.hid hs; clear hs) | (go_at_call 27; refine K32.ca (fun xw hs => ?_); clear HS; (try simp only [World.size_alloc, World.size_setCell] at hs); (with_reducible refine (digits_i K D4 HD4.out (by omega) (by omega)).mono ?_); rintro e w1 ⟨rfl, hb⟩; replace hs := hs.below hb; clear hb; (try clear hcS hzS hlS); obtain ⟨hcS, hzS, hlS⟩ := hs.here (t := 47) (cs := [.int .i64 m1.t.cg.w, _, _, _, _, _]) rma; (try clear hcU hzU hlU); obtain ⟨hcU, hzU, hlU⟩ := hs.here (t := 47) (cs := [.int .i64 m2.t.cg.w, _, _, _, _, _]) rma; have HS := Lib.hid hs; clear hs) | (go_at_call 24; refine K32.ca (fun xw hs => ?_); clear HS; (try simp only [World.size_alloc, World.size_setCell] at hs); have hC := feedL [⟨#[27, 91]⟩, D1, ⟨#[59]⟩, D2, ⟨#[114, 27, 91, 63, 54, 104, 27, 91]⟩, D3, ⟨#[59, 51, 72]⟩] (QA ((0 : Int)) ((endH h)) row) hs HLA.out OK0.out HF1.out HQ1.out HL1.out rfl; refine hC.mono ?_; clear hC; rintro e w1 ⟨LA, rfl, hl, hs⟩; clear HLA; have HLA := Lib.hid hl; clear hl; have HS := Lib.hid hs; clear hs) | (go_at_call 24; refine K32.ca (fun xw hs => ?_); clear HS; (try simp only [World.size_alloc, World.size_setCell] at hs); have hC := feedL [⟨#[27, 91, 54, 110]⟩] [27, 91, 54, 110] hs HLA.out OK1.out HF2.out rfl (by decide) HZ2.out; refine hC.mono ?_; clear hC; rintro e w1 ⟨LA, rfl, hl, hs⟩; clear HLA; have HLA := Lib.hid hl; clear hl; have HS := Lib.hid hs; clear hs) | (go_at_call 24; refine K32.ca (fun xw hs => ?_); clear HS; (try simp only [World.size_alloc, World.size_setCell] at hs); have hC := feedL [⟨#[27, 91, 63, 54, 108, 27, 91]⟩, D3, ⟨#[59, 51, 72]⟩] (QC row) hs HLA.out OK1.out HF3.out HQ3.out HL3.out rfl; refine hC.mono ?_; clear hC; rintro e w1 ⟨LA, rfl, hl, hs⟩; clear HLA; have HLA := Lib.hid hl; clear hl; have HS := Lib.hid hs; clear hs) | (go_at_call 34; refine K32.ca (fun xw hs => ?_); clear HS; (try simp only [World.size_alloc, World.size_setCell] at hs); have hC := screenL (fun k c => .agg #[.int .i64 m1.t.cg.w, .int .i64 m1.t.cg.h, .slice (some ⟨k, 0, none⟩) m1.t.cg.c.length c, .int .i64 2, .int .i64 (K - 1), .bool m1.t.m.hidden]) hs HLA.out OK1.out (fun k c => by unfold scrV; rw [HX1.out, HY1.out]); refine hC.mono ?_; clear hC; rintro e w1 ⟨k, c, LA, rfl, hl, hs⟩; clear HLA; have HLA := Lib.hid hl; clear hl; have HS := Lib.hid hs; clear hs) | (go_at_call 34; refine K32.ca (fun xw hs => ?_); clear HS; (try simp only [World.size_alloc, World.size_setCell] at hs); have hC := screenL (fun k c => .agg #[.int .i64 m2.t.cg.w, .int .i64 m2.t.cg.h, .slice (some ⟨k, 0, none⟩) m2.t.cg.c.length c, .int .i64 2, .int .i64 (K - 1), .bool m2.t.m.hidden]) hs HLA.out OK2.out (fun k c => by unfold scrV; rw [HX2.out, HY2.out]); refine hC.mono ?_; clear hC; rintro e w1 ⟨k, c, LA, rfl, hl, hs⟩; clear HLA; have HLA := Lib.hid hl; clear hl; (try clear hcS hzS hlS); obtain ⟨hcS, hzS, hlS⟩ := hs.here (t := 47) (cs := [.int .i64 m1.t.cg.w, _, _, _, _, _]) rma; have HS := Lib.hid hs; clear hs) | fail)
    go_ret
    exact ⟨rfl, HS.out.hereLow (B := W.heap.size) (w0 := W) rma⟩
  · have hc2 : (wrap64 (top.tmod (endH h) + endH h)).tmod (endH h) < wrap64 (N2 : Int) := by rw [r1, hw3]; exact hc
    go_enter Tryz.func12, Tryz.ntmps12
    go_wp2_with (first | (go_at_call 21; refine K32.ca (fun xw hs => ?_); clear HS; (try simp only [World.size_alloc, World.size_setCell] at hs); (with_reducible refine (alive_any _).mono ?_); rintro e w1 ⟨rfl, hb⟩; replace hs := hs.below hb; clear hb; have HS := Lib.hid hs; clear hs) | (go_at_call 22; refine K32.ca (fun xw hs => ?_); clear HS; (try simp only [World.size_alloc, World.size_setCell] at hs); (with_reducible refine (newL 9 h hs).mono ?_); rintro e w1 ⟨b, LA, rfl, hl, hs⟩; rw [← HM0.out] at hl; have HLA := Lib.hid hl; clear hl; have HS := Lib.hid hs; clear hs) | (go_at_call 23; refine (ends_any _ _ _).mono ?_; rintro e w1 ⟨rfl, rfl⟩) | (refine K30.atR (id := 7) ?_; (with_reducible apply K30.wp_at); exact K32.fnd0; intro xw hs; skip; skip; have HS := Lib.hid hs; clear hs; refine K32.reg0 (w := xw) [] [] 17 ?_; simp only [numbered, List.take_succ_cons, List.take_zero, List.drop_succ_cons, List.drop_zero, List.take_nil, List.drop_nil, Nat.reduceAdd]; (iterate 17 (refine K32.zd ?_; (try go_simp))); refine wz_nil ?_; intro wq hbq hLq; clear hLq ; have hcwq := cellA hbq; have hfwq := frozA hbq; have hzwq := hbq.size; (try simp at hzwq); have hs := HS.out.below hbq; skip; have HS := Lib.hid hs; clear hs hcwq hfwq hzwq hbq; (try simp only [H1R.out, H2R.out])) | fail)
    obtain ⟨K, hK⟩ : ∃ K, min (max row 1) ((N2 : Int) + 1 - N1) = K := ⟨_, rfl⟩
    obtain ⟨K2, hK2⟩ : ∃ K, min (max row 1) (endH h) = K := ⟨_, rfl⟩
    have k1 : 1 ≤ K := by omega
    have k2 : K ≤ 20 := by omega
    have k3 : 1 ≤ K2 := by omega
    have k4 : K2 ≤ 20 := by omega
    have hw5 : wrap64 ((N2 : Int) + 1 - N1) = N2 + 1 - N1 := by unfold wrap64; omega
    have hw6 : wrap64 ((N1 : Int) + K) = N1 + K := by unfold wrap64; omega
    have hw7 : wrap64 ((N1 : Int) + K - 1) = N1 + K - 1 := by unfold wrap64; omega
    have hw8 : wrap64 (K2 - 1) = K2 - 1 := by unfold wrap64; omega
    obtain ⟨D1, hD1⟩ : ∃ D, D = (⟨(digF ((N1 : Int) + 1)).toArray⟩ : ByteArray) := ⟨_, rfl⟩
    obtain ⟨D2, hD2⟩ : ∃ D, D = (⟨(digF ((N2 : Int) + 1)).toArray⟩ : ByteArray) := ⟨_, rfl⟩
    obtain ⟨D4, hD4⟩ : ∃ D, D = (⟨(digF K).toArray⟩ : ByteArray) := ⟨_, rfl⟩
    obtain ⟨m1, hm1⟩ : ∃ m1, m1 = (⟨stO h ((N1 : Int)) (((N2 : Int) + 1)) 2 ((N1 : Int) + K - 1) true, G0⟩ : Tm) := ⟨_, rfl⟩
    obtain ⟨m2, hm2⟩ : ∃ m2, m2 = (⟨stO h ((N1 : Int)) (((N2 : Int) + 1)) 2 (K2 - 1) false, G0⟩ : Tm) := ⟨_, rfl⟩
    have f1 : feedT m0 (QA ((N1 : Int)) (((N2 : Int) + 1)) row) = ([], m1) := by rw [HM0.out, hm1]; exact fA h ((N1 : Int)) (((N2 : Int) + 1)) row ((N1 : Int) + K - 1) (by omega) (by omega) h0 h50 (by omega) (by omega)
    have f2 : feedT m1 [27, 91, 54, 110] = ([27, 91] ++ digF K ++ [59, 51, 82], m1) := by rw [hm1]; exact fB h ((N1 : Int)) (((N2 : Int) + 1)) ((N1 : Int) + K - 1) K (by omega) (by omega) (by omega)
    have f3 : feedT m1 (QC row) = ([], m2) := by rw [hm1, hm2]; exact fC h ((N1 : Int)) (((N2 : Int) + 1)) ((N1 : Int) + K - 1) row K2 h0 h50 (by omega)
    have ok1 : TmOk m1 := by have := feedT_ok OK0.out (QA ((N1 : Int)) (((N2 : Int) + 1)) row); rw [f1] at this; exact this
    have ok2 : TmOk m2 := by have := feedT_ok ok1 (QC row); rw [f3] at this; exact this
    have hQ1 : ([⟨#[27, 91]⟩, D1, ⟨#[59]⟩, D2, ⟨#[114, 27, 91, 63, 54, 104, 27, 91]⟩, D3, ⟨#[59, 51, 72]⟩] : List ByteArray).flatMap (fun s => s.data.toList) = QA ((N1 : Int)) (((N2 : Int) + 1)) row := by rw [hD1, hD2, HD3.out]; rfl
    have hL1 : (QA ((N1 : Int)) (((N2 : Int) + 1)) row).length ≤ 10000 := by
      have h1 := digN_len 20 ((N1 : Int) + 1).toNat; have h2 := digN_len 20 (((N2 : Int) + 1)).toNat; have h3 := digN_len 20 row.toNat
      simp only [QA, List.length_append]; show 2 + ((digN 20 ((N1 : Int) + 1).toNat).length + (1 + ((digN 20 (((N2 : Int) + 1)).toNat).length + (8 + ((digN 20 row.toNat).length + 3))))) ≤ _; omega
    have hQ3 : ([⟨#[27, 91, 63, 54, 108, 27, 91]⟩, D3, ⟨#[59, 51, 72]⟩] : List ByteArray).flatMap (fun s => s.data.toList) = QC row := by rw [HD3.out]; rfl
    have hZ2 : (⟨#[27, 91]⟩ ++ D4 ++ ⟨#[59, 51, 82]⟩ : ByteArray) = ⟨([27, 91] ++ digF K ++ [59, 51, 82]).toArray⟩ := by rw [hD4]; apply ByteArray.ext; simp
    have hx1 : m1.t.m.cu.x = 2 := by rw [hm1]; rfl
    have hy1 : m1.t.m.cu.y = ((N1 : Int) + K - 1) := by rw [hm1]; rfl
    have hx2 : m2.t.m.cu.x = 2 := by rw [hm2]; rfl
    have hy2 : m2.t.m.cu.y = (K2 - 1) := by rw [hm2]; rfl
    have hs4 := dig_size hD4
    have HD1 := Lib.hid hD1; have HD2 := Lib.hid hD2; have HD4 := Lib.hid hD4; have HF1 := Lib.hid f1; have HF2 := Lib.hid f2; have HF3 := Lib.hid f3
    have OK1 := Lib.hid ok1; have OK2 := Lib.hid ok2; have HQ1 := Lib.hid hQ1; have HL1 := Lib.hid hL1; have HQ3 := Lib.hid hQ3; have HZ2 := Lib.hid hZ2
    have HX1 := Lib.hid hx1; have HY1 := Lib.hid hy1; have HX2 := Lib.hid hx2; have HY2 := Lib.hid hy2
    clear hD1 hD2 hD4 f1 f2 f3 ok1 ok2 hQ1 hL1 hQ3 hZ2 hx1 hy1 hx2 hy2 hm1 hm2
    go_wp2_with (first | (go_at_call 27; refine K32.ca (fun xw hs => ?_); clear HS; (try simp only [World.size_alloc, World.size_setCell] at hs); (with_reducible refine (digits_i ((N1 : Int) + 1) D1 HD1.out (by omega) (by omega)).mono ?_); rintro e w1 ⟨rfl, hb⟩; replace hs := hs.below hb; clear hb; have HS := Lib.hid hs; clear hs) | (go_at_call 27; refine K32.ca (fun xw hs => ?_); clear HS; (try simp only [World.size_alloc, World.size_setCell] at hs); (with_reducible refine (digits_i ((N2 : Int) + 1) D2 HD2.out (by omega) (by omega)).mono ?_); rintro e w1 ⟨rfl, hb⟩; replace hs := hs.below hb; clear hb; have HS := Lib.hid hs; clear hs) | (go_at_call 27; refine K32.ca (fun xw hs => ?_); clear HS; (try simp only [World.size_alloc, World.size_setCell] at hs); (with_reducible refine (digits_i row D3 HD3.out (by omega) (by omega)).mono ?_); rintro e w1 ⟨rfl, hb⟩; replace hs := hs.below hb; clear hb; have HS := Lib.hid hs; clear hs) | (go_at_call 27; refine K32.ca (fun xw hs => ?_); clear HS; (try simp only [World.size_alloc, World.size_setCell] at hs); (with_reducible refine (digits_i K D4 HD4.out (by omega) (by omega)).mono ?_); rintro e w1 ⟨rfl, hb⟩; replace hs := hs.below hb; clear hb; (try clear hcS hzS hlS); obtain ⟨hcS, hzS, hlS⟩ := hs.here (t := 47) (cs := [.int .i64 m1.t.cg.w, _, _, _, _, _]) rma; (try clear hcU hzU hlU); obtain ⟨hcU, hzU, hlU⟩ := hs.here (t := 47) (cs := [.int .i64 m2.t.cg.w, _, _, _, _, _]) rma; have HS := Lib.hid hs; clear hs) | (go_at_call 24; refine K32.ca (fun xw hs => ?_); clear HS; (try simp only [World.size_alloc, World.size_setCell] at hs); have hC := feedL [⟨#[27, 91]⟩, D1, ⟨#[59]⟩, D2, ⟨#[114, 27, 91, 63, 54, 104, 27, 91]⟩, D3, ⟨#[59, 51, 72]⟩] (QA ((N1 : Int)) (((N2 : Int) + 1)) row) hs HLA.out OK0.out HF1.out HQ1.out HL1.out rfl; refine hC.mono ?_; clear hC; rintro e w1 ⟨LA, rfl, hl, hs⟩; clear HLA; have HLA := Lib.hid hl; clear hl; have HS := Lib.hid hs; clear hs) | (go_at_call 24; refine K32.ca (fun xw hs => ?_); clear HS; (try simp only [World.size_alloc, World.size_setCell] at hs); have hC := feedL [⟨#[27, 91, 54, 110]⟩] [27, 91, 54, 110] hs HLA.out OK1.out HF2.out rfl (by decide) HZ2.out; refine hC.mono ?_; clear hC; rintro e w1 ⟨LA, rfl, hl, hs⟩; clear HLA; have HLA := Lib.hid hl; clear hl; have HS := Lib.hid hs; clear hs) | (go_at_call 24; refine K32.ca (fun xw hs => ?_); clear HS; (try simp only [World.size_alloc, World.size_setCell] at hs); have hC := feedL [⟨#[27, 91, 63, 54, 108, 27, 91]⟩, D3, ⟨#[59, 51, 72]⟩] (QC row) hs HLA.out OK1.out HF3.out HQ3.out HL3.out rfl; refine hC.mono ?_; clear hC; rintro e w1 ⟨LA, rfl, hl, hs⟩; clear HLA; have HLA := Lib.hid hl; clear hl; have HS := Lib.hid hs; clear hs) | (go_at_call 34; refine K32.ca (fun xw hs => ?_); clear HS; (try simp only [World.size_alloc, World.size_setCell] at hs); have hC := screenL (fun k c => .agg #[.int .i64 m1.t.cg.w, .int .i64 m1.t.cg.h, .slice (some ⟨k, 0, none⟩) m1.t.cg.c.length c, .int .i64 2, .int .i64 ((N1 : Int) + K - 1), .bool m1.t.m.hidden]) hs HLA.out OK1.out (fun k c => by unfold scrV; rw [HX1.out, HY1.out]); refine hC.mono ?_; clear hC; rintro e w1 ⟨k, c, LA, rfl, hl, hs⟩; clear HLA; have HLA := Lib.hid hl; clear hl; have HS := Lib.hid hs; clear hs) | (go_at_call 34; refine K32.ca (fun xw hs => ?_); clear HS; (try simp only [World.size_alloc, World.size_setCell] at hs); have hC := screenL (fun k c => .agg #[.int .i64 m2.t.cg.w, .int .i64 m2.t.cg.h, .slice (some ⟨k, 0, none⟩) m2.t.cg.c.length c, .int .i64 2, .int .i64 (K2 - 1), .bool m2.t.m.hidden]) hs HLA.out OK2.out (fun k c => by unfold scrV; rw [HX2.out, HY2.out]); refine hC.mono ?_; clear hC; rintro e w1 ⟨k, c, LA, rfl, hl, hs⟩; clear HLA; have HLA := Lib.hid hl; clear hl; (try clear hcS hzS hlS); obtain ⟨hcS, hzS, hlS⟩ := hs.here (t := 47) (cs := [.int .i64 m1.t.cg.w, _, _, _, _, _]) rma; have HS := Lib.hid hs; clear hs) | fail)
    go_ret
    exact ⟨rfl, HS.out.hereLow (B := W.heap.size) (w0 := W) rma⟩
theorem origins_long (h top bottom row : Int) (W : World) (hr : row < 0 ∨ (0 ≤ row ∧ 50 < row)) : Calls Tryz.prog 12 #[.int .i64 h, .int .i64 top, .int .i64 bottom, .int .i64 row] W fun e w' => e = .returned (.bool true) ∧ Below W.heap.size W w' := by
  have HS := Lib.hid (Sep.start W)
  rcases hr with hr | ⟨hr, hr2⟩
  all_goals
    go_enter Tryz.func12, Tryz.ntmps12
    go_wp2_with (first | (go_at_call 21; refine K32.ca (fun xw hs => ?_); clear HS; (try simp only [World.size_alloc, World.size_setCell] at hs); (with_reducible refine (alive_any _).mono ?_); rintro e w1 ⟨rfl, hb⟩; replace hs := hs.below hb; clear hb; have HS := Lib.hid hs; clear hs) | fail)
    go_ret
    exact ⟨rfl, HS.out.hereLow (B := W.heap.size) (w0 := W) rma⟩
theorem law_any (h top bottom row : Int) (W : World) : Calls Tryz.prog 12 #[.int .i64 h, .int .i64 top, .int .i64 bottom, .int .i64 row] W fun e w' => e = .returned (.bool true) ∧ Below W.heap.size W w' := by
  by_cases h1 : 0 ≤ row ∧ row ≤ 50
  · exact origins_any h top bottom row W h1.1 h1.2
  · exact origins_long h top bottom row W (by omega)
end Go.Proofs.YtnjgnbdebkckfaaGreatDoor.X7
