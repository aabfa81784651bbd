/- EmuTabs: what the law's function does, and that its answer is true. Conditions: none. -/
import Derived.Test.YtnjgnbdebkckfaaGreatDoorA34
import Derived.Test.YtnjgnbdebkckfaaGreatDoorA33
import Derived.Lib.Hide
set_option linter.unusedVariables false
set_option linter.unusedSimpArgs false
set_option linter.unnecessarySimpa false
namespace Go.Proofs.YtnjgnbdebkckfaaGreatDoor.X4
set_option maxRecDepth 100000
open Go.RowKit K1 K3 K5 K11 K12 K14 K20 K21 K22 K25 K30 K31 M0 M0 ME MF T21 T22 T23 T24 MP Y0 Y1 Y2
attribute [local go_sem] cell_pastA froz_pastA
theorem feedT_of {m : Tm} {q : List UInt8} {A : List Ac} {p : Pg} (h : feedP m.p q = (A, p)) : feedT m q = ((actsE m.t A).1, ⟨(actsE m.t A).2, p⟩) := by
  unfold feedT
  rw [h]
def goTo (t : Te) (x y : Int) : Te := ((t.setY y).setX x).setLate false
/-- the cursor is sent to a place, origin off -/
theorem act_goto (t : Te) (y x : Int) (ho : t.m.cu.origin = false) : actE1 t ⟨4, 0, 72, 0, [y, x], [], []⟩ = goTo t (min (max x 1 - 1) (t.cg.w - 1)) (min (max y 1 - 1) (t.cg.h - 1)) := by
  show (columnE (rowE t (max y 1 - 1)) (max x 1 - 1)).setLate false = _
  unfold rowE
  rw [if_neg (by rw [ho]; decide)]
  rfl
theorem acts2 (t : Te) (a b : Ac) : actsE t [a, b] = (actR t a ++ (actR (actE1 t a) b ++ []), actE1 (actE1 t a) b) := rfl
theorem act_6 (t : Te) : actE1 t ⟨4, 0, 110, 0, [6], [], []⟩ = t := by simp [actE1, csiE, moveE, editE, stateE]
def Q1 (y x : Int) : List UInt8 := [27, 91] ++ (digF y ++ ([59] ++ (digF x ++ [72, 27, 91, 54, 110])))
def Q2 : List UInt8 := [27, 91, 53, 110, 27, 91, 99, 27, 91, 48, 99, 27, 91, 49, 99]
theorem p_one {p : Pg} (g : Gd p) (y x : Int) (hy : 0 ≤ y) (hy2 : y ≤ 9999) (hx : 0 ≤ x) (hx2 : x ≤ 9999) : feedP p (Q1 y x) = ([⟨4, 0, 72, 0, [y, x], [], []⟩, ⟨4, 0, 110, 0, [6], [], []⟩], G0) := by
  obtain ⟨n, rfl⟩ := Int.eq_ofNat_of_zero_le hy
  obtain ⟨k, rfl⟩ := Int.eq_ofNat_of_zero_le hx
  have e : Q1 n k = ([27, 91] ++ (digF n ++ ([59] ++ (digF k ++ [72])))) ++ [27, 91, 54, 110] := by simp [Q1]
  rw [e]
  exact fd_app p _ _ (csi2 g n k (by omega) (by omega) 72 (by decide) (by decide)) (by kernel_rfl)
theorem report_6 (t : Te) (ho : t.m.cu.origin = false) : actR t ⟨4, 0, 110, 0, [6], [], []⟩ = [27, 91] ++ digF (t.m.cu.y + 1) ++ [59] ++ digF (t.m.cu.x + 1) ++ [82] := by
  show [27, 91] ++ digF (repY t + 1) ++ [59] ++ digF (t.m.cu.x + 1) ++ [82] = _
  unfold repY
  rw [if_neg (by rw [ho]; decide)]
theorem one (w h y x : Int) (hy : 0 ≤ y) (hy2 : y ≤ 9999) (hx : 0 ≤ x) (hx2 : x ≤ 9999) :
    feedT (newT w h) (Q1 y x) = ([27, 91] ++ digF (min (max y 1) (endH h)) ++ [59] ++ digF (min (max x 1) (endW w)) ++ [82], ⟨goTo (newE w h) (min (max x 1) (endW w) - 1) (min (max y 1) (endH h) - 1), G0⟩) := by
  rw [feedT_of (p_one gd0 y x hy hy2 hx hx2)]
  rw [acts2]
  have a0 : actR (newT w h).t ⟨4, 0, 72, 0, [y, x], [], []⟩ = [] := by simp [actR, csiR, stateR]
  rw [a0]
  rw [show (newT w h).t = newE w h from rfl, act_goto _ _ _ rfl, act_6]
  have e1 : min (max y 1 - 1) ((newE w h).cg.h - 1) = min (max y 1) (endH h) - 1 := by show min (max y 1 - 1) (endH h - 1) = _; omega
  have e2 : min (max x 1 - 1) ((newE w h).cg.w - 1) = min (max x 1) (endW w) - 1 := by show min (max x 1 - 1) (endW w - 1) = _; omega
  rw [e1, e2, report_6 _ rfl]
  have e3 : (goTo (newE w h) (min (max x 1) (endW w) - 1) (min (max y 1) (endH h) - 1)).m.cu.y + 1 = min (max y 1) (endH h) := by show min (max y 1) (endH h) - 1 + 1 = _; omega
  have e4 : (goTo (newE w h) (min (max x 1) (endW w) - 1) (min (max y 1) (endH h) - 1)).m.cu.x + 1 = min (max x 1) (endW w) := by show min (max x 1) (endW w) - 1 + 1 = _; omega
  rw [e3, e4, List.nil_append, List.append_nil]
theorem two (t : Te) : feedT ⟨t, G0⟩ Q2 = ([27, 91, 48, 110, 27, 91, 63, 49, 59, 50, 99, 27, 91, 63, 49, 59, 50, 99], ⟨t, G0⟩) := by
  rw [feedT_of (m := ⟨t, G0⟩) (A := [⟨4, 0, 110, 0, [5], [], []⟩, ⟨4, 0, 99, 0, [], [], []⟩, ⟨4, 0, 99, 0, [0], [], []⟩, ⟨4, 0, 99, 0, [1], [], []⟩]) (p := G0) (by kernel_rfl)]
  rfl
theorem cat5 (a b : List UInt8) : (⟨([27, 91] ++ a ++ [59] ++ b ++ [82]).toArray⟩ : ByteArray) = ⟨#[27, 91]⟩ ++ ⟨a.toArray⟩ ++ ⟨#[59]⟩ ++ ⟨b.toArray⟩ ++ ⟨#[82]⟩ := by
  apply ByteArray.ext
  simp
theorem dig_size {D : ByteArray} {n : Int} (h : D = ⟨(digF n).toArray⟩) : D.size ≤ 20 := by
  subst h
  exact digN_len 20 n.toNat
set_option maxHeartbeats 4000000 in
theorem law_any (w h x y : Int) (W : World) : Calls Tryz.prog 8 #[.int .i64 w, .int .i64 h, .int .i64 x, .int .i64 y] W fun e w' => e = .returned (.bool true) ∧ Below W.heap.size W w' := by
  have HS := Lib.hid (Sep.start W)
  obtain ⟨D1, hD1⟩ : ∃ D, D = (⟨(digF (min (max y 0) 9999)).toArray⟩ : ByteArray) := ⟨_, rfl⟩
  obtain ⟨D2, hD2⟩ : ∃ D, D = (⟨(digF (min (max x 0) 9999)).toArray⟩ : ByteArray) := ⟨_, rfl⟩
  obtain ⟨E1, hE1⟩ : ∃ D, D = (⟨(digF (min (max (min (max y 0) 9999) 1) (endH h))).toArray⟩ : ByteArray) := ⟨_, rfl⟩
  obtain ⟨E2, hE2⟩ : ∃ D, D = (⟨(digF (min (max (min (max x 0) 9999) 1) (endW w))).toArray⟩ : ByteArray) := ⟨_, rfl⟩
  obtain ⟨m1, hm1⟩ : ∃ m, m = (⟨goTo (newE w h) ((min (max (min (max x 0) 9999) 1) (endW w)) - 1) ((min (max (min (max y 0) 9999) 1) (endH h)) - 1), G0⟩ : Tm) := ⟨_, rfl⟩
  have HF1 := Lib.hid (show feedT (newT w h) (Q1 (min (max y 0) 9999) (min (max x 0) 9999)) = (_, m1) from (one w h (min (max y 0) 9999) (min (max x 0) 9999) (by omega) (by omega) (by omega) (by omega)).trans (by rw [hm1]))
  have HF2 := Lib.hid (show feedT m1 Q2 = (_, m1) from by rw [hm1]; exact two _)
  have OK0 := Lib.hid (newT_ok w h)
  have OK1 := Lib.hid (show TmOk m1 from (show (feedT (newT w h) (Q1 (min (max y 0) 9999) (min (max x 0) 9999))).2 = m1 by rw [HF1.out]) ▸ feedT_ok (newT_ok w h) _)
  have HQ1 := Lib.hid (show ([⟨#[27, 91]⟩, D1, ⟨#[59]⟩, D2, ⟨#[72, 27, 91, 54, 110]⟩] : List ByteArray).flatMap (fun s => s.data.toList) = Q1 (min (max y 0) 9999) (min (max x 0) 9999) from by rw [hD1, hD2]; rfl)
  have HL1 := Lib.hid (show (Q1 (min (max y 0) 9999) (min (max x 0) 9999)).length ≤ 10000 from by have h1 := digN_len 20 (min (max y 0) 9999).toNat; have h2 := digN_len 20 (min (max x 0) 9999).toNat; simp only [Q1, List.length_append]; show 2 + ((digN 20 (min (max y 0) 9999).toNat).length + (1 + ((digN 20 (min (max x 0) 9999).toNat).length + 5))) ≤ _; omega)
  have HZ1 := Lib.hid (show (⟨#[27, 91]⟩ ++ E1 ++ ⟨#[59]⟩ ++ E2 ++ ⟨#[82]⟩ : ByteArray) = ⟨([27, 91] ++ digF (min (max (min (max y 0) 9999) 1) (endH h)) ++ [59] ++ digF (min (max (min (max x 0) 9999) 1) (endW w)) ++ [82]).toArray⟩ from by rw [cat5, hE1, hE2])
  have HX := Lib.hid (show m1.t.m.cu.x = (min (max (min (max x 0) 9999) 1) (endW w)) - 1 from by rw [hm1]; rfl)
  have HY := Lib.hid (show m1.t.m.cu.y = (min (max (min (max y 0) 9999) 1) (endH h)) - 1 from by rw [hm1]; rfl)
  have HD1 := Lib.hid hD1
  have HD2 := Lib.hid hD2
  have HE1 := Lib.hid hE1
  have HE2 := Lib.hid hE2
  have hw2 : 2 ≤ endW w := by unfold endW; omega
  have hw4 : endW w ≤ 40 := by unfold endW; omega
  have hh1 : 1 ≤ endH h := by unfold endH; omega
  have hh2 : endH h ≤ 20 := by unfold endH; omega
  have hs1 := dig_size hE1
  have hs2 := dig_size hE2
  clear hD1 hD2 hE1 hE2 hm1
  go_enter Tryz.func8, Tryz.ntmps8
  go_wp2_with (first | (go_at_call 21; refine K32.ca (fun xw hs => ?_); clear HS; (with_reducible refine (alive_any _).mono ?_); rintro e w1 ⟨rfl, hb⟩; replace hs := hs.below hb; clear hb; have HS := Lib.hid hs; clear hs) | (go_at_call 22; refine K32.ca (fun xw hs => ?_); clear HS; (with_reducible refine (newL w h hs).mono ?_); rintro e w1 ⟨b, LA, rfl, hl, hs⟩; have HLA := Lib.hid hl; clear hl; have HS := Lib.hid hs; clear hs) | (go_at_call 23; refine (ends_any _ _ _).mono ?_; rintro e w1 ⟨rfl, rfl⟩) | (go_at_call 27; refine K32.ca (fun xw hs => ?_); clear HS; (with_reducible refine (digits_i (min (max y 0) 9999) D1 HD1.out (by omega) (by omega)).mono ?_); rintro e w1 ⟨rfl, hb⟩; replace hs := hs.below hb; clear hb; have HS := Lib.hid hs; clear hs) | (go_at_call 27; refine K32.ca (fun xw hs => ?_); clear HS; (with_reducible refine (digits_i (min (max x 0) 9999) D2 HD2.out (by omega) (by omega)).mono ?_); rintro e w1 ⟨rfl, hb⟩; replace hs := hs.below hb; clear hb; have HS := Lib.hid hs; clear hs) | (go_at_call 27; refine K32.ca (fun xw hs => ?_); clear HS; (with_reducible refine (digits_i (min (max (min (max y 0) 9999) 1) (endH h)) E1 HE1.out (by omega) (by omega)).mono ?_); rintro e w1 ⟨rfl, hb⟩; replace hs := hs.below hb; clear hb; (try clear hcS hzS hlS); (try obtain ⟨hcS, hzS, hlS⟩ := hs.here (t := 47) rma); have HS := Lib.hid hs; clear hs) | (go_at_call 27; refine K32.ca (fun xw hs => ?_); clear HS; (with_reducible refine (digits_i (min (max (min (max x 0) 9999) 1) (endW w)) E2 HE2.out (by omega) (by omega)).mono ?_); rintro e w1 ⟨rfl, hb⟩; replace hs := hs.below hb; clear hb; (try clear hcS hzS hlS); (try obtain ⟨hcS, hzS, hlS⟩ := hs.here (t := 47) rma); have HS := Lib.hid hs; clear hs) | (go_at_call 24; refine K32.ca (fun xw hs => ?_); clear HS; have hC := feedL [⟨#[27, 91]⟩, D1, ⟨#[59]⟩, D2, ⟨#[72, 27, 91, 54, 110]⟩] (Q1 (min (max y 0) 9999) (min (max x 0) 9999)) hs HLA.out OK0.out HF1.out HQ1.out HL1.out HZ1.out; refine hC.mono ?_; clear hC; rintro e w1 ⟨LA, rfl, hl, hs⟩; clear HLA; have HLA := Lib.hid hl; clear hl; have HS := Lib.hid hs; clear hs) | (go_at_call 34; refine K32.ca (fun xw hs => ?_); clear HS; have hC := screenL (fun k c => .agg #[.int .i64 m1.t.cg.w, .int .i64 m1.t.cg.h, .slice (some ⟨k, 0, none⟩) m1.t.cg.c.length c, .int .i64 ((min (max (min (max x 0) 9999) 1) (endW w)) - 1), .int .i64 ((min (max (min (max y 0) 9999) 1) (endH h)) - 1), .bool m1.t.m.hidden]) hs HLA.out OK1.out (fun k c => by unfold scrV; rw [HX.out, HY.out]); refine hC.mono ?_; clear hC; rintro e w1 ⟨k, c, LA, rfl, hl, hs⟩; clear HLA; have HLA := Lib.hid hl; clear hl; have HS := Lib.hid hs; clear hs) | (go_at_call 24; refine K32.ca (fun xw hs => ?_); clear HS; have hC := feedL [⟨#[27, 91, 53, 110, 27, 91, 99, 27, 91, 48, 99, 27, 91, 49, 99]⟩] Q2 hs HLA.out OK1.out HF2.out rfl (by decide) rfl; refine hC.mono ?_; clear hC; rintro e w1 ⟨LA, rfl, hl, hs⟩; clear HLA; have HLA := Lib.hid hl; clear hl; have HS := Lib.hid hs; clear hs))
  go_ret
  exact ⟨rfl, HS.out.hereLow (B := W.heap.size) (w0 := W) rma⟩
end Go.Proofs.YtnjgnbdebkckfaaGreatDoor.X4
namespace Go.Proofs.YtnjgnbdebkckfaaGreatDoor.X5
set_option maxRecDepth 100000
open Go.RowKit K1 K3 K5 K11 K12 K14 K20 K21 K22 K25 K30 K31 M0 M0 ME MF T21 T22 T23 T24 MP Y0 Y1 Y2 X4
attribute [local go_sem] cell_pastA froz_pastA
theorem goTo_goTo (t : Te) (x y u v : Int) : goTo (goTo t x y) u v = goTo t u v := rfl
theorem mv_up (w h X Y : Int) (n : Int) (hY : 0 ≤ Y) : actE1 (goTo (newE w h) X Y) ⟨4, 0, 65, 0, [n], [], []⟩ = goTo (newE w h) X (max (Y - max n 1) 0) := by
  show (upE (goTo (newE w h) X Y) (max n 1)).setLate false = _
  unfold upE
  rw [if_pos (show (goTo (newE w h) X Y).m.top ≤ (goTo (newE w h) X Y).m.cu.y from hY)]
  rfl
theorem mv_down (w h X Y : Int) (n : Int) (hY : Y < endH h) : actE1 (goTo (newE w h) X Y) ⟨4, 0, 66, 0, [n], [], []⟩ = goTo (newE w h) X (min (Y + max n 1) (endH h - 1)) := by
  show (downE (goTo (newE w h) X Y) (max n 1)).setLate false = _
  have e : lastRow (goTo (newE w h) X Y) = endH h - 1 := by
    unfold lastRow
    rw [if_pos (show (goTo (newE w h) X Y).m.cu.y < (goTo (newE w h) X Y).m.bottom from hY)]
    rfl
  unfold downE
  rw [e]
  have e2 : min Y (endH h - 1) + min (max n 1) (endH h - 1 - min Y (endH h - 1)) = min (Y + max n 1) (endH h - 1) := by omega
  show goTo (newE w h) X (min Y (endH h - 1) + min (max n 1) (endH h - 1 - min Y (endH h - 1))) = _
  rw [e2]
theorem mv_right (w h X Y : Int) (n : Int) (hX : X < endW w) : actE1 (goTo (newE w h) X Y) ⟨4, 0, 67, 0, [n], [], []⟩ = goTo (newE w h) (min (X + max n 1) (endW w - 1)) Y := by
  show goTo (newE w h) (X + min (max n 1) (endW w - 1 - X)) Y = _
  rw [show X + min (max n 1) (endW w - 1 - X) = min (X + max n 1) (endW w - 1) by omega]
theorem mv_left (w h X Y : Int) (n : Int) : actE1 (goTo (newE w h) X Y) ⟨4, 0, 68, 0, [n], [], []⟩ = goTo (newE w h) (max (X - max n 1) 0) Y := rfl
theorem quiet (t : Te) (b : Int) (n : List Int) (h : b ≠ 110) (h2 : b ≠ 99) : actR t ⟨4, 0, b, 0, n, [], []⟩ = [] := by simp [actR, csiR, stateR, h, h2]
theorem acts1 (t : Te) (a : Ac) : actsE t [a] = (actR t a ++ [], actE1 t a) := rfl
theorem mv0 (w h : Int) (p : Pg) (X Y : Int) (N : Nat) (g : Gd p) (hX : 0 ≤ X ∧ X < endW w) (hY : 0 ≤ Y ∧ Y < endH h) (hN : N ≤ 9999) : feedT ⟨goTo (newE w h) X Y, p⟩ ([27, 91] ++ (digF N ++ [65])) = ([], ⟨goTo (newE w h) X (max (Y - max (N : Int) 1) 0), G0⟩) := by
  rw [feedT_of (csi1 g N hN 65 (by decide) (by decide)), acts1, quiet _ _ _ (by decide) (by decide)]
  show (([] : List UInt8), (⟨actE1 (goTo (newE w h) X Y) ⟨4, 0, 65, 0, [(N : Int)], [], []⟩, G0⟩ : Tm)) = _
  rw [mv_up w h X Y N hY.1]
theorem mv1 (w h : Int) (p : Pg) (X Y : Int) (N : Nat) (g : Gd p) (hX : 0 ≤ X ∧ X < endW w) (hY : 0 ≤ Y ∧ Y < endH h) (hN : N ≤ 9999) : feedT ⟨goTo (newE w h) X Y, p⟩ ([27, 91] ++ (digF N ++ [66])) = ([], ⟨goTo (newE w h) X (min (Y + max (N : Int) 1) (endH h - 1)), G0⟩) := by
  rw [feedT_of (csi1 g N hN 66 (by decide) (by decide)), acts1, quiet _ _ _ (by decide) (by decide)]
  show (([] : List UInt8), (⟨actE1 (goTo (newE w h) X Y) ⟨4, 0, 66, 0, [(N : Int)], [], []⟩, G0⟩ : Tm)) = _
  rw [mv_down w h X Y N hY.2]
theorem mv2 (w h : Int) (p : Pg) (X Y : Int) (N : Nat) (g : Gd p) (hX : 0 ≤ X ∧ X < endW w) (hY : 0 ≤ Y ∧ Y < endH h) (hN : N ≤ 9999) : feedT ⟨goTo (newE w h) X Y, p⟩ ([27, 91] ++ (digF N ++ [67])) = ([], ⟨goTo (newE w h) (min (X + max (N : Int) 1) (endW w - 1)) Y, G0⟩) := by
  rw [feedT_of (csi1 g N hN 67 (by decide) (by decide)), acts1, quiet _ _ _ (by decide) (by decide)]
  show (([] : List UInt8), (⟨actE1 (goTo (newE w h) X Y) ⟨4, 0, 67, 0, [(N : Int)], [], []⟩, G0⟩ : Tm)) = _
  rw [mv_right w h X Y N hX.2]
theorem mv3 (w h : Int) (p : Pg) (X Y : Int) (N : Nat) (g : Gd p) (hX : 0 ≤ X ∧ X < endW w) (hY : 0 ≤ Y ∧ Y < endH h) (hN : N ≤ 9999) : feedT ⟨goTo (newE w h) X Y, p⟩ ([27, 91] ++ (digF N ++ [68])) = ([], ⟨goTo (newE w h) (max (X - max (N : Int) 1) 0) Y, G0⟩) := by
  rw [feedT_of (csi1 g N hN 68 (by decide) (by decide)), acts1, quiet _ _ _ (by decide) (by decide)]
  rfl
structure MvI (w h : Int) (b : Nat) (W : World) (n : Nat) (i x y : Value) (wr : World) : Prop where
  out : ∃ (j : Nat) (X Y : Int) (p : Pg) (LA : List Res), j ≤ n ∧ i = .int .i64 j ∧ x = .int .i64 X ∧ y = .int .i64 Y ∧ Gd p ∧ (0 ≤ X ∧ X < endW w) ∧ (0 ≤ Y ∧ Y < endH h) ∧ TmOk ⟨goTo (newE w h) X Y, p⟩ ∧ TmL b ⟨goTo (newE w h) X Y, p⟩ LA ∧ Sep wr (LA ++ [.low W.heap.size W])
/-- a rest that is never negative -/
theorem rest (x k : Int) (hk : 0 < k) (hk2 : k ≤ 100000) : ∃ N : Nat, (N : Int) < k ∧ (wrap64 (x.tmod k + k)).tmod k = N := by
  have h1 := Int.tmod_lt_of_pos x hk
  have h2 := Int.lt_tmod_of_pos x hk
  have h0 : wrap64 (x.tmod k + k) = x.tmod k + k := by unfold wrap64; omega
  have h3 := Int.tmod_nonneg k (show 0 ≤ x.tmod k + k by omega)
  have h4 := Int.tmod_lt_of_pos (x.tmod k + k) hk
  rw [h0]
  exact ⟨((x.tmod k + k).tmod k).toNat, by omega, by omega⟩
set_option maxHeartbeats 4000000 in
theorem moves_any (w h : Int) (ao : Option Addr) (sb off n cap : Nat) (L : Nat → Int × Int) (W : World) (hao : ao = some ⟨sb, off, none⟩ ∨ n = 0) (hn : n ≤ 40) (hL : ∀ k, k < n → (-9223372036854775808 ≤ (L k).1 ∧ (L k).1 ≤ 9223372036854775807) ∧ (-9223372036854775808 ≤ (L k).2 ∧ (L k).2 ≤ 9223372036854775807))
    (hc : ∀ k, k < n → W.cell? ⟨sb, off + k * 2, none⟩ = some (.int .i64 (L k).1) ∧ W.cell? ⟨sb, off + k * 2 + 1, none⟩ = some (.int .i64 (L k).2)) (hsb : 0 < n → sb < W.heap.size) : Calls Tryz.prog 15 #[.int .i64 w, .int .i64 h, .slice ao n cap] W fun e w' => e = .returned (.bool true) ∧ Below W.heap.size W w' := by
  have HS := Lib.hid (Sep.start W)
  have HC := Lib.hid hc
  have HSB := Lib.hid hsb
  have HAO := Lib.hid hao
  have HLN := Lib.hid hL
  have hw2 : 2 ≤ endW w := by unfold endW; omega
  have hw4 : endW w ≤ 40 := by unfold endW; omega
  have hh1 : 1 ≤ endH h := by unfold endH; omega
  have hh2 : endH h ≤ 20 := by unfold endH; omega
  clear hc hsb hao hL
  go_enter Tryz.func15, Tryz.ntmps15
  go_wp2_with (first | (go_at_call 21; refine K32.ca (fun xw hs => ?_); clear HS; (with_reducible refine (alive_any _).mono ?_); rintro e w1 ⟨rfl, hb⟩; replace hs := hs.below hb; clear hb; have HS := Lib.hid hs; clear hs) | (go_at_call 22; refine K32.ca (fun xw hs => ?_); clear HS; (with_reducible refine (newL w h hs).mono ?_); rintro e w1 ⟨b, LA, rfl, hl, hs⟩; have HLA := Lib.hid hl; clear hl; have HS := Lib.hid hs; clear hs) | (go_at_call 23; refine (ends_any _ _ _).mono ?_; rintro e w1 ⟨rfl, rfl⟩))
  go_loopw [10, 8, 9] (fun i x y wr => MvI w h b W n i x y wr) (fun i _ _ _ => n - (intOf i).toNat)
  case atStart => exact ⟨⟨0, 0, 0, Pg.zero, LA, Nat.zero_le _, rfl, rfl, rfl, gd0, by omega, by omega, newT_ok w h, HLA.out, HS.out⟩⟩
  case round =>
    clear HS HLA
    obtain ⟨⟨j, X, Y, p, LA, hj, rfl, rfl, rfl, hg, hX, hY, ok, hA, hs⟩⟩ := hrel
    have hX0 := hX.1
    have hX1 := hX.2
    have hY0 := hY.1
    have hY1 := hY.2
    by_cases hlt : j < n
    · have hlow := hs.hereLow (B := W.heap.size) (w0 := W) rma
      rcases HAO.out with rfl | h0
      rotate_left
      · omega
      have hq := HC.out j hlt
      have c0 : wr.cell? ⟨sb, off + j * 2, none⟩ = some (.int .i64 (L j).1) := (World.cell?_of_block (hlow.block sb (HSB.out (by omega)))).trans hq.1
      have c1 : wr.cell? ⟨sb, off + j * 2 + 1, none⟩ = some (.int .i64 (L j).2) := (World.cell?_of_block (hlow.block sb (HSB.out (by omega)))).trans hq.2
      obtain ⟨k1, hk1⟩ : ∃ k, (L j).1 = k := ⟨_, rfl⟩
      obtain ⟨k2, hk2⟩ : ∃ k, (L j).2 = k := ⟨_, rfl⟩
      rw [hk1] at c0
      rw [hk2] at c1
      obtain ⟨C, hC4, hC⟩ := rest k1 4 (by decide) (by decide)
      obtain ⟨N, hN50, hN⟩ := rest k2 50 (by decide) (by decide)
      obtain ⟨D, hD⟩ : ∃ D, D = (⟨(digF N).toArray⟩ : ByteArray) := ⟨_, rfl⟩
      have hDs := dig_size hD
      have HD := Lib.hid hD
      have OK := Lib.hid ok
      have HLA := Lib.hid hA
      have HS := Lib.hid hs
      have HL0 := digN_len 20 N
      clear hlow hq hk1 hk2 ok hA hs HAO
      have hCC : C = 0 ∨ C = 1 ∨ C = 2 ∨ C = 3 := by omega
      rcases hCC with rfl | rfl | rfl | rfl
      · have HF := Lib.hid (mv0 w h p X Y N hg hX hY (by omega))
        have HQ := Lib.hid (show ([⟨#[27, 91]⟩, D, ⟨#[65]⟩] : List ByteArray).flatMap (fun s => s.data.toList) = [27, 91] ++ (digF N ++ [65]) from by rw [hD]; rfl)
        replace hC : (wrap64 (k1.tmod 4 + 4)).tmod 4 = 0 := hC
        have HOK1 := feedT_ok OK.out ([27, 91] ++ (digF N ++ [65]))
        rw [HF.out] at HOK1
        have OK1 := Lib.hid HOK1
        have HL := Lib.hid (show ([27, 91] ++ (digF N ++ [65])).length ≤ 10000 from by simp only [List.length_append]; show 2 + ((digN 20 N).length + 1) ≤ _; omega)
        clear hD hg HOK1
        go_wp2_with (first | (go_at_call 27; refine K32.ca (fun xw hs => ?_); clear HS; (with_reducible refine (digits_i N D HD.out (by omega) (by omega)).mono ?_); rintro e w1 ⟨rfl, hb⟩; replace hs := hs.below hb; clear hb; have HS := Lib.hid hs; clear hs) | (go_at_call 24; refine K32.ca (fun xw hs => ?_); clear HS; have hC := feedL [⟨#[27, 91]⟩, D, ⟨#[65]⟩] ([27, 91] ++ (digF N ++ [65])) hs HLA.out OK.out HF.out HQ.out HL.out rfl; refine hC.mono ?_; clear hC; rintro e w1 ⟨LA, rfl, hl, hs⟩; clear HLA; have HLA := Lib.hid hl; clear hl; have HS := Lib.hid hs; clear hs) | (go_at_call 34; refine K32.ca (fun xw hs => ?_); clear HS; have hC := screenL (fun k c => .agg #[.int .i64 (endW w), .int .i64 (endH h), .slice (some ⟨k, 0, none⟩) (newG w h).c.length c, .int .i64 X, .int .i64 (max (Y - max (N : Int) 1) 0), .bool false]) hs HLA.out OK1.out (fun k c => rfl); refine hC.mono ?_; clear hC; rintro e w1 ⟨k, c, LA, rfl, hl, hs⟩; clear HLA; have HLA := Lib.hid hl; clear hl; have HS := Lib.hid hs; clear hs))
        go_roundw
        case rel => exact ⟨⟨j + 1, X, (max (Y - max (N : Int) 1) 0), G0, LA, by omega, by go_num, rfl, rfl, gdG, by omega, by omega, OK1.out, HLA.out, se⟩⟩
        case measure => simp [intOf]; omega
      · have HF := Lib.hid (mv1 w h p X Y N hg hX hY (by omega))
        have HQ := Lib.hid (show ([⟨#[27, 91]⟩, D, ⟨#[66]⟩] : List ByteArray).flatMap (fun s => s.data.toList) = [27, 91] ++ (digF N ++ [66]) from by rw [hD]; rfl)
        replace hC : (wrap64 (k1.tmod 4 + 4)).tmod 4 = 1 := hC
        have HOK1 := feedT_ok OK.out ([27, 91] ++ (digF N ++ [66]))
        rw [HF.out] at HOK1
        have OK1 := Lib.hid HOK1
        have HL := Lib.hid (show ([27, 91] ++ (digF N ++ [66])).length ≤ 10000 from by simp only [List.length_append]; show 2 + ((digN 20 N).length + 1) ≤ _; omega)
        clear hD hg HOK1
        go_wp2_with (first | (go_at_call 27; refine K32.ca (fun xw hs => ?_); clear HS; (with_reducible refine (digits_i N D HD.out (by omega) (by omega)).mono ?_); rintro e w1 ⟨rfl, hb⟩; replace hs := hs.below hb; clear hb; have HS := Lib.hid hs; clear hs) | (go_at_call 24; refine K32.ca (fun xw hs => ?_); clear HS; have hC := feedL [⟨#[27, 91]⟩, D, ⟨#[66]⟩] ([27, 91] ++ (digF N ++ [66])) hs HLA.out OK.out HF.out HQ.out HL.out rfl; refine hC.mono ?_; clear hC; rintro e w1 ⟨LA, rfl, hl, hs⟩; clear HLA; have HLA := Lib.hid hl; clear hl; have HS := Lib.hid hs; clear hs) | (go_at_call 34; refine K32.ca (fun xw hs => ?_); clear HS; have hC := screenL (fun k c => .agg #[.int .i64 (endW w), .int .i64 (endH h), .slice (some ⟨k, 0, none⟩) (newG w h).c.length c, .int .i64 X, .int .i64 (min (Y + max (N : Int) 1) (endH h - 1)), .bool false]) hs HLA.out OK1.out (fun k c => rfl); refine hC.mono ?_; clear hC; rintro e w1 ⟨k, c, LA, rfl, hl, hs⟩; clear HLA; have HLA := Lib.hid hl; clear hl; have HS := Lib.hid hs; clear hs))
        go_roundw
        case rel => exact ⟨⟨j + 1, X, (min (Y + max (N : Int) 1) (endH h - 1)), G0, LA, by omega, by go_num, rfl, rfl, gdG, by omega, by omega, OK1.out, HLA.out, se⟩⟩
        case measure => simp [intOf]; omega
      · have HF := Lib.hid (mv2 w h p X Y N hg hX hY (by omega))
        have HQ := Lib.hid (show ([⟨#[27, 91]⟩, D, ⟨#[67]⟩] : List ByteArray).flatMap (fun s => s.data.toList) = [27, 91] ++ (digF N ++ [67]) from by rw [hD]; rfl)
        replace hC : (wrap64 (k1.tmod 4 + 4)).tmod 4 = 2 := hC
        have HOK1 := feedT_ok OK.out ([27, 91] ++ (digF N ++ [67]))
        rw [HF.out] at HOK1
        have OK1 := Lib.hid HOK1
        have HL := Lib.hid (show ([27, 91] ++ (digF N ++ [67])).length ≤ 10000 from by simp only [List.length_append]; show 2 + ((digN 20 N).length + 1) ≤ _; omega)
        clear hD hg HOK1
        go_wp2_with (first | (go_at_call 27; refine K32.ca (fun xw hs => ?_); clear HS; (with_reducible refine (digits_i N D HD.out (by omega) (by omega)).mono ?_); rintro e w1 ⟨rfl, hb⟩; replace hs := hs.below hb; clear hb; have HS := Lib.hid hs; clear hs) | (go_at_call 24; refine K32.ca (fun xw hs => ?_); clear HS; have hC := feedL [⟨#[27, 91]⟩, D, ⟨#[67]⟩] ([27, 91] ++ (digF N ++ [67])) hs HLA.out OK.out HF.out HQ.out HL.out rfl; refine hC.mono ?_; clear hC; rintro e w1 ⟨LA, rfl, hl, hs⟩; clear HLA; have HLA := Lib.hid hl; clear hl; have HS := Lib.hid hs; clear hs) | (go_at_call 34; refine K32.ca (fun xw hs => ?_); clear HS; have hC := screenL (fun k c => .agg #[.int .i64 (endW w), .int .i64 (endH h), .slice (some ⟨k, 0, none⟩) (newG w h).c.length c, .int .i64 (min (X + max (N : Int) 1) (endW w - 1)), .int .i64 Y, .bool false]) hs HLA.out OK1.out (fun k c => rfl); refine hC.mono ?_; clear hC; rintro e w1 ⟨k, c, LA, rfl, hl, hs⟩; clear HLA; have HLA := Lib.hid hl; clear hl; have HS := Lib.hid hs; clear hs))
        go_roundw
        case rel => exact ⟨⟨j + 1, (min (X + max (N : Int) 1) (endW w - 1)), Y, G0, LA, by omega, by go_num, rfl, rfl, gdG, by omega, by omega, OK1.out, HLA.out, se⟩⟩
        case measure => simp [intOf]; omega
      · have HF := Lib.hid (mv3 w h p X Y N hg hX hY (by omega))
        have HQ := Lib.hid (show ([⟨#[27, 91]⟩, D, ⟨#[68]⟩] : List ByteArray).flatMap (fun s => s.data.toList) = [27, 91] ++ (digF N ++ [68]) from by rw [hD]; rfl)
        replace hC : (wrap64 (k1.tmod 4 + 4)).tmod 4 = 3 := hC
        have HOK1 := feedT_ok OK.out ([27, 91] ++ (digF N ++ [68]))
        rw [HF.out] at HOK1
        have OK1 := Lib.hid HOK1
        have HL := Lib.hid (show ([27, 91] ++ (digF N ++ [68])).length ≤ 10000 from by simp only [List.length_append]; show 2 + ((digN 20 N).length + 1) ≤ _; omega)
        clear hD hg HOK1
        go_wp2_with (first | (go_at_call 27; refine K32.ca (fun xw hs => ?_); clear HS; (with_reducible refine (digits_i N D HD.out (by omega) (by omega)).mono ?_); rintro e w1 ⟨rfl, hb⟩; replace hs := hs.below hb; clear hb; have HS := Lib.hid hs; clear hs) | (go_at_call 24; refine K32.ca (fun xw hs => ?_); clear HS; have hC := feedL [⟨#[27, 91]⟩, D, ⟨#[68]⟩] ([27, 91] ++ (digF N ++ [68])) hs HLA.out OK.out HF.out HQ.out HL.out rfl; refine hC.mono ?_; clear hC; rintro e w1 ⟨LA, rfl, hl, hs⟩; clear HLA; have HLA := Lib.hid hl; clear hl; have HS := Lib.hid hs; clear hs) | (go_at_call 34; refine K32.ca (fun xw hs => ?_); clear HS; have hC := screenL (fun k c => .agg #[.int .i64 (endW w), .int .i64 (endH h), .slice (some ⟨k, 0, none⟩) (newG w h).c.length c, .int .i64 (max (X - max (N : Int) 1) 0), .int .i64 Y, .bool false]) hs HLA.out OK1.out (fun k c => rfl); refine hC.mono ?_; clear hC; rintro e w1 ⟨k, c, LA, rfl, hl, hs⟩; clear HLA; have HLA := Lib.hid hl; clear hl; have HS := Lib.hid hs; clear hs))
        go_roundw
        case rel => exact ⟨⟨j + 1, (max (X - max (N : Int) 1) 0), Y, G0, LA, by omega, by go_num, rfl, rfl, gdG, by omega, by omega, OK1.out, HLA.out, se⟩⟩
        case measure => simp [intOf]; omega
    · have hje : j = n := by omega
      have HS := Lib.hid hs
      clear ok hA hs HAO hg
      go_wp2_with fail
      go_ret
      exact ⟨rfl, HS.out.hereLow (B := W.heap.size) (w0 := W) rma⟩
theorem moves_long (w h : Int) (ao : Option Addr) (n cap : Nat) (W : World) (hn : 40 < n) (hn2 : n ≤ 9223372036854775807) : Calls Tryz.prog 15 #[.int .i64 w, .int .i64 h, .slice ao n cap] W fun e w' => e = .returned (.bool true) ∧ Below W.heap.size W w' := by
  have HS := Lib.hid (Sep.start W)
  go_enter Tryz.func15, Tryz.ntmps15
  go_wp2_with (first | (go_at_call 21; refine K32.ca (fun xw hs => ?_); clear HS; (with_reducible refine (alive_any _).mono ?_); rintro e w1 ⟨rfl, hb⟩; replace hs := hs.below hb; clear hb; have HS := Lib.hid hs; clear hs))
  go_ret
  exact ⟨rfl, HS.out.hereLow (B := W.heap.size) (w0 := W) rma⟩
theorem law_any (w h : Int) (ao : Option Addr) (sb off n cap : Nat) (L : Nat → Int × Int) (W : World) (hao : ao = some ⟨sb, off, none⟩ ∨ n = 0) (hn : n ≤ 9223372036854775807) (hL : ∀ k, k < n → (-9223372036854775808 ≤ (L k).1 ∧ (L k).1 ≤ 9223372036854775807) ∧ (-9223372036854775808 ≤ (L k).2 ∧ (L k).2 ≤ 9223372036854775807))
    (hc : ∀ k, k < n → W.cell? ⟨sb, off + k * 2, none⟩ = some (.int .i64 (L k).1) ∧ W.cell? ⟨sb, off + k * 2 + 1, none⟩ = some (.int .i64 (L k).2)) (hsb : 0 < n → sb < W.heap.size) : Calls Tryz.prog 15 #[.int .i64 w, .int .i64 h, .slice ao n cap] W fun e w' => e = .returned (.bool true) ∧ Below W.heap.size W w' := by
  by_cases h1 : n ≤ 40
  · exact moves_any w h ao sb off n cap L W hao h1 hL hc hsb
  · exact moves_long w h ao n cap W (by omega) hn
end Go.Proofs.YtnjgnbdebkckfaaGreatDoor.X5
namespace Go.Proofs.YtnjgnbdebkckfaaGreatDoor.X8
set_option maxRecDepth 100000
open Go.RowKit K1 K3 K5 K11 K12 K14 K20 K21 K22 K25 K30 K31 M0 M0 ME MF T21 T22 T23 T24 MP Y0 Y1 Y2 X4
attribute [local go_sem] cell_pastA froz_pastA
theorem nextK_spec (f : Nat → Bool) (x : Int) : ∀ (d k : Nat), (∃ r : Nat, S2.nextK f x k d = r ∧ k ≤ r ∧ r < k + d ∧ x < r ∧ f r = true ∧ ∀ j : Nat, k ≤ j → j < r → ¬ (x < (j : Int) ∧ f j = true)) ∨ (S2.nextK f x k d = max (((k + d : Nat) : Int) - 1) 0 ∧ ∀ j : Nat, k ≤ j → j < k + d → ¬ (x < (j : Int) ∧ f j = true))
  | 0, k => .inr ⟨rfl, fun j h1 h2 => absurd h1 (by omega)⟩
  | d + 1, k => by
    unfold S2.nextK
    by_cases h : x < (k : Int) ∧ f k = true
    · rw [if_pos h]
      exact .inl ⟨k, rfl, Nat.le_refl _, by omega, h.1, h.2, fun j h1 h2 => absurd h1 (by omega)⟩
    · rw [if_neg h]
      have e : ∀ j : Nat, k ≤ j → j = k ∨ k + 1 ≤ j := fun j hj => by omega
      rcases nextK_spec f x d (k + 1) with ⟨r, h1, h2, h3, h4, h5, h6⟩ | ⟨h1, h2⟩
      · exact .inl ⟨r, h1, by omega, by omega, h4, h5, fun j j1 j2 => (e j j1).elim (fun q => q ▸ h) (fun q => h6 j q j2)⟩
      · exact .inr ⟨by rw [h1]; congr 2; omega, fun j j1 j2 => (e j j1).elim (fun q => q ▸ h) (fun q => h2 j q (by omega))⟩
/-- the stops: each eighth one, and one more -/
def SF (w : Int) (set : Bool) (X : Int) : St := if set = true then setS (stopsF (endW w)) X true else stopsF (endW w)
theorem SF_w (w : Int) (set : Bool) (X : Int) : ((SF w set X).w : Int) = endW w := by
  have h : ((stopsF (endW w)).w : Int) = endW w := by
    show ((S2.newC (endW w)).toNat : Int) = _
    have : 2 ≤ endW w ∧ endW w ≤ 40 := by unfold endW; omega
    unfold S2.newC; omega
  unfold SF setS
  split
  · split <;> exact h
  · exact h
theorem SF_f (w : Int) (set : Bool) (X : Nat) (hX : (X : Int) < endW w) (i : Nat) (hi : (i : Int) < endW w) : (SF w set X).f i = true ↔ (8 ≤ i ∧ i % 8 = 0) ∨ (set = true ∧ i = X) := by
  have hw : 2 ≤ endW w ∧ endW w ≤ 40 := by unfold endW; omega
  have hc : ((S2.newC (endW w)).toNat : Int) = endW w := by unfold S2.newC; omega
  have h0 : (stopsF (endW w)).f i = true ↔ (8 ≤ i ∧ i % 8 = 0) := by
    show (decide (8 ≤ i) && decide ((i : Int) < ((S2.newC (endW w)).toNat : Int)) && decide (i % 8 = 0)) = true ↔ _
    rw [hc]
    simp [hi]
  cases set
  · show (stopsF (endW w)).f i = true ↔ _
    rw [h0]
    simp
  · have e : SF w true X = { stopsF (endW w) with f := S2.upd (stopsF (endW w)).f X true } := by
      show setS (stopsF (endW w)) X true = _
      unfold setS
      rw [if_pos ⟨by omega, by show (X : Int) < ((S2.newC (endW w)).toNat : Int); rw [hc]; exact hX⟩]
      rfl
    rw [e]
    show (if i = X then true else (stopsF (endW w)).f i) = true ↔ _
    split
    · simp [*]
    · rw [h0]; simp [*]
theorem next_is (w : Int) (set : Bool) (X k : Nat) (at0 : Int) (hX : (X : Int) < endW w) (h0 : 0 ≤ at0) (hk : at0 + 1 ≤ k) (hall : ∀ j : Nat, at0 + 1 ≤ j → j < k → (j : Int) < endW w - 1 ∧ j % 8 ≠ 0 ∧ ¬ (set = true ∧ j = X)) (hend : ¬ ((k : Int) < endW w - 1 ∧ k % 8 ≠ 0 ∧ ¬ (set = true ∧ k = X))) :
    min (nextS (SF w set X) at0) (endW w - 1) = min (k : Int) (endW w - 1) := by
  have hw : 2 ≤ endW w ∧ endW w ≤ 40 := by unfold endW; omega
  have hc := SF_w w set X
  have hf := SF_f w set X hX
  show min (S2.nextK (SF w set X).f at0 0 (SF w set X).w) (endW w - 1) = _
  rcases nextK_spec (SF w set X).f at0 (SF w set X).w 0 with ⟨r, h1, h2, h3, h4, h5, h6⟩ | ⟨h1, h2⟩
  · rw [h1]
    have hr := (hf r (by omega)).1 h5
    by_cases hrk : r < k
    · obtain ⟨a1, a2, a3⟩ := hall r (by omega) hrk
      rcases hr with hr | hr
      · exact absurd hr.2 a2
      · exact absurd hr a3
    · by_cases hkr : k = r
      · subst hkr; rfl
      · by_cases hkw : (k : Int) < endW w - 1
        · have hs : (k % 8 = 0) ∨ (set = true ∧ k = X) := by
            by_cases q : k % 8 = 0
            · exact .inl q
            · right
              by_cases q2 : set = true ∧ k = X
              · exact q2
              · exact absurd ⟨hkw, q, q2⟩ hend
          exact absurd ⟨by omega, (hf k (by omega)).2 (hs.imp (fun q => ⟨by omega, q⟩) id)⟩ (h6 k (by omega) (by omega))
        · omega
  · rw [h1]
    by_cases hkw : (k : Int) < endW w - 1
    · have hs : (k % 8 = 0) ∨ (set = true ∧ k = X) := by
        by_cases q : k % 8 = 0
        · exact .inl q
        · right
          by_cases q2 : set = true ∧ k = X
          · exact q2
          · exact absurd ⟨hkw, q, q2⟩ hend
      exact absurd ⟨by omega, (hf k (by omega)).2 (hs.imp (fun q => ⟨by omega, q⟩) id)⟩ (h2 k (by omega) (by omega))
    · omega
def tb (w : Int) (set : Bool) (X at0 : Int) : Te := ({ newE w 1 with s := SF w set X } : Te).setX at0
theorem f_tab (w : Int) (set : Bool) (X at0 : Int) (p : Pg) (g : Gd p) (v : Int) (hv : min (nextS (SF w set X) at0) (endW w - 1) = v) : feedT ⟨tb w set X at0, p⟩ [9] = ([], ⟨tb w set X v, p⟩) := by
  have hp : stepP p 9 = ([⟨2, 0, 9, 0, [], [], []⟩], p) := by
    obtain ⟨s, ha, i, w', f, m, n, u, t⟩ := p
    obtain ⟨rfl, rfl⟩ : s = 0 ∧ ha = [] := ⟨g.s, g.h⟩
    rfl
  subst hv
  rw [feedT_of (m := ⟨tb w set X at0, p⟩) (fd_one p 9 hp)]
  rfl
theorem acts3 (t : Te) (a b c : Ac) : actsE t [a, b, c] = (actR t a ++ (actR (actE1 t a) b ++ (actR (actE1 (actE1 t a) b) c ++ [])), actE1 (actE1 (actE1 t a) b) c) := rfl
theorem f_set (w : Int) (X : Nat) (hX : (X : Int) < endW w) (hw : endW w ≤ 40) : feedT (newT w 1) ([27, 91] ++ (digF ((X : Int) + 1) ++ [71, 27, 72, 13])) = ([], ⟨tb w true X 0, G0⟩) := by
  have hp : feedP Pg.zero ([27, 91] ++ (digF ((X : Int) + 1) ++ [71, 27, 72, 13])) = ([⟨4, 0, 71, 0, [(X : Int) + 1], [], []⟩, ⟨3, 0, 72, 0, [], [], []⟩, ⟨2, 0, 13, 0, [], [], []⟩], G0) := by
    have e : ([27, 91] ++ (digF ((X : Int) + 1) ++ [71, 27, 72, 13]) : List UInt8) = ([27, 91] ++ (digF ((X + 1 : Nat) : Int) ++ [71])) ++ [27, 72, 13] := by
      rw [show ((X + 1 : Nat) : Int) = (X : Int) + 1 by omega]; simp
    rw [e]
    exact fd_app _ _ _ (csi1 gd0 (X + 1) (by omega) 71 (by decide) (by decide)) (by kernel_rfl)
  rw [feedT_of (m := newT w 1) hp]
  have e1 : max ((X : Int) + 1) 1 - 1 = X := by omega
  have e2 : min (X : Int) (endW w - 1) = X := by omega
  have h1 : actE1 (newE w 1) ⟨4, 0, 71, 0, [(X : Int) + 1], [], []⟩ = ((newE w 1).setX X).setLate false := by
    show ((newE w 1).setX (min (max ((X : Int) + 1) 1 - 1) (endW w - 1))).setLate false = _
    rw [e1, e2]
  rw [acts3, show (newT w 1).t = newE w 1 from rfl, h1]
  rfl
structure TbI (w : Int) (set : Bool) (X : Nat) (b : Nat) (W : World) (n : Int) (i a : Value) (wr : World) : Prop where
  out : ∃ (j : Nat) (at0 : Int) (p : Pg) (LA : List Res), (j : Int) ≤ max n 0 ∧ i = .int .i64 j ∧ a = .int .i64 at0 ∧ Gd p ∧ 0 ≤ at0 ∧ at0 ≤ endW w - 1 ∧ TmOk ⟨tb w set X at0, p⟩ ∧ TmL b ⟨tb w set X at0, p⟩ LA ∧ Sep wr (LA ++ [.low W.heap.size W])
structure TbK (w : Int) (set : Bool) (X : Nat) (at0 : Int) (k : Value) : Prop where
  out : ∃ K : Nat, k = .int .i64 K ∧ at0 + 1 ≤ K ∧ K ≤ 41 ∧ ∀ j : Nat, at0 + 1 ≤ j → j < K → (j : Int) < endW w - 1 ∧ j % 8 ≠ 0 ∧ ¬ (set = true ∧ j = X)
set_option maxHeartbeats 4000000 in
theorem tabs_any (w n x : Int) (set : Bool) (W : World) (h0 : 0 ≤ n) (h12 : n ≤ 12) : Calls Tryz.prog 11 #[.int .i64 w, .int .i64 n, .int .i64 x, .bool set] W fun e w' => e = .returned (.bool true) ∧ Below W.heap.size W w' := by
  have HS := Lib.hid (Sep.start W)
  have hw2 : 2 ≤ endW w := by unfold endW; omega
  have hw4 : endW w ≤ 40 := by unfold endW; omega
  obtain ⟨X, hXw, hX⟩ := X5.rest x (endW w) (by omega) (by omega)
  obtain ⟨D, hD⟩ : ∃ D, D = (⟨(digF ((X : Int) + 1)).toArray⟩ : ByteArray) := ⟨_, rfl⟩
  obtain ⟨m0, hm0⟩ : ∃ m0, m0 = newT w 1 := ⟨_, rfl⟩
  obtain ⟨m1, hm1⟩ : ∃ m1, m1 = (⟨tb w true X 0, G0⟩ : Tm) := ⟨_, rfl⟩
  have f1 : feedT m0 ([27, 91] ++ (digF ((X : Int) + 1) ++ [71, 27, 72, 13])) = ([], m1) := by rw [hm0, hm1]; exact f_set w X hXw hw4
  have ok0 : TmOk m0 := hm0 ▸ newT_ok w 1
  have OK1 := Lib.hid (show TmOk m1 from by have := feedT_ok ok0 ([27, 91] ++ (digF ((X : Int) + 1) ++ [71, 27, 72, 13])); rw [f1] at this; exact this)
  have HQ1 := Lib.hid (show ([⟨#[27, 91]⟩, D, ⟨#[71, 27, 72, 13]⟩] : List ByteArray).flatMap (fun s => s.data.toList) = [27, 91] ++ (digF ((X : Int) + 1) ++ [71, 27, 72, 13]) from by rw [hD]; rfl)
  have HL1 := Lib.hid (show ([27, 91] ++ (digF ((X : Int) + 1) ++ [71, 27, 72, 13])).length ≤ 10000 from by have h1 := digN_len 20 ((X : Int) + 1).toNat; simp only [List.length_append]; show 2 + ((digN 20 ((X : Int) + 1).toNat).length + 4) ≤ _; omega)
  have hDs := dig_size hD
  have HD := Lib.hid hD
  have HF1 := Lib.hid f1
  have OK0 := Lib.hid ok0
  have HM0 := Lib.hid hm0
  have HM1 := Lib.hid hm1
  have hwx : wrap64 ((X : Int) + 1) = X + 1 := by unfold wrap64; omega
  clear hD f1 ok0 hm0 hm1
  cases set
  · go_enter Tryz.func11, Tryz.ntmps11
    go_wp2_with (first | (go_at_call 21; refine K32.ca (fun xw hs => ?_); clear HS; (try simp only [World.size_alloc, World.size_setCell] at hs); (with_reducible refine (alive_any _).mono ?_); rintro e w1 ⟨rfl, hb⟩; replace hs := hs.below hb; clear hb; have HS := Lib.hid hs; clear hs) | (go_at_call 22; refine K32.ca (fun xw hs => ?_); clear HS; (try simp only [World.size_alloc, World.size_setCell] at hs); (with_reducible refine (newL w 1 hs).mono ?_); rintro e w1 ⟨b, LA, rfl, hl, hs⟩; rw [← HM0.out] at hl; have HLA := Lib.hid hl; clear hl; have HS := Lib.hid hs; clear hs) | (go_at_call 23; refine (ends_any _ _ _).mono ?_; rintro e w1 ⟨rfl, rfl⟩) | fail)
    go_loopw [11, 10] (fun i a wr => TbI w false X b W n i a wr) (fun i _ _ => n.toNat - (intOf i).toNat)
    case atStart => exact ⟨⟨0, 0, Pg.zero, LA, by omega, rfl, rfl, gd0, by omega, by omega, (show TmOk (newT w 1) from HM0.out ▸ OK0.out), (show TmL b (newT w 1) LA from HM0.out ▸ HLA.out), HS.out⟩⟩
    case round =>
      clear HS HLA
      obtain ⟨⟨j, at0, p, LA, hj, rfl, rfl, hg, ha0, ha1, ok, hA, hs⟩⟩ := hrel
      by_cases hlt : (j : Int) < n
      · obtain ⟨v, hv⟩ : ∃ v, min (nextS (SF w false X) at0) (endW w - 1) = v := ⟨_, rfl⟩
        obtain ⟨m, hm⟩ : ∃ m, m = (⟨tb w false X at0, p⟩ : Tm) := ⟨_, rfl⟩
        obtain ⟨m2, hm2⟩ : ∃ m, m = (⟨tb w false X v, p⟩ : Tm) := ⟨_, rfl⟩
        have f2 : feedT m [9] = ([], m2) := by rw [hm, hm2]; exact f_tab w false X at0 p hg v hv
        rw [← hm] at ok hA
        have OK := Lib.hid ok
        have OK2 := Lib.hid (show TmOk m2 from by have := feedT_ok ok [9]; rw [f2] at this; exact this)
        have HF := Lib.hid f2
        have HLA := Lib.hid hA
        have HS := Lib.hid hs
        have HM2 := Lib.hid hm2
        have HG := Lib.hid hg
        have HV := Lib.hid hv
        have ha2 : wrap64 (at0 + 1) = at0 + 1 := by unfold wrap64; omega
        clear ok hA hs hm hm2 hg hv f2
        go_wp2_with (first | (go_at_call 24; refine K32.ca (fun xw hs => ?_); clear HS; (try simp only [World.size_alloc, World.size_setCell] at hs); have hC := feedL [⟨#[9]⟩] [9] hs HLA.out OK.out HF.out rfl (by decide) rfl; refine hC.mono ?_; clear hC; rintro e w1 ⟨LA, rfl, hl, hs⟩; clear HLA; have HLA := Lib.hid hl; clear hl; have HS := Lib.hid hs; clear hs) | fail)
        go_loop [12] (fun k => TbK w false X at0 k) (fun k => 50 - (intOf k).toNat)
        case atStart => exact ⟨⟨(at0 + 1).toNat, by rw [Int.toNat_of_nonneg (by omega)], by omega, by omega, fun j h1 h2 => absurd h1 (by omega)⟩⟩
        case round =>
          obtain ⟨⟨K, rfl, hK1, hK2, hK3⟩⟩ := hrel
          have HK3 := Lib.hid hK3
          clear hK3
          by_cases hend : (K : Int) < endW w - 1 ∧ K % 8 ≠ 0 ∧ ¬ (false = true ∧ K = X)
          · obtain ⟨q1, q2, q3⟩ := hend
            have q4 : ((K : Int) % 8 == 0) = false := by simp; omega
            have q5 : ((K : Int) == (X : Int)) = decide (K = X) := by rw [Bool.eq_iff_iff]; simp; omega
            have HQ3 := Lib.hid q3
            clear q3
            go_wp2_with fail
            refine ⟨⟨⟨K + 1, by go_num, by omega, by omega, fun j h1 h2 => ?_⟩⟩, by simp [intOf]; omega⟩
            by_cases hj : j = K
            · subst hj; exact ⟨q1, q2, HQ3.out⟩
            · exact HK3.out j h1 (by omega)
          · have hvK : min (K : Int) (endW w - 1) = v := (next_is w false X K at0 hXw ha0 hK1 HK3.out hend).symm.trans HV.out
            have hwm : wrap64 (endW w - 1) = endW w - 1 := by unfold wrap64; omega
            have hv0 : 0 ≤ v ∧ v ≤ endW w - 1 := by omega
            have HV0 := Lib.hid hv0
            have hcs : (endW w - 1 ≤ (K : Int)) ∨ ((K : Int) < endW w - 1 ∧ (K : Int) % 8 = 0) ∨ ((K : Int) < endW w - 1 ∧ ((K : Int) % 8 == 0) = false ∧ (false = true ∧ K = X)) := by
              by_cases d1 : (K : Int) < endW w - 1
              · by_cases d2 : K % 8 = 0
                · exact .inr (.inl ⟨d1, by omega⟩)
                · refine .inr (.inr ⟨d1, by simp; omega, ?_⟩)
                  by_cases d3 : false = true ∧ K = X
                  · exact d3
                  · exact absurd ⟨d1, d2, d3⟩ hend
              · exact .inl (by omega)
            clear hend hv0
            rcases hcs with d1 | ⟨d1, d4⟩ | ⟨d1, d2, d3⟩
            · go_wp2_with (first | (go_at_call 34; refine K32.ca (fun xw hs => ?_); clear HS; (try simp only [World.size_alloc, World.size_setCell] at hs); have hC := screenL (fun k c => .agg #[.int .i64 (endW w), .int .i64 (endH 1), .slice (some ⟨k, 0, none⟩) (newG w 1).c.length c, .int .i64 v, .int .i64 0, .bool false]) hs HLA.out OK2.out (fun k c => by rw [HM2.out]; rfl); refine hC.mono ?_; clear hC; rintro e w1 ⟨k, c, LA, rfl, hl, hs⟩; clear HLA; have HLA := Lib.hid hl; clear hl; have HS := Lib.hid hs; clear hs) | fail)
              all_goals (first | exact ⟨⟨⟨j + 1, v, p, LA, by omega, by go_num, rfl, HG.out, HV0.out.1, HV0.out.2, HM2.out ▸ OK2.out, HM2.out ▸ HLA.out, se⟩⟩, by simp [intOf]; omega⟩ | (go_roundw; case rel => exact ⟨⟨j + 1, v, p, LA, by omega, by go_num, rfl, HG.out, HV0.out.1, HV0.out.2, HM2.out ▸ OK2.out, HM2.out ▸ HLA.out, se⟩⟩; case measure => (simp [intOf]; omega)))
            · go_wp2_with (first | (go_at_call 34; refine K32.ca (fun xw hs => ?_); clear HS; (try simp only [World.size_alloc, World.size_setCell] at hs); have hC := screenL (fun k c => .agg #[.int .i64 (endW w), .int .i64 (endH 1), .slice (some ⟨k, 0, none⟩) (newG w 1).c.length c, .int .i64 v, .int .i64 0, .bool false]) hs HLA.out OK2.out (fun k c => by rw [HM2.out]; rfl); refine hC.mono ?_; clear hC; rintro e w1 ⟨k, c, LA, rfl, hl, hs⟩; clear HLA; have HLA := Lib.hid hl; clear hl; have HS := Lib.hid hs; clear hs) | fail)
              all_goals (first | exact ⟨⟨⟨j + 1, v, p, LA, by omega, by go_num, rfl, HG.out, HV0.out.1, HV0.out.2, HM2.out ▸ OK2.out, HM2.out ▸ HLA.out, se⟩⟩, by simp [intOf]; omega⟩ | (go_roundw; case rel => exact ⟨⟨j + 1, v, p, LA, by omega, by go_num, rfl, HG.out, HV0.out.1, HV0.out.2, HM2.out ▸ OK2.out, HM2.out ▸ HLA.out, se⟩⟩; case measure => (simp [intOf]; omega)))
            · exact absurd d3.1 (by decide)
      · have HS := Lib.hid hs
        clear hA hs ok hg
        go_wp2_with fail
        go_ret
        exact ⟨rfl, HS.out.hereLow (B := W.heap.size) (w0 := W) rma⟩
  · go_enter Tryz.func11, Tryz.ntmps11
    go_wp2_with (first | (go_at_call 21; refine K32.ca (fun xw hs => ?_); clear HS; (try simp only [World.size_alloc, World.size_setCell] at hs); (with_reducible refine (alive_any _).mono ?_); rintro e w1 ⟨rfl, hb⟩; replace hs := hs.below hb; clear hb; have HS := Lib.hid hs; clear hs) | (go_at_call 22; refine K32.ca (fun xw hs => ?_); clear HS; (try simp only [World.size_alloc, World.size_setCell] at hs); (with_reducible refine (newL w 1 hs).mono ?_); rintro e w1 ⟨b, LA, rfl, hl, hs⟩; rw [← HM0.out] at hl; have HLA := Lib.hid hl; clear hl; have HS := Lib.hid hs; clear hs) | (go_at_call 23; refine (ends_any _ _ _).mono ?_; rintro e w1 ⟨rfl, rfl⟩) | (go_at_call 27; refine K32.ca (fun xw hs => ?_); clear HS; (try simp only [World.size_alloc, World.size_setCell] at hs); (with_reducible refine (digits_i ((X : Int) + 1) D HD.out (by omega) (by omega)).mono ?_); rintro e w1 ⟨rfl, hb⟩; replace hs := hs.below hb; clear hb; have HS := Lib.hid hs; clear hs) | (go_at_call 24; refine K32.ca (fun xw hs => ?_); clear HS; (try simp only [World.size_alloc, World.size_setCell] at hs); have hC := feedL [⟨#[27, 91]⟩, D, ⟨#[71, 27, 72, 13]⟩] ([27, 91] ++ (digF ((X : Int) + 1) ++ [71, 27, 72, 13])) hs HLA.out OK0.out HF1.out HQ1.out HL1.out rfl; refine hC.mono ?_; clear hC; rintro e w1 ⟨LA, rfl, hl, hs⟩; clear HLA; have HLA := Lib.hid hl; clear hl; have HS := Lib.hid hs; clear hs) | fail)
    go_loopw [11, 10] (fun i a wr => TbI w true X b W n i a wr) (fun i _ _ => n.toNat - (intOf i).toNat)
    case atStart => exact ⟨⟨0, 0, G0, LA, by omega, rfl, rfl, gdG, by omega, by omega, HM1.out ▸ OK1.out, HM1.out ▸ HLA.out, HS.out⟩⟩
    case round =>
      clear HS HLA
      obtain ⟨⟨j, at0, p, LA, hj, rfl, rfl, hg, ha0, ha1, ok, hA, hs⟩⟩ := hrel
      by_cases hlt : (j : Int) < n
      · obtain ⟨v, hv⟩ : ∃ v, min (nextS (SF w true X) at0) (endW w - 1) = v := ⟨_, rfl⟩
        obtain ⟨m, hm⟩ : ∃ m, m = (⟨tb w true X at0, p⟩ : Tm) := ⟨_, rfl⟩
        obtain ⟨m2, hm2⟩ : ∃ m, m = (⟨tb w true X v, p⟩ : Tm) := ⟨_, rfl⟩
        have f2 : feedT m [9] = ([], m2) := by rw [hm, hm2]; exact f_tab w true X at0 p hg v hv
        rw [← hm] at ok hA
        have OK := Lib.hid ok
        have OK2 := Lib.hid (show TmOk m2 from by have := feedT_ok ok [9]; rw [f2] at this; exact this)
        have HF := Lib.hid f2
        have HLA := Lib.hid hA
        have HS := Lib.hid hs
        have HM2 := Lib.hid hm2
        have HG := Lib.hid hg
        have HV := Lib.hid hv
        have ha2 : wrap64 (at0 + 1) = at0 + 1 := by unfold wrap64; omega
        clear ok hA hs hm hm2 hg hv f2
        go_wp2_with (first | (go_at_call 24; refine K32.ca (fun xw hs => ?_); clear HS; (try simp only [World.size_alloc, World.size_setCell] at hs); have hC := feedL [⟨#[9]⟩] [9] hs HLA.out OK.out HF.out rfl (by decide) rfl; refine hC.mono ?_; clear hC; rintro e w1 ⟨LA, rfl, hl, hs⟩; clear HLA; have HLA := Lib.hid hl; clear hl; have HS := Lib.hid hs; clear hs) | fail)
        go_loop [12] (fun k => TbK w true X at0 k) (fun k => 50 - (intOf k).toNat)
        case atStart => exact ⟨⟨(at0 + 1).toNat, by rw [Int.toNat_of_nonneg (by omega)], by omega, by omega, fun j h1 h2 => absurd h1 (by omega)⟩⟩
        case round =>
          obtain ⟨⟨K, rfl, hK1, hK2, hK3⟩⟩ := hrel
          have HK3 := Lib.hid hK3
          clear hK3
          by_cases hend : (K : Int) < endW w - 1 ∧ K % 8 ≠ 0 ∧ ¬ (true = true ∧ K = X)
          · obtain ⟨q1, q2, q3⟩ := hend
            have q4 : ((K : Int) % 8 == 0) = false := by simp; omega
            have q5 : ((K : Int) == (X : Int)) = false := by simp at q3 ⊢; omega
            have HQ3 := Lib.hid q3
            clear q3
            go_wp2_with fail
            refine ⟨⟨⟨K + 1, by go_num, by omega, by omega, fun j h1 h2 => ?_⟩⟩, by simp [intOf]; omega⟩
            by_cases hj : j = K
            · subst hj; exact ⟨q1, q2, HQ3.out⟩
            · exact HK3.out j h1 (by omega)
          · have hvK : min (K : Int) (endW w - 1) = v := (next_is w true X K at0 hXw ha0 hK1 HK3.out hend).symm.trans HV.out
            have hwm : wrap64 (endW w - 1) = endW w - 1 := by unfold wrap64; omega
            have hv0 : 0 ≤ v ∧ v ≤ endW w - 1 := by omega
            have HV0 := Lib.hid hv0
            have hcs : (endW w - 1 ≤ (K : Int)) ∨ ((K : Int) < endW w - 1 ∧ (K : Int) % 8 = 0) ∨ ((K : Int) < endW w - 1 ∧ ((K : Int) % 8 == 0) = false ∧ (true = true ∧ K = X)) := by
              by_cases d1 : (K : Int) < endW w - 1
              · by_cases d2 : K % 8 = 0
                · exact .inr (.inl ⟨d1, by omega⟩)
                · refine .inr (.inr ⟨d1, by simp; omega, ?_⟩)
                  by_cases d3 : true = true ∧ K = X
                  · exact d3
                  · exact absurd ⟨d1, d2, d3⟩ hend
              · exact .inl (by omega)
            clear hend hv0
            rcases hcs with d1 | ⟨d1, d4⟩ | ⟨d1, d2, d3⟩
            · go_wp2_with (first | (go_at_call 34; refine K32.ca (fun xw hs => ?_); clear HS; (try simp only [World.size_alloc, World.size_setCell] at hs); have hC := screenL (fun k c => .agg #[.int .i64 (endW w), .int .i64 (endH 1), .slice (some ⟨k, 0, none⟩) (newG w 1).c.length c, .int .i64 v, .int .i64 0, .bool false]) hs HLA.out OK2.out (fun k c => by rw [HM2.out]; rfl); refine hC.mono ?_; clear hC; rintro e w1 ⟨k, c, LA, rfl, hl, hs⟩; clear HLA; have HLA := Lib.hid hl; clear hl; have HS := Lib.hid hs; clear hs) | fail)
              all_goals (first | exact ⟨⟨⟨j + 1, v, p, LA, by omega, by go_num, rfl, HG.out, HV0.out.1, HV0.out.2, HM2.out ▸ OK2.out, HM2.out ▸ HLA.out, se⟩⟩, by simp [intOf]; omega⟩ | (go_roundw; case rel => exact ⟨⟨j + 1, v, p, LA, by omega, by go_num, rfl, HG.out, HV0.out.1, HV0.out.2, HM2.out ▸ OK2.out, HM2.out ▸ HLA.out, se⟩⟩; case measure => (simp [intOf]; omega)))
            · go_wp2_with (first | (go_at_call 34; refine K32.ca (fun xw hs => ?_); clear HS; (try simp only [World.size_alloc, World.size_setCell] at hs); have hC := screenL (fun k c => .agg #[.int .i64 (endW w), .int .i64 (endH 1), .slice (some ⟨k, 0, none⟩) (newG w 1).c.length c, .int .i64 v, .int .i64 0, .bool false]) hs HLA.out OK2.out (fun k c => by rw [HM2.out]; rfl); refine hC.mono ?_; clear hC; rintro e w1 ⟨k, c, LA, rfl, hl, hs⟩; clear HLA; have HLA := Lib.hid hl; clear hl; have HS := Lib.hid hs; clear hs) | fail)
              all_goals (first | exact ⟨⟨⟨j + 1, v, p, LA, by omega, by go_num, rfl, HG.out, HV0.out.1, HV0.out.2, HM2.out ▸ OK2.out, HM2.out ▸ HLA.out, se⟩⟩, by simp [intOf]; omega⟩ | (go_roundw; case rel => exact ⟨⟨j + 1, v, p, LA, by omega, by go_num, rfl, HG.out, HV0.out.1, HV0.out.2, HM2.out ▸ OK2.out, HM2.out ▸ HLA.out, se⟩⟩; case measure => (simp [intOf]; omega)))
            · have d5 : ((K : Int) == (X : Int)) = true := by simp [d3.2]
              clear d3
              go_wp2_with (first | (go_at_call 34; refine K32.ca (fun xw hs => ?_); clear HS; (try simp only [World.size_alloc, World.size_setCell] at hs); have hC := screenL (fun k c => .agg #[.int .i64 (endW w), .int .i64 (endH 1), .slice (some ⟨k, 0, none⟩) (newG w 1).c.length c, .int .i64 v, .int .i64 0, .bool false]) hs HLA.out OK2.out (fun k c => by rw [HM2.out]; rfl); refine hC.mono ?_; clear hC; rintro e w1 ⟨k, c, LA, rfl, hl, hs⟩; clear HLA; have HLA := Lib.hid hl; clear hl; have HS := Lib.hid hs; clear hs) | fail)
              all_goals (first | exact ⟨⟨⟨j + 1, v, p, LA, by omega, by go_num, rfl, HG.out, HV0.out.1, HV0.out.2, HM2.out ▸ OK2.out, HM2.out ▸ HLA.out, se⟩⟩, by simp [intOf]; omega⟩ | (go_roundw; case rel => exact ⟨⟨j + 1, v, p, LA, by omega, by go_num, rfl, HG.out, HV0.out.1, HV0.out.2, HM2.out ▸ OK2.out, HM2.out ▸ HLA.out, se⟩⟩; case measure => (simp [intOf]; omega)))
      · have HS := Lib.hid hs
        clear hA hs ok hg
        go_wp2_with fail
        go_ret
        exact ⟨rfl, HS.out.hereLow (B := W.heap.size) (w0 := W) rma⟩
theorem tabs_long (w n x : Int) (set : Bool) (W : World) (hr : n < 0 ∨ (0 ≤ n ∧ 12 < n)) : Calls Tryz.prog 11 #[.int .i64 w, .int .i64 n, .int .i64 x, .bool set] W fun e w' => e = .returned (.bool true) ∧ Below W.heap.size W w' := by
  have HS := Lib.hid (Sep.start W)
  rcases hr with hr | ⟨hr, hr2⟩
  all_goals
    go_enter Tryz.func11, Tryz.ntmps11
    go_wp2_with (first | (go_at_call 21; refine K32.ca (fun xw hs => ?_); clear HS; (try simp only [World.size_alloc, World.size_setCell] at hs); (with_reducible refine (alive_any _).mono ?_); rintro e w1 ⟨rfl, hb⟩; replace hs := hs.below hb; clear hb; have HS := Lib.hid hs; clear hs) | fail)
    go_ret
    exact ⟨rfl, HS.out.hereLow (B := W.heap.size) (w0 := W) rma⟩
theorem law_any (w n x : Int) (set : Bool) (W : World) : Calls Tryz.prog 11 #[.int .i64 w, .int .i64 n, .int .i64 x, .bool set] W fun e w' => e = .returned (.bool true) ∧ Below W.heap.size W w' := by
  by_cases h1 : 0 ≤ n ∧ n ≤ 12
  · exact tabs_any w n x set W h1.1 h1.2
  · exact tabs_long w n x set W (by omega)
end Go.Proofs.YtnjgnbdebkckfaaGreatDoor.X8
