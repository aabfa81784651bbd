/- PactOff -/
import Derived.Test.YtjlamnioknbcaaaDoorQ1
import Derived.Lib.Hide
namespace Go.Proofs.YtjlamnioknbcaaaDoor.Q2
set_option linter.unusedVariables false
set_option linter.unusedSimpArgs false
set_option linter.unnecessarySimpa false
set_option maxRecDepth 100000
open Go.RowKit K1 K3 K5 K11 K12 K14 K20 K21 K22 K25 W0 V1 V2 V3 Y1 Y2 Y3 Y4 P1 P2 P3 P4 P5 P6 P7 P8 P9 P10 Q1

attribute [local go_sem] cell_pastA froz_pastA
theorem refOption_s (c o : Nat) (s : ByteArray) (w : World) (hc : c ≤ 255) (ho : o ≤ 255) (hs : (⟨(optB c o).toArray⟩ : ByteArray) = s) : Calls Tryd.prog 10 #[.int .i64 c, .int .i64 o] w fun e w' => e = .returned (.string s) ∧ Below w.heap.size w w' := by
  subst hs
  exact refOption_any c o w hc ho
theorem wrap_tmod (o : Int) : wrap64 (o.tmod 4 + 4) = o.tmod 4 + 4 := by
  have h1 := Int.tmod_lt_of_pos o (show (0 : Int) < 4 by decide)
  have h2 := Int.lt_tmod_of_pos o (show (0 : Int) < 4 by decide)
  unfold wrap64
  omega
theorem us_on (p : Pa) (o : Nat) (h : p.us o = (0, false)) (ha : oursB o = true) : usS p o true = (optB 251 o, { p with us := upS p.us o (1, false), sent := p.sent + 1 }) := by
  simp [usS, usH, h, ha, heardF, valid, onF, sayF]
theorem us_off (p : Pa) (o : Nat) (h : p.us o = (1, false)) : usS p o false = (optB 252 o, { p with us := upS p.us o (0, false), sent := p.sent + 1 }) := by
  simp [usS, usH, h, heardF, valid, offF, sayF]
theorem us_again (p : Pa) (o : Nat) (h : p.us o = (0, false)) : usS p o false = ([], { p with us := upS p.us o (0, false) }) := by
  simp [usS, usH, h, heardF, valid, offF, sayF]
theorem usF_no (p : Pa) (o : Nat) (on : Bool) (h : o ≠ 31 ∨ on = false) (h2 : p.us o = (0, false) ∨ p.us o = (1, false)) : usF p o on = usS p o on := by
  unfold usF
  rw [if_neg]
  rintro ⟨h3, h4, h5⟩
  rcases h with h | h
  · exact h h3
  · subst h
    rcases h2 with h2 | h2
    · simp [usH, h2, heardF, valid, offF] at h4
    · exact h5 (by rw [h2])
theorem usF_31 (p : Pa) (h : p.us 31 = (0, false)) : usF p 31 true = (optB 251 31 ++ (tellF p).1, (tellF { p with us := upS p.us 31 (1, false), sent := p.sent + 1 }).2) := by
  unfold usF
  rw [if_pos ⟨rfl, by simp [usH, h, heardF, valid, onF, oursB], by rw [h]; decide⟩, us_on p 31 h rfl]
  rfl
theorem optF_us (p : Pa) (o : Nat) (on : Bool) (ho : o ≤ 255) : optF p (if on then 253 else 254) o = usF p o on := by
  unfold optF
  rw [if_neg (by omega), Int.toNat_natCast]
  cases on <;> simp
structure OffI (p : Pa) (k : Nat) (j : Nat) : Prop where
  us : p.us k = (0, false)
  sent : p.sent = 2 * (j : Int)
  w : p.w = 300
  h : p.h = 7
  good : GoodP p
structure OffR (p : Pa) (k j : Nat) (on : List UInt8) : Prop where
  r1 : (optF p 253 k).1 = on
  r2 : (optF (optF p 253 k).2 254 k).1 = optB 252 k
  r3 : (optF (optF (optF p 253 k).2 254 k).2 254 k).1 = []
  inv : OffI (optF (optF (optF p 253 k).2 254 k).2 254 k).2 k (j + 1)
  g1 : GoodP (optF p 253 k).2
  g2 : GoodP (optF (optF p 253 k).2 254 k).2
  b1 : (optF p 253 k).2.sent ≤ p.sent + 1
  b2 : (optF (optF p 253 k).2 254 k).2.sent ≤ p.sent + 2
theorem off_from (p p1 : Pa) (k j : Nat) (on : List UInt8) (hk : k ≤ 255) (h : OffI p k j) (e1 : usF p k true = (on, p1)) (h1 : p1.us k = (1, false)) (h2 : p1.sent = p.sent + 1) (h3 : p1.w = p.w) (h4 : p1.h = p.h) (h5 : p1.name = p.name) : OffR p k j on := by
  have a1 : optF p 253 k = (on, p1) := (optF_us p k true hk).trans e1
  have a2 : optF p1 254 k = (optB 252 k, { p1 with us := upS p1.us k (0, false), sent := p1.sent + 1 }) := (optF_us p1 k false hk).trans ((usF_no p1 k false (.inr rfl) (.inr h1)).trans (us_off p1 k h1))
  have hz : ({ p1 with us := upS p1.us k (0, false), sent := p1.sent + 1 } : Pa).us k = (0, false) := by simp [upS]
  have a3 := (optF_us { p1 with us := upS p1.us k (0, false), sent := p1.sent + 1 } k false hk).trans ((usF_no _ k false (.inr rfl) (.inl hz)).trans (us_again _ k hz))
  have g1 : GoodP p1 := ⟨by rw [h5]; exact h.good.name, by rw [h3]; exact h.good.w, by rw [h4]; exact h.good.h, by rw [h2]; have := h.good.sent; omega⟩
  have g2 : GoodP { p1 with us := upS p1.us k (0, false), sent := p1.sent + 1 } := ⟨g1.name, g1.w, g1.h, by have := g1.sent; show 0 ≤ p1.sent + 1; omega⟩
  simp only [Bool.false_eq_true, if_false] at a3
  refine ⟨by rw [a1], by rw [a1, a2], by rw [a1, a2]; simp only; rw [a3], ?_, by rw [a1]; exact g1, by rw [a1, a2]; exact g2, by rw [a1, ← h2]; exact Int.le_refl _, by rw [a1, a2]; show p1.sent + 1 ≤ _; rw [h2]; omega⟩
  rw [a1, a2]
  simp only
  rw [a3]
  exact ⟨by simp [upS], by show p1.sent + 1 = _; rw [h2, h.sent]; omega, by show p1.w = _; rw [h3, h.w], by show p1.h = _; rw [h4, h.h], ⟨g2.name, g2.w, g2.h, g2.sent⟩⟩
theorem off_some (p : Pa) (k j : Nat) (hk : k = 0 ∨ k = 3 ∨ k = 24) (h : OffI p k j) : OffR p k j (optB 251 k) := by
  have hk2 : k ≤ 255 := by omega
  have ha : oursB k = true := by rcases hk with rfl | rfl | rfl <;> rfl
  exact off_from p _ k j _ hk2 h ((usF_no p k true (.inl (by omega)) (.inl h.us)).trans (us_on p k h.us ha)) (by simp [upS]) rfl rfl rfl rfl
theorem off_naws (p : Pa) (j : Nat) (h : OffI p 31 j) : OffR p 31 j (optB 251 31 ++ [255, 250, 31, 1, 44, 0, 7, 255, 240]) := by
  have hz : (tellF p).1 = [255, 250, 31, 1, 44, 0, 7, 255, 240] := by unfold tellF; rw [h.w, h.h]; rfl
  have e := usF_31 p h.us
  rw [hz] at e
  exact off_from p _ 31 j _ (by omega) h e (by simp [tellF, upS]) rfl rfl rfl rfl
set_option maxHeartbeats 8000000 in
theorem off_0 (o n : Int) (w : World) (hg : Glob w) (h0 : 0 ≤ n) (h1 : n ≤ 30) (hm : (o.tmod 4 + 4).tmod 4 = 0) : Calls Tryd.prog 5 #[.int .i64 o, .int .i64 n] w fun e w' => e = .returned (.bool true) ∧ Below w.heap.size w w' := by
  have HG := Lib.hid hg
  have hpos : 0 < w.heap.size := by obtain ⟨m, h⟩ := hg; exact World.block_lt_of_cell? w _ h
  rw [← wrap_tmod] at hm
  have d1 : decide (n < 0) = false := by simp; omega
  have d2 : decide (30 < n) = false := by simp; omega
  have GN := Lib.hid (good_new ⟨#[120]⟩ 300 7)
  obtain ⟨o1, ho1⟩ : ∃ s : ByteArray, (⟨(optB 251 0).toArray⟩ : ByteArray) = s := ⟨_, rfl⟩
  obtain ⟨o2, ho2⟩ : ∃ s : ByteArray, (⟨(optB 252 0).toArray⟩ : ByteArray) = s := ⟨_, rfl⟩
  obtain ⟨on, hon⟩ : ∃ s : ByteArray, (⟨(optB 251 0).toArray⟩ : ByteArray) = s := ⟨_, rfl⟩
  have hcat : o1 ++ ⟨#[]⟩ = o1 := by rw [← ho1]; exact (app_arr (optB 251 0) []).symm
  have hn1 : o1.size = 3 := by rw [← ho1]; rfl
  have HO1 := Lib.hid ho1
  have HO2 := Lib.hid ho2
  have HON := Lib.hid hon
  have HSW := Lib.hid (Sep.start w)
  clear hg ho1 ho2 hon
  go_enter Tryd.func5, Tryd.ntmps5
  go_wp2_with (first | (go_at_call 8; refine (new_any ⟨#[120]⟩ 300 7 _ _ ((HSW.out.below HBA.out).alloc0) (by decide)).mono ?_; rintro e w2 ⟨⟨b, rfl, hs2⟩⟩; have HS2 := Lib.hid hs2; clear hs2) | (go_at_call 7; refine (alive_any _ HG.out).mono ?_; rintro e wa ⟨rfl, hba⟩; have HBA := Lib.hid hba; clear hba))
  go_loopw [9] (fun i wr => ∃ (j : Nat) (p : Pa), (j : Int) ≤ n ∧ i = .int .i64 j ∧ OffI p 0 j ∧ Hid (Sep wr (.blk b (pcells p) 68 :: [.low w.heap.size w]))) (fun i _ => n.toNat - (intOf i).toNat)
  case atStart => exact ⟨0, newF ⟨#[120]⟩ 300 7, by omega, rfl, ⟨rfl, rfl, rfl, rfl, GN.out⟩, Lib.hid (by first | exact HS2.out | exact HS2.out.alloc0)⟩
  case round =>
    obtain ⟨j, p, hj, rfl, hinv, HSr⟩ := hrel
    by_cases hlt : (j : Int) < n
    · have hd : decide ((j : Int) < n) = true := by simpa using hlt
      have hr := off_some p 0 j (by omega) hinv
      have hsn := hinv.sent
      have eq1 : Ending.returned (.string ⟨(optF p 253 0).1.toArray⟩) = .returned (.string o1) := by rw [show (optF p 253 0).1 = _ from hr.r1, HO1.out]
      have eq2 : Ending.returned (.string ⟨(optF (optF p 253 0).2 254 0).1.toArray⟩) = .returned (.string o2) := by rw [show (optF (optF p 253 0).2 254 0).1 = _ from hr.r2, HO2.out]
      have eq3 : Ending.returned (.string ⟨(optF (optF (optF p 253 0).2 254 0).2 254 0).1.toArray⟩) = .returned (.string ⟨#[]⟩) := by rw [show (optF (optF (optF p 253 0).2 254 0).2 254 0).1 = _ from hr.r3]
      have HI0 := Lib.hid hinv.good
      have HI := Lib.hid hr
      have E1 := Lib.hid eq1
      have E2 := Lib.hid eq2
      have E3 := Lib.hid eq3
      have hjn : j ≤ 30 := by omega
      clear hinv hr eq1 eq2 eq3
      go_wp2_with fail
      (go_at_call 9; refine (take_opt b p 253 0 _ _ _ HSr.out (fun x hx => HG.out.at (hx.lowAt 0 rfl) hpos) HI0.out (by omega)).mono ?_; rintro e w5 ⟨⟨he5, hs5⟩⟩; have he5 : e = .returned (.string o1) := he5.trans (E1.out); subst he5; have HS5 := Lib.hid hs5; clear hs5)
      go_wp2_with fail
      (go_at_call 9; refine (take_opt b (optF p 253 0).2 254 0 _ _ _ HS5.out (fun x hx => HG.out.at (hx.lowAt 0 rfl) hpos) HI.out.g1 (Int.le_trans HI.out.b1 (by omega))).mono ?_; rintro e w6 ⟨⟨he6, hs6⟩⟩; have he6 : e = .returned (.string o2) := he6.trans (E2.out); subst he6; have HS6 := Lib.hid hs6; clear hs6)
      go_wp2_with fail
      (go_at_call 9; refine (take_opt b (optF (optF p 253 0).2 254 0).2 254 0 _ _ _ HS6.out (fun x hx => HG.out.at (hx.lowAt 0 rfl) hpos) HI.out.g2 (Int.le_trans HI.out.b2 (by omega))).mono ?_; rintro e w7 ⟨⟨he7, hs7⟩⟩; have he7 : e = .returned (.string ⟨#[]⟩) := he7.trans (E3.out); subst he7; have HS7 := Lib.hid hs7; clear hs7)
      go_wp2_with fail
      (go_at_call 10; refine (refOption_s 251 0 o1 _ (by decide) (by decide) (HO1.out)).mono ?_; rintro e w8 ⟨rfl, hb8⟩; have HS8 := Lib.hid (HS7.out.below hb8); clear hb8)
      go_wp2_with fail
      (go_at_call 10; refine (refOption_s 252 0 o2 _ (by decide) (by decide) (HO2.out)).mono ?_; rintro e w9 ⟨rfl, hb9⟩; have HS9 := Lib.hid (HS8.out.below hb9); clear hb9)
      go_wp2_with fail
      go_roundw
      case rel => exact ⟨j + 1, _, by omega, by go_num, HI.out.inv, by first | exact HS9 | exact HS8 | exact HS7⟩
      case measure => simp [intOf]; omega
    · have hd : decide ((j : Int) < n) = false := by simpa using hlt
      have hjn : (j : Int) = n := by omega
      have hsn : p.sent = 2 * n := by rw [hinv.sent, hjn]
      clear hinv
      go_wp2_with (go_at_call 12; refine (sent_any b _ _ _ HSr.out).mono ?_; rintro e w10 ⟨he10, rfl⟩; have he10 : e = .returned (.int .i64 (2 * n)) := he10.trans (by rw [hsn]); subst he10)
      go_ret
      exact ⟨rfl, HSr.out.lowAt 1 rfl⟩
set_option maxHeartbeats 8000000 in
theorem off_1 (o n : Int) (w : World) (hg : Glob w) (h0 : 0 ≤ n) (h1 : n ≤ 30) (hm : (o.tmod 4 + 4).tmod 4 = 1) : Calls Tryd.prog 5 #[.int .i64 o, .int .i64 n] w fun e w' => e = .returned (.bool true) ∧ Below w.heap.size w w' := by
  have HG := Lib.hid hg
  have hpos : 0 < w.heap.size := by obtain ⟨m, h⟩ := hg; exact World.block_lt_of_cell? w _ h
  rw [← wrap_tmod] at hm
  have d1 : decide (n < 0) = false := by simp; omega
  have d2 : decide (30 < n) = false := by simp; omega
  have GN := Lib.hid (good_new ⟨#[120]⟩ 300 7)
  obtain ⟨o1, ho1⟩ : ∃ s : ByteArray, (⟨(optB 251 3).toArray⟩ : ByteArray) = s := ⟨_, rfl⟩
  obtain ⟨o2, ho2⟩ : ∃ s : ByteArray, (⟨(optB 252 3).toArray⟩ : ByteArray) = s := ⟨_, rfl⟩
  obtain ⟨on, hon⟩ : ∃ s : ByteArray, (⟨(optB 251 3).toArray⟩ : ByteArray) = s := ⟨_, rfl⟩
  have hcat : o1 ++ ⟨#[]⟩ = o1 := by rw [← ho1]; exact (app_arr (optB 251 3) []).symm
  have hn1 : o1.size = 3 := by rw [← ho1]; rfl
  have HO1 := Lib.hid ho1
  have HO2 := Lib.hid ho2
  have HON := Lib.hid hon
  have HSW := Lib.hid (Sep.start w)
  clear hg ho1 ho2 hon
  go_enter Tryd.func5, Tryd.ntmps5
  go_wp2_with (first | (go_at_call 8; refine (new_any ⟨#[120]⟩ 300 7 _ _ ((HSW.out.below HBA.out).alloc0) (by decide)).mono ?_; rintro e w2 ⟨⟨b, rfl, hs2⟩⟩; have HS2 := Lib.hid hs2; clear hs2) | (go_at_call 7; refine (alive_any _ HG.out).mono ?_; rintro e wa ⟨rfl, hba⟩; have HBA := Lib.hid hba; clear hba))
  go_loopw [9] (fun i wr => ∃ (j : Nat) (p : Pa), (j : Int) ≤ n ∧ i = .int .i64 j ∧ OffI p 3 j ∧ Hid (Sep wr (.blk b (pcells p) 68 :: [.low w.heap.size w]))) (fun i _ => n.toNat - (intOf i).toNat)
  case atStart => exact ⟨0, newF ⟨#[120]⟩ 300 7, by omega, rfl, ⟨rfl, rfl, rfl, rfl, GN.out⟩, Lib.hid (by first | exact HS2.out | exact HS2.out.alloc0)⟩
  case round =>
    obtain ⟨j, p, hj, rfl, hinv, HSr⟩ := hrel
    by_cases hlt : (j : Int) < n
    · have hd : decide ((j : Int) < n) = true := by simpa using hlt
      have hr := off_some p 3 j (by omega) hinv
      have hsn := hinv.sent
      have eq1 : Ending.returned (.string ⟨(optF p 253 3).1.toArray⟩) = .returned (.string o1) := by rw [show (optF p 253 3).1 = _ from hr.r1, HO1.out]
      have eq2 : Ending.returned (.string ⟨(optF (optF p 253 3).2 254 3).1.toArray⟩) = .returned (.string o2) := by rw [show (optF (optF p 253 3).2 254 3).1 = _ from hr.r2, HO2.out]
      have eq3 : Ending.returned (.string ⟨(optF (optF (optF p 253 3).2 254 3).2 254 3).1.toArray⟩) = .returned (.string ⟨#[]⟩) := by rw [show (optF (optF (optF p 253 3).2 254 3).2 254 3).1 = _ from hr.r3]
      have HI0 := Lib.hid hinv.good
      have HI := Lib.hid hr
      have E1 := Lib.hid eq1
      have E2 := Lib.hid eq2
      have E3 := Lib.hid eq3
      have hjn : j ≤ 30 := by omega
      clear hinv hr eq1 eq2 eq3
      go_wp2_with fail
      (go_at_call 9; refine (take_opt b p 253 3 _ _ _ HSr.out (fun x hx => HG.out.at (hx.lowAt 0 rfl) hpos) HI0.out (by omega)).mono ?_; rintro e w5 ⟨⟨he5, hs5⟩⟩; have he5 : e = .returned (.string o1) := he5.trans (E1.out); subst he5; have HS5 := Lib.hid hs5; clear hs5)
      go_wp2_with fail
      (go_at_call 9; refine (take_opt b (optF p 253 3).2 254 3 _ _ _ HS5.out (fun x hx => HG.out.at (hx.lowAt 0 rfl) hpos) HI.out.g1 (Int.le_trans HI.out.b1 (by omega))).mono ?_; rintro e w6 ⟨⟨he6, hs6⟩⟩; have he6 : e = .returned (.string o2) := he6.trans (E2.out); subst he6; have HS6 := Lib.hid hs6; clear hs6)
      go_wp2_with fail
      (go_at_call 9; refine (take_opt b (optF (optF p 253 3).2 254 3).2 254 3 _ _ _ HS6.out (fun x hx => HG.out.at (hx.lowAt 0 rfl) hpos) HI.out.g2 (Int.le_trans HI.out.b2 (by omega))).mono ?_; rintro e w7 ⟨⟨he7, hs7⟩⟩; have he7 : e = .returned (.string ⟨#[]⟩) := he7.trans (E3.out); subst he7; have HS7 := Lib.hid hs7; clear hs7)
      go_wp2_with fail
      (go_at_call 10; refine (refOption_s 251 3 o1 _ (by decide) (by decide) (HO1.out)).mono ?_; rintro e w8 ⟨rfl, hb8⟩; have HS8 := Lib.hid (HS7.out.below hb8); clear hb8)
      go_wp2_with fail
      (go_at_call 10; refine (refOption_s 252 3 o2 _ (by decide) (by decide) (HO2.out)).mono ?_; rintro e w9 ⟨rfl, hb9⟩; have HS9 := Lib.hid (HS8.out.below hb9); clear hb9)
      go_wp2_with fail
      go_roundw
      case rel => exact ⟨j + 1, _, by omega, by go_num, HI.out.inv, by first | exact HS9 | exact HS8 | exact HS7⟩
      case measure => simp [intOf]; omega
    · have hd : decide ((j : Int) < n) = false := by simpa using hlt
      have hjn : (j : Int) = n := by omega
      have hsn : p.sent = 2 * n := by rw [hinv.sent, hjn]
      clear hinv
      go_wp2_with (go_at_call 12; refine (sent_any b _ _ _ HSr.out).mono ?_; rintro e w10 ⟨he10, rfl⟩; have he10 : e = .returned (.int .i64 (2 * n)) := he10.trans (by rw [hsn]); subst he10)
      go_ret
      exact ⟨rfl, HSr.out.lowAt 1 rfl⟩
set_option maxHeartbeats 8000000 in
theorem off_2 (o n : Int) (w : World) (hg : Glob w) (h0 : 0 ≤ n) (h1 : n ≤ 30) (hm : (o.tmod 4 + 4).tmod 4 = 2) : Calls Tryd.prog 5 #[.int .i64 o, .int .i64 n] w fun e w' => e = .returned (.bool true) ∧ Below w.heap.size w w' := by
  have HG := Lib.hid hg
  have hpos : 0 < w.heap.size := by obtain ⟨m, h⟩ := hg; exact World.block_lt_of_cell? w _ h
  rw [← wrap_tmod] at hm
  have d1 : decide (n < 0) = false := by simp; omega
  have d2 : decide (30 < n) = false := by simp; omega
  have GN := Lib.hid (good_new ⟨#[120]⟩ 300 7)
  obtain ⟨o1, ho1⟩ : ∃ s : ByteArray, (⟨(optB 251 24).toArray⟩ : ByteArray) = s := ⟨_, rfl⟩
  obtain ⟨o2, ho2⟩ : ∃ s : ByteArray, (⟨(optB 252 24).toArray⟩ : ByteArray) = s := ⟨_, rfl⟩
  obtain ⟨on, hon⟩ : ∃ s : ByteArray, (⟨(optB 251 24).toArray⟩ : ByteArray) = s := ⟨_, rfl⟩
  have hcat : o1 ++ ⟨#[]⟩ = o1 := by rw [← ho1]; exact (app_arr (optB 251 24) []).symm
  have hn1 : o1.size = 3 := by rw [← ho1]; rfl
  have HO1 := Lib.hid ho1
  have HO2 := Lib.hid ho2
  have HON := Lib.hid hon
  have HSW := Lib.hid (Sep.start w)
  clear hg ho1 ho2 hon
  go_enter Tryd.func5, Tryd.ntmps5
  go_wp2_with (first | (go_at_call 8; refine (new_any ⟨#[120]⟩ 300 7 _ _ ((HSW.out.below HBA.out).alloc0) (by decide)).mono ?_; rintro e w2 ⟨⟨b, rfl, hs2⟩⟩; have HS2 := Lib.hid hs2; clear hs2) | (go_at_call 7; refine (alive_any _ HG.out).mono ?_; rintro e wa ⟨rfl, hba⟩; have HBA := Lib.hid hba; clear hba))
  go_loopw [9] (fun i wr => ∃ (j : Nat) (p : Pa), (j : Int) ≤ n ∧ i = .int .i64 j ∧ OffI p 24 j ∧ Hid (Sep wr (.blk b (pcells p) 68 :: [.low w.heap.size w]))) (fun i _ => n.toNat - (intOf i).toNat)
  case atStart => exact ⟨0, newF ⟨#[120]⟩ 300 7, by omega, rfl, ⟨rfl, rfl, rfl, rfl, GN.out⟩, Lib.hid (by first | exact HS2.out | exact HS2.out.alloc0)⟩
  case round =>
    obtain ⟨j, p, hj, rfl, hinv, HSr⟩ := hrel
    by_cases hlt : (j : Int) < n
    · have hd : decide ((j : Int) < n) = true := by simpa using hlt
      have hr := off_some p 24 j (by omega) hinv
      have hsn := hinv.sent
      have eq1 : Ending.returned (.string ⟨(optF p 253 24).1.toArray⟩) = .returned (.string o1) := by rw [show (optF p 253 24).1 = _ from hr.r1, HO1.out]
      have eq2 : Ending.returned (.string ⟨(optF (optF p 253 24).2 254 24).1.toArray⟩) = .returned (.string o2) := by rw [show (optF (optF p 253 24).2 254 24).1 = _ from hr.r2, HO2.out]
      have eq3 : Ending.returned (.string ⟨(optF (optF (optF p 253 24).2 254 24).2 254 24).1.toArray⟩) = .returned (.string ⟨#[]⟩) := by rw [show (optF (optF (optF p 253 24).2 254 24).2 254 24).1 = _ from hr.r3]
      have HI0 := Lib.hid hinv.good
      have HI := Lib.hid hr
      have E1 := Lib.hid eq1
      have E2 := Lib.hid eq2
      have E3 := Lib.hid eq3
      have hjn : j ≤ 30 := by omega
      clear hinv hr eq1 eq2 eq3
      go_wp2_with fail
      (go_at_call 9; refine (take_opt b p 253 24 _ _ _ HSr.out (fun x hx => HG.out.at (hx.lowAt 0 rfl) hpos) HI0.out (by omega)).mono ?_; rintro e w5 ⟨⟨he5, hs5⟩⟩; have he5 : e = .returned (.string o1) := he5.trans (E1.out); subst he5; have HS5 := Lib.hid hs5; clear hs5)
      go_wp2_with fail
      (go_at_call 9; refine (take_opt b (optF p 253 24).2 254 24 _ _ _ HS5.out (fun x hx => HG.out.at (hx.lowAt 0 rfl) hpos) HI.out.g1 (Int.le_trans HI.out.b1 (by omega))).mono ?_; rintro e w6 ⟨⟨he6, hs6⟩⟩; have he6 : e = .returned (.string o2) := he6.trans (E2.out); subst he6; have HS6 := Lib.hid hs6; clear hs6)
      go_wp2_with fail
      (go_at_call 9; refine (take_opt b (optF (optF p 253 24).2 254 24).2 254 24 _ _ _ HS6.out (fun x hx => HG.out.at (hx.lowAt 0 rfl) hpos) HI.out.g2 (Int.le_trans HI.out.b2 (by omega))).mono ?_; rintro e w7 ⟨⟨he7, hs7⟩⟩; have he7 : e = .returned (.string ⟨#[]⟩) := he7.trans (E3.out); subst he7; have HS7 := Lib.hid hs7; clear hs7)
      go_wp2_with fail
      (go_at_call 10; refine (refOption_s 251 24 o1 _ (by decide) (by decide) (HO1.out)).mono ?_; rintro e w8 ⟨rfl, hb8⟩; have HS8 := Lib.hid (HS7.out.below hb8); clear hb8)
      go_wp2_with fail
      (go_at_call 10; refine (refOption_s 252 24 o2 _ (by decide) (by decide) (HO2.out)).mono ?_; rintro e w9 ⟨rfl, hb9⟩; have HS9 := Lib.hid (HS8.out.below hb9); clear hb9)
      go_wp2_with fail
      go_roundw
      case rel => exact ⟨j + 1, _, by omega, by go_num, HI.out.inv, by first | exact HS9 | exact HS8 | exact HS7⟩
      case measure => simp [intOf]; omega
    · have hd : decide ((j : Int) < n) = false := by simpa using hlt
      have hjn : (j : Int) = n := by omega
      have hsn : p.sent = 2 * n := by rw [hinv.sent, hjn]
      clear hinv
      go_wp2_with (go_at_call 12; refine (sent_any b _ _ _ HSr.out).mono ?_; rintro e w10 ⟨he10, rfl⟩; have he10 : e = .returned (.int .i64 (2 * n)) := he10.trans (by rw [hsn]); subst he10)
      go_ret
      exact ⟨rfl, HSr.out.lowAt 1 rfl⟩
set_option maxHeartbeats 8000000 in
theorem off_3 (o n : Int) (w : World) (hg : Glob w) (h0 : 0 ≤ n) (h1 : n ≤ 30) (hm : (o.tmod 4 + 4).tmod 4 = 3) : Calls Tryd.prog 5 #[.int .i64 o, .int .i64 n] w fun e w' => e = .returned (.bool true) ∧ Below w.heap.size w w' := by
  have HG := Lib.hid hg
  have hpos : 0 < w.heap.size := by obtain ⟨m, h⟩ := hg; exact World.block_lt_of_cell? w _ h
  rw [← wrap_tmod] at hm
  have d1 : decide (n < 0) = false := by simp; omega
  have d2 : decide (30 < n) = false := by simp; omega
  have GN := Lib.hid (good_new ⟨#[120]⟩ 300 7)
  obtain ⟨o1, ho1⟩ : ∃ s : ByteArray, (⟨(optB 251 31).toArray⟩ : ByteArray) = s := ⟨_, rfl⟩
  obtain ⟨o2, ho2⟩ : ∃ s : ByteArray, (⟨(optB 252 31).toArray⟩ : ByteArray) = s := ⟨_, rfl⟩
  obtain ⟨on, hon⟩ : ∃ s : ByteArray, (⟨(optB 251 31 ++ [255, 250, 31, 1, 44, 0, 7, 255, 240]).toArray⟩ : ByteArray) = s := ⟨_, rfl⟩
  have hcat : o1 ++ ⟨#[255, 250, 31, 1, 44, 0, 7, 255, 240]⟩ = on := by rw [← ho1, ← hon]; rw [app_arr]
  have hn1 : o1.size = 3 := by rw [← ho1]; rfl
  have HO1 := Lib.hid ho1
  have HO2 := Lib.hid ho2
  have HON := Lib.hid hon
  have HSW := Lib.hid (Sep.start w)
  clear hg ho1 ho2 hon
  go_enter Tryd.func5, Tryd.ntmps5
  go_wp2_with (first | (go_at_call 8; refine (new_any ⟨#[120]⟩ 300 7 _ _ ((HSW.out.below HBA.out).alloc0) (by decide)).mono ?_; rintro e w2 ⟨⟨b, rfl, hs2⟩⟩; have HS2 := Lib.hid hs2; clear hs2) | (go_at_call 7; refine (alive_any _ HG.out).mono ?_; rintro e wa ⟨rfl, hba⟩; have HBA := Lib.hid hba; clear hba))
  go_loopw [9] (fun i wr => ∃ (j : Nat) (p : Pa), (j : Int) ≤ n ∧ i = .int .i64 j ∧ OffI p 31 j ∧ Hid (Sep wr (.blk b (pcells p) 68 :: [.low w.heap.size w]))) (fun i _ => n.toNat - (intOf i).toNat)
  case atStart => exact ⟨0, newF ⟨#[120]⟩ 300 7, by omega, rfl, ⟨rfl, rfl, rfl, rfl, GN.out⟩, Lib.hid (by first | exact HS2.out | exact HS2.out.alloc0)⟩
  case round =>
    obtain ⟨j, p, hj, rfl, hinv, HSr⟩ := hrel
    by_cases hlt : (j : Int) < n
    · have hd : decide ((j : Int) < n) = true := by simpa using hlt
      have hr := off_naws p j hinv
      have hsn := hinv.sent
      have eq1 : Ending.returned (.string ⟨(optF p 253 31).1.toArray⟩) = .returned (.string on) := by rw [show (optF p 253 31).1 = _ from hr.r1, HON.out]
      have eq2 : Ending.returned (.string ⟨(optF (optF p 253 31).2 254 31).1.toArray⟩) = .returned (.string o2) := by rw [show (optF (optF p 253 31).2 254 31).1 = _ from hr.r2, HO2.out]
      have eq3 : Ending.returned (.string ⟨(optF (optF (optF p 253 31).2 254 31).2 254 31).1.toArray⟩) = .returned (.string ⟨#[]⟩) := by rw [show (optF (optF (optF p 253 31).2 254 31).2 254 31).1 = _ from hr.r3]
      have HI0 := Lib.hid hinv.good
      have HI := Lib.hid hr
      have E1 := Lib.hid eq1
      have E2 := Lib.hid eq2
      have E3 := Lib.hid eq3
      have hjn : j ≤ 30 := by omega
      clear hinv hr eq1 eq2 eq3
      go_wp2_with fail
      (go_at_call 9; refine (take_opt b p 253 31 _ _ _ HSr.out (fun x hx => HG.out.at (hx.lowAt 0 rfl) hpos) HI0.out (by omega)).mono ?_; rintro e w5 ⟨⟨he5, hs5⟩⟩; have he5 : e = .returned (.string on) := he5.trans (E1.out); subst he5; have HS5 := Lib.hid hs5; clear hs5)
      go_wp2_with fail
      (go_at_call 9; refine (take_opt b (optF p 253 31).2 254 31 _ _ _ HS5.out (fun x hx => HG.out.at (hx.lowAt 0 rfl) hpos) HI.out.g1 (Int.le_trans HI.out.b1 (by omega))).mono ?_; rintro e w6 ⟨⟨he6, hs6⟩⟩; have he6 : e = .returned (.string o2) := he6.trans (E2.out); subst he6; have HS6 := Lib.hid hs6; clear hs6)
      go_wp2_with fail
      (go_at_call 9; refine (take_opt b (optF (optF p 253 31).2 254 31).2 254 31 _ _ _ HS6.out (fun x hx => HG.out.at (hx.lowAt 0 rfl) hpos) HI.out.g2 (Int.le_trans HI.out.b2 (by omega))).mono ?_; rintro e w7 ⟨⟨he7, hs7⟩⟩; have he7 : e = .returned (.string ⟨#[]⟩) := he7.trans (E3.out); subst he7; have HS7 := Lib.hid hs7; clear hs7)
      go_wp2_with fail
      (go_at_call 10; refine (refOption_s 251 31 o1 _ (by decide) (by decide) (HO1.out)).mono ?_; rintro e w8 ⟨rfl, hb8⟩; have HS8 := Lib.hid (HS7.out.below hb8); clear hb8)
      go_wp2_with fail
      (go_at_call 10; refine (refOption_s 252 31 o2 _ (by decide) (by decide) (HO2.out)).mono ?_; rintro e w9 ⟨rfl, hb9⟩; have HS9 := Lib.hid (HS8.out.below hb9); clear hb9)
      go_wp2_with fail
      go_roundw
      case rel => exact ⟨j + 1, _, by omega, by go_num, HI.out.inv, by first | exact HS9 | exact HS8 | exact HS7⟩
      case measure => simp [intOf]; omega
    · have hd : decide ((j : Int) < n) = false := by simpa using hlt
      have hjn : (j : Int) = n := by omega
      have hsn : p.sent = 2 * n := by rw [hinv.sent, hjn]
      clear hinv
      go_wp2_with (go_at_call 12; refine (sent_any b _ _ _ HSr.out).mono ?_; rintro e w10 ⟨he10, rfl⟩; have he10 : e = .returned (.int .i64 (2 * n)) := he10.trans (by rw [hsn]); subst he10)
      go_ret
      exact ⟨rfl, HSr.out.lowAt 1 rfl⟩
end Go.Proofs.YtjlamnioknbcaaaDoor.Q2
