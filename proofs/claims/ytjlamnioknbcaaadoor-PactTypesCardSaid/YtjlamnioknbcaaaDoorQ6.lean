/- PactTypes -/
import Derived.Test.YtjlamnioknbcaaaDoorQ2
import Derived.Lib.Hide
namespace Go.Proofs.YtjlamnioknbcaaaDoor.Q6
set_option linter.unusedVariables false
set_option linter.unusedSimpArgs false
set_option linter.unnecessarySimpa false
set_option maxRecDepth 100000
open Go.RowKit K1 K3 K5 K11 K12 K14 K20 K21 K22 K25 W0 V1 V2 V3 Y1 Y2 Y3 Y4 P1 P2 P3 P4 P5 P6 P7 P8 P9 P10 Q1 Q2

attribute [local go_sem] cell_pastA froz_pastA
theorem one_list : (⟨#[1]⟩ : ByteArray).toList = [1] := by simp
theorem refSub_s (o : Nat) (s t : ByteArray) (w : World) (ho : o ≤ 255) (hs : s.size ≤ 100000) (h : (⟨(subB o s.data.toList).toArray⟩ : ByteArray) = t) : Calls Tryd.prog 11 #[.int .i64 o, .string s] w fun e w' => e = .returned (.string t) ∧ Below w.heap.size w w' := by
  subst h
  exact refSub_any o s w ho hs
theorem name_bytes (s : ByteArray) : ((⟨#[0]⟩ : ByteArray) ++ s.extract 0 (min (s.size : Int) 30).toNat).data.toList = nameB (cut30 s) := by
  rw [cut_eq]
  unfold nameB
  simp
theorem name_size (s : ByteArray) : ((⟨#[0]⟩ : ByteArray) ++ s.extract 0 (min (s.size : Int) 30).toNat).size ≤ 100000 := by
  rw [cut_eq, ByteArray.size_append]
  have : (cut30 s).size ≤ 30 := (good_new s 0 0).name
  have : (⟨#[0]⟩ : ByteArray).size = 1 := rfl
  omega
theorem types_p1 (p : Pa) (h : p.us 24 = (0, false)) : (optF p 253 24).1 = optB 251 24 ∧ (optF p 253 24).2.us 24 = (1, false) ∧ (optF p 253 24).2.name = p.name ∧ (optF p 253 24).2.sent = p.sent + 1 := by
  have e3 : optF p 253 24 = _ := (optF_us p 24 true (by omega)).trans ((usF_no p 24 true (.inl (by omega)) (.inl h)).trans (us_on p 24 h rfl))
  rw [e3]
  exact ⟨rfl, by simp [upS], rfl, rfl⟩
set_option maxHeartbeats 8000000 in
theorem ty_y1 (s ask : ByteArray) (n : Int) (w : World) (hg : Glob w) (hs : s.size ≤ 60) (ha : ask.size ≤ 40) (h0 : 0 ≤ n) (h1 : n ≤ 20) (hone : ask.toList = [1]) : Calls Tryd.prog 4 #[.string s, .string ask, .bool true, .int .i64 n] w fun e w' => e = .returned (.bool true) ∧ Below w.heap.size w w' := by
  have HG := Lib.hid hg
  have hpos : 0 < w.heap.size := by obtain ⟨m, h⟩ := hg; exact World.block_lt_of_cell? w _ h
  have d1 : decide (60 < (s.size : Int)) = false := by simp; omega
  have d2 : decide (40 < (ask.size : Int)) = false := by simp; omega
  have d3 : decide (n < 0) = false := by simp; omega
  have d4 : decide (20 < n) = false := by simp; omega
  have HA := Lib.hid hone
  have a1 : (ask.toList == [1]) = true := by simpa using hone
  have G0 := Lib.hid (good_new s 80 24)
  have hp0 : (newF s 80 24).us 24 = (0, false) := rfl
  have hty := types_p1 (newF s 80 24) hp0
  have HSW := Lib.hid (Sep.start w)
  have G1 := Lib.hid (good_opt G0.out 253 24).1
  have US : Hid (((optF (newF s 80 24) 253 24).2.us 24).1 = 1) := Lib.hid (by rw [hty.2.1])
  obtain ⟨sw, hsw⟩ : ∃ t : ByteArray, (⟨(subB 24 (nameB (cut30 s))).toArray⟩ : ByteArray) = t := ⟨_, rfl⟩
  have SW : Hid (Ending.returned (.string ⟨(subB 24 (nameB (optF (newF s 80 24) 253 24).2.name)).toArray⟩) = .returned (.string sw)) := Lib.hid (by rw [hty.2.2.1, ← hsw]; rfl)
  have SW2 : Hid ((⟨(subB 24 (((⟨#[0]⟩ : ByteArray) ++ s.extract 0 (min (s.size : Int) 30).toNat).data.toList)).toArray⟩ : ByteArray) = sw) := Lib.hid (by rw [name_bytes, hsw])
  have TX : Hid (Ending.returned (.string ⟨(optF (newF s 80 24) 253 24).1.toArray⟩) = .returned (.string ⟨#[255, 251, 24]⟩)) := Lib.hid (by rw [hty.1]; rfl)
  have hnz : (⟨#[0]⟩ : ByteArray).size = 1 := rfl
  have hse : (optF (newF s 80 24) 253 24).2.sent = 1 := by rw [hty.2.2.2]; rfl
  have HSE := Lib.hid hse
  clear hse
  clear hg hone hp0 hty hsw
  go_enter Tryd.func4, Tryd.ntmps4
  go_wp2_with fail
  refine (alive_any _ HG.out).mono ?_
  rintro e wa ⟨rfl, hba⟩
  have HBA := Lib.hid hba
  clear hba
  go_wp2_with fail
  (go_at_call 8; refine (new_any s 80 24 _ _ (HSW.out.below HBA.out) (by omega)).mono ?_; rintro e w2 ⟨⟨b, rfl, hs2⟩⟩; have HS2 := Lib.hid hs2; clear hs2)
  go_wp2_with fail
  (go_at_call 9; refine (take_opt b (newF s 80 24) 253 24 _ _ _ HS2.out (fun x hx => HG.out.at (hx.lowAt 0 rfl) hpos) G0.out (by show (0 : Int) ≤ _; decide)).mono ?_; rintro e w3 ⟨⟨he3, hs3⟩⟩; have he3 : e = .returned (.string ⟨#[255, 251, 24]⟩) := he3.trans (TX.out); subst he3; have HS3 := Lib.hid hs3; clear hs3)
  go_wp2_with fail
  (go_at_call 11; refine (refSub_s 24 _ sw _ (by decide) (name_size s) SW2.out).mono ?_; rintro e w4 ⟨rfl, hb4⟩; have HS4 := Lib.hid (HS3.out.below hb4); clear hb4)
  go_wp2_with fail
  go_loopw [11] (fun i wr => ∃ (j : Nat), (j : Int) ≤ n ∧ i = .int .i64 j ∧ Hid (Sep wr (.blk b (pcells (optF (newF s 80 24) 253 24).2) 68 :: [.low w.heap.size w]))) (fun i _ => n.toNat - (intOf i).toNat)
  case atStart => exact ⟨0, by omega, rfl, HS4⟩
  case round =>
    obtain ⟨j, hj, rfl, HSr⟩ := hrel
    by_cases hlt : (j : Int) < n
    · have hd : decide ((j : Int) < n) = true := by simpa using hlt
      have hjn : j ≤ 20 := by omega
      go_wp2_with fail
      (go_at_call 9; refine (take_name b (optF (newF s 80 24) 253 24).2 0 ⟨#[1]⟩ one_list _ _ HSr.out (fun x hx => HG.out.at (hx.lowAt 0 rfl) hpos) G1.out US.out).mono ?_; rintro e w5 ⟨⟨he5, hs5⟩⟩; have he5 : e = .returned (.string sw) := he5.trans (SW.out); subst he5; have HS5 := Lib.hid hs5; clear hs5)
      go_wp2_with fail
      (go_at_call 9; refine (take_name b (optF (newF s 80 24) 253 24).2 0 ask HA.out _ _ HS5.out (fun x hx => HG.out.at (hx.lowAt 0 rfl) hpos) G1.out US.out).mono ?_; rintro e w6 ⟨⟨he6, hs6⟩⟩; have he6 : e = .returned (.string sw) := he6.trans (SW.out); subst he6; have HS6 := Lib.hid hs6; clear hs6)
      go_wp2_with fail
      (go_at_call 9; refine (take_oth b (optF (newF s 80 24) 253 24).2 3 0 31 ⟨#[1]⟩ _ _ HS6.out (by decide) (fun h => absurd h.2.1 (by decide))).mono ?_; rintro e w7 ⟨⟨he7, hs7⟩⟩; have he7 : e = .returned (.string ⟨#[]⟩) := he7.trans (rfl); subst he7; have HS7 := Lib.hid hs7; clear hs7)
      go_wp2_with fail
      go_roundw
      case rel => exact ⟨j + 1, by omega, by go_num, HS7⟩
      case measure => simp [intOf]; omega
    · have hd : decide ((j : Int) < n) = false := by simpa using hlt
      have hjn : (j : Int) = n := by omega
      go_wp2_with fail
      (go_at_call 12; refine (sent_any b _ _ _ HSr.out).mono ?_; rintro e w10 ⟨he10, rfl⟩; have he10 : e = .returned (.int .i64 (1)) := he10.trans (by rw [HSE.out]); subst he10)
      go_wp2_with fail
      go_ret
      exact ⟨rfl, HSr.out.lowAt 1 rfl⟩
set_option maxHeartbeats 8000000 in
theorem ty_y0 (s ask : ByteArray) (n : Int) (w : World) (hg : Glob w) (hs : s.size ≤ 60) (ha : ask.size ≤ 40) (h0 : 0 ≤ n) (h1 : n ≤ 20) (hone : ¬ ask.toList = [1]) : Calls Tryd.prog 4 #[.string s, .string ask, .bool true, .int .i64 n] w fun e w' => e = .returned (.bool true) ∧ Below w.heap.size w w' := by
  have HG := Lib.hid hg
  have hpos : 0 < w.heap.size := by obtain ⟨m, h⟩ := hg; exact World.block_lt_of_cell? w _ h
  have d1 : decide (60 < (s.size : Int)) = false := by simp; omega
  have d2 : decide (40 < (ask.size : Int)) = false := by simp; omega
  have d3 : decide (n < 0) = false := by simp; omega
  have d4 : decide (20 < n) = false := by simp; omega
  have HA := Lib.hid hone
  have a1 : (ask.toList == [1]) = false := by simpa using hone
  have G0 := Lib.hid (good_new s 80 24)
  have hp0 : (newF s 80 24).us 24 = (0, false) := rfl
  have hty := types_p1 (newF s 80 24) hp0
  have HSW := Lib.hid (Sep.start w)
  have G1 := Lib.hid (good_opt G0.out 253 24).1
  have US : Hid (((optF (newF s 80 24) 253 24).2.us 24).1 = 1) := Lib.hid (by rw [hty.2.1])
  obtain ⟨sw, hsw⟩ : ∃ t : ByteArray, (⟨(subB 24 (nameB (cut30 s))).toArray⟩ : ByteArray) = t := ⟨_, rfl⟩
  have SW : Hid (Ending.returned (.string ⟨(subB 24 (nameB (optF (newF s 80 24) 253 24).2.name)).toArray⟩) = .returned (.string sw)) := Lib.hid (by rw [hty.2.2.1, ← hsw]; rfl)
  have SW2 : Hid ((⟨(subB 24 (((⟨#[0]⟩ : ByteArray) ++ s.extract 0 (min (s.size : Int) 30).toNat).data.toList)).toArray⟩ : ByteArray) = sw) := Lib.hid (by rw [name_bytes, hsw])
  have TX : Hid (Ending.returned (.string ⟨(optF (newF s 80 24) 253 24).1.toArray⟩) = .returned (.string ⟨#[255, 251, 24]⟩)) := Lib.hid (by rw [hty.1]; rfl)
  have hnz : (⟨#[0]⟩ : ByteArray).size = 1 := rfl
  have hse : (optF (newF s 80 24) 253 24).2.sent = 1 := by rw [hty.2.2.2]; rfl
  have HSE := Lib.hid hse
  clear hse
  clear hg hone hp0 hty hsw
  go_enter Tryd.func4, Tryd.ntmps4
  go_wp2_with fail
  refine (alive_any _ HG.out).mono ?_
  rintro e wa ⟨rfl, hba⟩
  have HBA := Lib.hid hba
  clear hba
  go_wp2_with fail
  (go_at_call 8; refine (new_any s 80 24 _ _ (HSW.out.below HBA.out) (by omega)).mono ?_; rintro e w2 ⟨⟨b, rfl, hs2⟩⟩; have HS2 := Lib.hid hs2; clear hs2)
  go_wp2_with fail
  (go_at_call 9; refine (take_opt b (newF s 80 24) 253 24 _ _ _ HS2.out (fun x hx => HG.out.at (hx.lowAt 0 rfl) hpos) G0.out (by show (0 : Int) ≤ _; decide)).mono ?_; rintro e w3 ⟨⟨he3, hs3⟩⟩; have he3 : e = .returned (.string ⟨#[255, 251, 24]⟩) := he3.trans (TX.out); subst he3; have HS3 := Lib.hid hs3; clear hs3)
  go_wp2_with fail
  (go_at_call 11; refine (refSub_s 24 _ sw _ (by decide) (name_size s) SW2.out).mono ?_; rintro e w4 ⟨rfl, hb4⟩; have HS4 := Lib.hid (HS3.out.below hb4); clear hb4)
  go_wp2_with fail
  go_loopw [11] (fun i wr => ∃ (j : Nat), (j : Int) ≤ n ∧ i = .int .i64 j ∧ Hid (Sep wr (.blk b (pcells (optF (newF s 80 24) 253 24).2) 68 :: [.low w.heap.size w]))) (fun i _ => n.toNat - (intOf i).toNat)
  case atStart => exact ⟨0, by omega, rfl, HS4⟩
  case round =>
    obtain ⟨j, hj, rfl, HSr⟩ := hrel
    by_cases hlt : (j : Int) < n
    · have hd : decide ((j : Int) < n) = true := by simpa using hlt
      have hjn : j ≤ 20 := by omega
      go_wp2_with fail
      (go_at_call 9; refine (take_name b (optF (newF s 80 24) 253 24).2 0 ⟨#[1]⟩ one_list _ _ HSr.out (fun x hx => HG.out.at (hx.lowAt 0 rfl) hpos) G1.out US.out).mono ?_; rintro e w5 ⟨⟨he5, hs5⟩⟩; have he5 : e = .returned (.string sw) := he5.trans (SW.out); subst he5; have HS5 := Lib.hid hs5; clear hs5)
      go_wp2_with fail
      (go_at_call 9; refine (take_oth b (optF (newF s 80 24) 253 24).2 3 0 24 ask _ _ HS5.out (by decide) (fun h => HA.out h.2.2.1)).mono ?_; rintro e w6 ⟨⟨he6, hs6⟩⟩; have he6 : e = .returned (.string ⟨#[]⟩) := he6.trans (rfl); subst he6; have HS6 := Lib.hid hs6; clear hs6)
      go_wp2_with fail
      (go_at_call 9; refine (take_oth b (optF (newF s 80 24) 253 24).2 3 0 31 ⟨#[1]⟩ _ _ HS6.out (by decide) (fun h => absurd h.2.1 (by decide))).mono ?_; rintro e w7 ⟨⟨he7, hs7⟩⟩; have he7 : e = .returned (.string ⟨#[]⟩) := he7.trans (rfl); subst he7; have HS7 := Lib.hid hs7; clear hs7)
      go_wp2_with fail
      go_roundw
      case rel => exact ⟨j + 1, by omega, by go_num, HS7⟩
      case measure => simp [intOf]; omega
    · have hd : decide ((j : Int) < n) = false := by simpa using hlt
      have hjn : (j : Int) = n := by omega
      go_wp2_with fail
      (go_at_call 12; refine (sent_any b _ _ _ HSr.out).mono ?_; rintro e w10 ⟨he10, rfl⟩; have he10 : e = .returned (.int .i64 (1)) := he10.trans (by rw [HSE.out]); subst he10)
      go_wp2_with fail
      go_ret
      exact ⟨rfl, HSr.out.lowAt 1 rfl⟩
set_option maxHeartbeats 8000000 in
theorem ty_n1 (s ask : ByteArray) (n : Int) (w : World) (hg : Glob w) (hs : s.size ≤ 60) (ha : ask.size ≤ 40) (h0 : 0 ≤ n) (h1 : n ≤ 20) (hone : ask.toList = [1]) : Calls Tryd.prog 4 #[.string s, .string ask, .bool false, .int .i64 n] w fun e w' => e = .returned (.bool true) ∧ Below w.heap.size w w' := by
  have HG := Lib.hid hg
  have hpos : 0 < w.heap.size := by obtain ⟨m, h⟩ := hg; exact World.block_lt_of_cell? w _ h
  have d1 : decide (60 < (s.size : Int)) = false := by simp; omega
  have d2 : decide (40 < (ask.size : Int)) = false := by simp; omega
  have d3 : decide (n < 0) = false := by simp; omega
  have d4 : decide (20 < n) = false := by simp; omega
  have HA := Lib.hid hone
  have a1 : (ask.toList == [1]) = true := by simpa using hone
  have G0 := Lib.hid (good_new s 80 24)
  have hp0 : (newF s 80 24).us 24 = (0, false) := rfl
  have hty := types_p1 (newF s 80 24) hp0
  have HSW := Lib.hid (Sep.start w)
  have US : Hid ((newF s 80 24).us 24 = (0, false)) := Lib.hid rfl
  clear hg hone hp0 hty
  go_enter Tryd.func4, Tryd.ntmps4
  go_wp2_with fail
  refine (alive_any _ HG.out).mono ?_
  rintro e wa ⟨rfl, hba⟩
  have HBA := Lib.hid hba
  clear hba
  go_wp2_with fail
  (go_at_call 8; refine (new_any s 80 24 _ _ (HSW.out.below HBA.out) (by omega)).mono ?_; rintro e w2 ⟨⟨b, rfl, hs2⟩⟩; have HS2 := Lib.hid hs2; clear hs2)
  go_wp2_with fail
  go_loopw [11] (fun i wr => ∃ (j : Nat), (j : Int) ≤ n ∧ i = .int .i64 j ∧ Hid (Sep wr (.blk b (pcells (newF s 80 24)) 68 :: [.low w.heap.size w]))) (fun i _ => n.toNat - (intOf i).toNat)
  case atStart => exact ⟨0, by omega, rfl, HS2⟩
  case round =>
    obtain ⟨j, hj, rfl, HSr⟩ := hrel
    by_cases hlt : (j : Int) < n
    · have hd : decide ((j : Int) < n) = true := by simpa using hlt
      have hjn : j ≤ 20 := by omega
      go_wp2_with fail
      (go_at_call 9; refine (take_oth b (newF s 80 24) 3 0 24 ⟨#[1]⟩ _ _ HSr.out (by decide) (fun h => by have := US.out; rw [this] at h; exact absurd h.2.2.2 (by decide))).mono ?_; rintro e w5 ⟨⟨he5, hs5⟩⟩; have he5 : e = .returned (.string ⟨#[]⟩) := he5.trans (rfl); subst he5; have HS5 := Lib.hid hs5; clear hs5)
      go_wp2_with fail
      (go_at_call 9; refine (take_oth b (newF s 80 24) 3 0 24 ask _ _ HS5.out (by decide) (fun h => by have := US.out; rw [this] at h; exact absurd h.2.2.2 (by decide))).mono ?_; rintro e w6 ⟨⟨he6, hs6⟩⟩; have he6 : e = .returned (.string ⟨#[]⟩) := he6.trans (rfl); subst he6; have HS6 := Lib.hid hs6; clear hs6)
      go_wp2_with fail
      (go_at_call 9; refine (take_oth b (newF s 80 24) 3 0 31 ⟨#[1]⟩ _ _ HS6.out (by decide) (fun h => absurd h.2.1 (by decide))).mono ?_; rintro e w7 ⟨⟨he7, hs7⟩⟩; have he7 : e = .returned (.string ⟨#[]⟩) := he7.trans (rfl); subst he7; have HS7 := Lib.hid hs7; clear hs7)
      go_wp2_with fail
      go_roundw
      case rel => exact ⟨j + 1, by omega, by go_num, HS7⟩
      case measure => simp [intOf]; omega
    · have hd : decide ((j : Int) < n) = false := by simpa using hlt
      have hjn : (j : Int) = n := by omega
      go_wp2_with fail
      (go_at_call 12; refine (sent_any b _ _ _ HSr.out).mono ?_; rintro e w10 ⟨he10, rfl⟩; have he10 : e = .returned (.int .i64 (0)) := he10.trans (rfl); subst he10)
      go_wp2_with fail
      go_ret
      exact ⟨rfl, HSr.out.lowAt 1 rfl⟩
set_option maxHeartbeats 8000000 in
theorem ty_n0 (s ask : ByteArray) (n : Int) (w : World) (hg : Glob w) (hs : s.size ≤ 60) (ha : ask.size ≤ 40) (h0 : 0 ≤ n) (h1 : n ≤ 20) (hone : ¬ ask.toList = [1]) : Calls Tryd.prog 4 #[.string s, .string ask, .bool false, .int .i64 n] w fun e w' => e = .returned (.bool true) ∧ Below w.heap.size w w' := by
  have HG := Lib.hid hg
  have hpos : 0 < w.heap.size := by obtain ⟨m, h⟩ := hg; exact World.block_lt_of_cell? w _ h
  have d1 : decide (60 < (s.size : Int)) = false := by simp; omega
  have d2 : decide (40 < (ask.size : Int)) = false := by simp; omega
  have d3 : decide (n < 0) = false := by simp; omega
  have d4 : decide (20 < n) = false := by simp; omega
  have HA := Lib.hid hone
  have a1 : (ask.toList == [1]) = false := by simpa using hone
  have G0 := Lib.hid (good_new s 80 24)
  have hp0 : (newF s 80 24).us 24 = (0, false) := rfl
  have hty := types_p1 (newF s 80 24) hp0
  have HSW := Lib.hid (Sep.start w)
  have US : Hid ((newF s 80 24).us 24 = (0, false)) := Lib.hid rfl
  clear hg hone hp0 hty
  go_enter Tryd.func4, Tryd.ntmps4
  go_wp2_with fail
  refine (alive_any _ HG.out).mono ?_
  rintro e wa ⟨rfl, hba⟩
  have HBA := Lib.hid hba
  clear hba
  go_wp2_with fail
  (go_at_call 8; refine (new_any s 80 24 _ _ (HSW.out.below HBA.out) (by omega)).mono ?_; rintro e w2 ⟨⟨b, rfl, hs2⟩⟩; have HS2 := Lib.hid hs2; clear hs2)
  go_wp2_with fail
  go_loopw [11] (fun i wr => ∃ (j : Nat), (j : Int) ≤ n ∧ i = .int .i64 j ∧ Hid (Sep wr (.blk b (pcells (newF s 80 24)) 68 :: [.low w.heap.size w]))) (fun i _ => n.toNat - (intOf i).toNat)
  case atStart => exact ⟨0, by omega, rfl, HS2⟩
  case round =>
    obtain ⟨j, hj, rfl, HSr⟩ := hrel
    by_cases hlt : (j : Int) < n
    · have hd : decide ((j : Int) < n) = true := by simpa using hlt
      have hjn : j ≤ 20 := by omega
      go_wp2_with fail
      (go_at_call 9; refine (take_oth b (newF s 80 24) 3 0 24 ⟨#[1]⟩ _ _ HSr.out (by decide) (fun h => by have := US.out; rw [this] at h; exact absurd h.2.2.2 (by decide))).mono ?_; rintro e w5 ⟨⟨he5, hs5⟩⟩; have he5 : e = .returned (.string ⟨#[]⟩) := he5.trans (rfl); subst he5; have HS5 := Lib.hid hs5; clear hs5)
      go_wp2_with fail
      (go_at_call 9; refine (take_oth b (newF s 80 24) 3 0 24 ask _ _ HS5.out (by decide) (fun h => by have := US.out; rw [this] at h; exact absurd h.2.2.2 (by decide))).mono ?_; rintro e w6 ⟨⟨he6, hs6⟩⟩; have he6 : e = .returned (.string ⟨#[]⟩) := he6.trans (rfl); subst he6; have HS6 := Lib.hid hs6; clear hs6)
      go_wp2_with fail
      (go_at_call 9; refine (take_oth b (newF s 80 24) 3 0 31 ⟨#[1]⟩ _ _ HS6.out (by decide) (fun h => absurd h.2.1 (by decide))).mono ?_; rintro e w7 ⟨⟨he7, hs7⟩⟩; have he7 : e = .returned (.string ⟨#[]⟩) := he7.trans (rfl); subst he7; have HS7 := Lib.hid hs7; clear hs7)
      go_wp2_with fail
      go_roundw
      case rel => exact ⟨j + 1, by omega, by go_num, HS7⟩
      case measure => simp [intOf]; omega
    · have hd : decide ((j : Int) < n) = false := by simpa using hlt
      have hjn : (j : Int) = n := by omega
      go_wp2_with fail
      (go_at_call 12; refine (sent_any b _ _ _ HSr.out).mono ?_; rintro e w10 ⟨he10, rfl⟩; have he10 : e = .returned (.int .i64 (0)) := he10.trans (rfl); subst he10)
      go_wp2_with fail
      go_ret
      exact ⟨rfl, HSr.out.lowAt 1 rfl⟩
theorem ty_out (s ask : ByteArray) (on : Bool) (n : Int) (w : World) (hg : Glob w) (m0 : s.size ≤ 9223372036854775807) (m1 : ask.size ≤ 9223372036854775807) (h : 60 < s.size ∨ 40 < ask.size ∨ n < 0 ∨ 20 < n) : Calls Tryd.prog 4 #[.string s, .string ask, .bool on, .int .i64 n] w fun e w' => e = .returned (.bool true) ∧ Below w.heap.size w w' := by
  have HG := Lib.hid hg
  have hd : decide (60 < (s.size : Int)) = true ∨ (decide (60 < (s.size : Int)) = false ∧ decide (40 < (ask.size : Int)) = true) ∨ (decide (60 < (s.size : Int)) = false ∧ decide (40 < (ask.size : Int)) = false ∧ decide (n < 0) = true) ∨ (decide (60 < (s.size : Int)) = false ∧ decide (40 < (ask.size : Int)) = false ∧ decide (n < 0) = false ∧ decide (20 < n) = true) := by simp only [decide_eq_true_eq, decide_eq_false_iff_not]; omega
  clear h hg
  rcases hd with d1 | ⟨d1, d2⟩ | ⟨d1, d2, d3⟩ | ⟨d1, d2, d3, d4⟩
  all_goals
    go_enter Tryd.func4, Tryd.ntmps4
    go_wp2_with fail
    refine (alive_any _ HG.out).mono ?_
    rintro e wa ⟨rfl, hba⟩
    go_wp2_with fail
    go_ret
    exact ⟨rfl, hba⟩
theorem types_any (s ask : ByteArray) (on : Bool) (n : Int) (w : World) (hg : Glob w) (m0 : s.size ≤ 9223372036854775807) (m1 : ask.size ≤ 9223372036854775807) : Calls Tryd.prog 4 #[.string s, .string ask, .bool on, .int .i64 n] w fun e w' => e = .returned (.bool true) ∧ Below w.heap.size w w' := by
  by_cases h : 60 < s.size ∨ 40 < ask.size ∨ n < 0 ∨ 20 < n
  · exact ty_out s ask on n w hg m0 m1 h
  · by_cases h1 : ask.toList = [1] <;> cases on
    · exact ty_n1 s ask n w hg (by omega) (by omega) (by omega) (by omega) h1
    · exact ty_y1 s ask n w hg (by omega) (by omega) (by omega) (by omega) h1
    · exact ty_n0 s ask n w hg (by omega) (by omega) (by omega) (by omega) h1
    · exact ty_y0 s ask n w hg (by omega) (by omega) (by omega) (by omega) h1
end Go.Proofs.YtjlamnioknbcaaaDoor.Q6
