/- PactRefuses -/
import Derived.Test.YtjlamnioknbcaaaDoorQ2
import Derived.Lib.Hide
namespace Go.Proofs.YtjlamnioknbcaaaDoor.Q5
set_option linter.unusedVariables false
set_option linter.unusedSimpArgs false
set_option linter.unnecessarySimpa false
set_option maxRecDepth 100000
open Go.RowKit K1 K3 K5 K11 K12 K14 K20 K21 K22 K25 W0 V1 V2 V3 Y1 Y2 Y3 Y4 P1 P2 P3 P4 P5 P6 P7 P8 P9 P10 Q1 Q2

attribute [local go_sem] cell_pastA froz_pastA
def sdOf (his : Bool) (p : Pa) (o : Nat) : Sd := if his then p.him o else p.us o
def knB (his : Bool) (o : Int) : Bool := if his then hisB o else oursB o
def onC (his : Bool) : Int := if his then 251 else 253
def noC (his : Bool) : Nat := if his then 254 else 252
def offC (his : Bool) : Int := if his then 252 else 254
theorem optF_him (p : Pa) (o : Nat) (on : Bool) (ho : o ≤ 255) : optF p (if on then 251 else 252) o = himF p o on := by
  unfold optF
  rw [if_neg (by omega), Int.toNat_natCast]
  cases on <;> simp
/-- not known: refused -/
theorem no_step (his : Bool) (p : Pa) (o : Nat) (ho : o ≤ 255) (hk : knB his o = false) (h : sdOf his p o = (0, false)) : (optF p (onC his) o).1 = optB (noC his) o ∧ sdOf his (optF p (onC his) o).2 o = (0, false) := by
  cases his
  · have h' : p.us o = (0, false) := h
    have hk' : oursB o = false := hk
    have e : usS p o true = (optB 252 o, { p with us := upS p.us o (0, false), sent := p.sent + 1 }) := by simp [usS, usH, h', hk', heardF, valid, onF, sayF]
    have e2 : usF p o true = usS p o true := by
      unfold usF
      rw [if_neg]
      rintro ⟨_, h4, _⟩
      simp [usH, h', hk', heardF, valid, onF] at h4
    have e3 : optF p (onC false) o = _ := (optF_us p o true ho).trans (e2.trans e)
    rw [e3]
    exact ⟨rfl, by simp [sdOf, upS]⟩
  · have h' : p.him o = (0, false) := h
    have hk' : hisB o = false := hk
    have e : himF p o true = (optB 254 o, { p with him := upS p.him o (0, false), sent := p.sent + 1 }) := by simp [himF, h', hk', heardF, valid, onF, sayF]
    have e3 : optF p (onC true) o = _ := (optF_him p o true ho).trans e
    rw [e3]
    exact ⟨rfl, by simp [sdOf, upS]⟩
/-- off: nothing is said -/
theorem off_step (his : Bool) (p : Pa) (o : Nat) (ho : o ≤ 255) (h : sdOf his p o = (0, false)) : (optF p (offC his) o).1 = [] := by
  cases his
  · have h' : p.us o = (0, false) := h
    have e3 : optF p (offC false) o = _ := (optF_us p o false ho).trans ((usF_no p o false (.inr rfl) (.inl h')).trans (us_again p o h'))
    rw [e3]
  · have h' : p.him o = (0, false) := h
    have e : himF p o false = ([], { p with him := upS p.him o (0, false) }) := by simp [himF, h', heardF, valid, offF, sayF]
    have e3 : optF p (offC true) o = _ := (optF_him p o false ho).trans e
    rw [e3]
theorem sayF_side (p : Pa) (o : Nat) (what : Int) (on off : Nat) : (sayF p o what on off).2.us = p.us ∧ (sayF p o what on off).2.him = p.him := by
  unfold sayF; split <;> exact ⟨rfl, rfl⟩
/-- known: agreed to once -/
theorem yes_first (his : Bool) (p : Pa) (o : Nat) (ho : o ≤ 255) (hk : knB his o = true) (h : sdOf his p o = (0, false)) : sdOf his (optF p (onC his) o).2 o = (1, false) := by
  cases his
  · have h' : p.us o = (0, false) := h
    have hk' : oursB o = true := hk
    have e3 : optF p (onC false) o = _ := optF_us p o true ho
    rw [e3]
    have e := us_on p o h' hk'
    unfold usF
    split
    · rw [e]; simp [sdOf, tellF, upS]
    · rw [e]; simp [sdOf, upS]
  · have h' : p.him o = (0, false) := h
    have hk' : hisB o = true := hk
    have e3 : optF p (onC true) o = _ := optF_him p o true ho
    rw [e3]
    simp [himF, h', hk', heardF, valid, onF, sayF, sdOf, upS]
theorem yes_again (his : Bool) (p : Pa) (o : Nat) (ho : o ≤ 255) (h : sdOf his p o = (1, false)) : (optF p (onC his) o).1 = [] ∧ sdOf his (optF p (onC his) o).2 o = (1, false) := by
  cases his
  · have h' : p.us o = (1, false) := h
    have e : usS p o true = ([], { p with us := upS p.us o (1, false) }) := by simp [usS, usH, h', heardF, valid, onF, sayF]
    have e2 : usF p o true = usS p o true := by
      unfold usF
      rw [if_neg]
      rintro ⟨_, _, h5⟩
      exact h5 (by rw [h'])
    have e3 : optF p (onC false) o = _ := (optF_us p o true ho).trans (e2.trans e)
    rw [e3]
    exact ⟨rfl, by simp [sdOf, upS]⟩
  · have h' : p.him o = (1, false) := h
    have e : himF p o true = ([], { p with him := upS p.him o (1, false) }) := by simp [himF, h', heardF, valid, onF, sayF]
    have e3 : optF p (onC true) o = _ := (optF_him p o true ho).trans e
    rw [e3]
    exact ⟨rfl, by simp [sdOf, upS]⟩
set_option maxHeartbeats 8000000 in
theorem ref_h_x (o : Nat) (ho : o ≤ 255) (q0 : ((o : Int) == 0) = false) (q3 : ((o : Int) == 3) = false) (q1 : ((o : Int) == 1) = false) (n : Int) (w : World) (hg : Glob w) (h0 : 0 ≤ n) (h1 : n ≤ 60) : Calls Tryd.prog 3 #[.int .i64 o, .int .i64 n, .bool true] w fun e w' => e = .returned (.bool true) ∧ Below w.heap.size w w' := by
  have HG := Lib.hid hg
  have hpos : 0 < w.heap.size := by obtain ⟨m, h⟩ := hg; exact World.block_lt_of_cell? w _ h
  have d1 : decide (n < 0) = false := by simp; omega
  have d2 : decide (60 < n) = false := by simp; omega
  have GN := Lib.hid (good_new ⟨#[120]⟩ 80 24)
  have HSW := Lib.hid (Sep.start w)
  have e1 : decide ((o : Int) < 0) = false := by simp
  have e2 : decide (255 < (o : Int)) = false := by simp; omega
  have hkn : knB true (o : Int) = false := by simp only [knB, hisB, oursB, if_true, Bool.false_eq_true, if_false, q0, q1, q3]; rfl
  obtain ⟨o1, ho1⟩ : ∃ s : ByteArray, (⟨(optB 254 o).toArray⟩ : ByteArray) = s := ⟨_, rfl⟩
  have HO1 := Lib.hid ho1
  clear ho1
  clear hg
  go_enter Tryd.func3, Tryd.ntmps3
  go_wp2_with (first | (go_at_call 8; refine (new_any ⟨#[120]⟩ 80 24 _ _ (HSW.out.below HBA.out) (by decide)).mono ?_; rintro e w2 ⟨⟨b, rfl, hs2⟩⟩; have HS2 := Lib.hid hs2; clear hs2) | (go_at_call 7; refine (alive_any _ HG.out).mono ?_; rintro e wa ⟨rfl, hba⟩; have HBA := Lib.hid hba; clear hba))
  go_loopw [12] (fun i wr => ∃ (j : Nat) (p : Pa), (j : Int) ≤ n ∧ i = .int .i64 j ∧ p.sent ≤ j ∧ GoodP p ∧ sdOf true p o = (0, false) ∧ Hid (Sep wr (.blk b (pcells p) 68 :: [.low w.heap.size w]))) (fun i _ => n.toNat - (intOf i).toNat)
  case atStart => exact ⟨0, newF ⟨#[120]⟩ 80 24, by omega, rfl, Int.le_refl _, GN.out, rfl, HS2⟩
  case round =>
    obtain ⟨j, p, hj, rfl, hsn, hgp, hsd, HSr⟩ := hrel
    have HP := Lib.hid hgp
    have hgo := good_opt hgp 251 o
    have HGO := Lib.hid hgo
    clear hgp hgo
    by_cases hlt : (j : Int) < n
    · have hd : decide ((j : Int) < n) = true := by simpa using hlt
      have eq1 : Ending.returned (.string ⟨(optF p 251 o).1.toArray⟩) = .returned (.string o1) := by rw [(no_step true p o ho hkn hsd).1 |> (show (optF p 251 o).1 = optB 254 o from ·), HO1.out]
      have E1 := Lib.hid eq1
      have HSD : Hid (sdOf true (optF p 251 o).2 o = (0, false)) := Lib.hid (no_step true p o ho hkn hsd).2
      clear eq1 hsd
      go_wp2_with fail
      (go_at_call 9; refine (take_opt b p 251 o _ _ _ HSr.out (fun x hx => HG.out.at (hx.lowAt 0 rfl) hpos) HP.out (by omega)).mono ?_; rintro e w5 ⟨⟨he5, hs5⟩⟩; have he5 : e = .returned (.string o1) := he5.trans (E1.out); subst he5; have HS5 := Lib.hid hs5; clear hs5)
      go_wp2_with fail
      (go_at_call 10; refine (refOption_s 254 o o1 _ (by decide) (by omega) (HO1.out)).mono ?_; rintro e w6 ⟨rfl, hb6⟩; have HS6 := Lib.hid (HS5.out.below hb6); clear hb6)
      go_wp2_with fail
      go_roundw
      case rel => exact ⟨j + 1, _, by omega, by go_num, Int.le_trans HGO.out.2.1 (by omega), HGO.out.1, HSD.out, HS6⟩
      case measure => simp [intOf]; omega
      
    · have hd : decide ((j : Int) < n) = false := by simpa using hlt
      have eq1 : Ending.returned (.string ⟨(optF p 252 o).1.toArray⟩) = .returned (.string ⟨#[]⟩) := by rw [off_step true p o ho hsd |> (show (optF p 252 o).1 = [] from ·)]
      have E1 := Lib.hid eq1
      clear eq1 hsd
      go_wp2_with fail
      (go_at_call 9; refine (take_opt b p 252 o _ _ _ HSr.out (fun x hx => HG.out.at (hx.lowAt 0 rfl) hpos) HP.out (by omega)).mono ?_; rintro e w7 ⟨⟨he7, hs7⟩⟩; have he7 : e = .returned (.string ⟨#[]⟩) := he7.trans (E1.out); subst he7; have HS7 := Lib.hid hs7; clear hs7)
      go_wp2_with fail
      go_ret
      exact ⟨rfl, HS7.out.lowAt 1 rfl⟩
      
set_option maxHeartbeats 8000000 in
theorem ref_u_x (o : Nat) (ho : o ≤ 255) (q0 : ((o : Int) == 0) = false) (q3 : ((o : Int) == 3) = false) (q24 : ((o : Int) == 24) = false) (q31 : ((o : Int) == 31) = false) (n : Int) (w : World) (hg : Glob w) (h0 : 0 ≤ n) (h1 : n ≤ 60) : Calls Tryd.prog 3 #[.int .i64 o, .int .i64 n, .bool false] w fun e w' => e = .returned (.bool true) ∧ Below w.heap.size w w' := by
  have HG := Lib.hid hg
  have hpos : 0 < w.heap.size := by obtain ⟨m, h⟩ := hg; exact World.block_lt_of_cell? w _ h
  have d1 : decide (n < 0) = false := by simp; omega
  have d2 : decide (60 < n) = false := by simp; omega
  have GN := Lib.hid (good_new ⟨#[120]⟩ 80 24)
  have HSW := Lib.hid (Sep.start w)
  have e1 : decide ((o : Int) < 0) = false := by simp
  have e2 : decide (255 < (o : Int)) = false := by simp; omega
  have hkn : knB false (o : Int) = false := by simp only [knB, hisB, oursB, if_true, Bool.false_eq_true, if_false, q0, q3, q24, q31]; rfl
  obtain ⟨o1, ho1⟩ : ∃ s : ByteArray, (⟨(optB 252 o).toArray⟩ : ByteArray) = s := ⟨_, rfl⟩
  have HO1 := Lib.hid ho1
  clear ho1
  clear hg
  go_enter Tryd.func3, Tryd.ntmps3
  go_wp2_with (first | (go_at_call 8; refine (new_any ⟨#[120]⟩ 80 24 _ _ (HSW.out.below HBA.out) (by decide)).mono ?_; rintro e w2 ⟨⟨b, rfl, hs2⟩⟩; have HS2 := Lib.hid hs2; clear hs2) | (go_at_call 7; refine (alive_any _ HG.out).mono ?_; rintro e wa ⟨rfl, hba⟩; have HBA := Lib.hid hba; clear hba))
  go_loopw [12] (fun i wr => ∃ (j : Nat) (p : Pa), (j : Int) ≤ n ∧ i = .int .i64 j ∧ p.sent ≤ j ∧ GoodP p ∧ sdOf false p o = (0, false) ∧ Hid (Sep wr (.blk b (pcells p) 68 :: [.low w.heap.size w]))) (fun i _ => n.toNat - (intOf i).toNat)
  case atStart => exact ⟨0, newF ⟨#[120]⟩ 80 24, by omega, rfl, Int.le_refl _, GN.out, rfl, HS2⟩
  case round =>
    obtain ⟨j, p, hj, rfl, hsn, hgp, hsd, HSr⟩ := hrel
    have HP := Lib.hid hgp
    have hgo := good_opt hgp 253 o
    have HGO := Lib.hid hgo
    clear hgp hgo
    by_cases hlt : (j : Int) < n
    · have hd : decide ((j : Int) < n) = true := by simpa using hlt
      have eq1 : Ending.returned (.string ⟨(optF p 253 o).1.toArray⟩) = .returned (.string o1) := by rw [(no_step false p o ho hkn hsd).1 |> (show (optF p 253 o).1 = optB 252 o from ·), HO1.out]
      have E1 := Lib.hid eq1
      have HSD : Hid (sdOf false (optF p 253 o).2 o = (0, false)) := Lib.hid (no_step false p o ho hkn hsd).2
      clear eq1 hsd
      go_wp2_with fail
      (go_at_call 9; refine (take_opt b p 253 o _ _ _ HSr.out (fun x hx => HG.out.at (hx.lowAt 0 rfl) hpos) HP.out (by omega)).mono ?_; rintro e w5 ⟨⟨he5, hs5⟩⟩; have he5 : e = .returned (.string o1) := he5.trans (E1.out); subst he5; have HS5 := Lib.hid hs5; clear hs5)
      go_wp2_with fail
      (go_at_call 10; refine (refOption_s 252 o o1 _ (by decide) (by omega) (HO1.out)).mono ?_; rintro e w6 ⟨rfl, hb6⟩; have HS6 := Lib.hid (HS5.out.below hb6); clear hb6)
      go_wp2_with fail
      go_roundw
      case rel => exact ⟨j + 1, _, by omega, by go_num, Int.le_trans HGO.out.2.1 (by omega), HGO.out.1, HSD.out, HS6⟩
      case measure => simp [intOf]; omega
      
    · have hd : decide ((j : Int) < n) = false := by simpa using hlt
      have eq1 : Ending.returned (.string ⟨(optF p 254 o).1.toArray⟩) = .returned (.string ⟨#[]⟩) := by rw [off_step false p o ho hsd |> (show (optF p 254 o).1 = [] from ·)]
      have E1 := Lib.hid eq1
      clear eq1 hsd
      go_wp2_with fail
      (go_at_call 9; refine (take_opt b p 254 o _ _ _ HSr.out (fun x hx => HG.out.at (hx.lowAt 0 rfl) hpos) HP.out (by omega)).mono ?_; rintro e w7 ⟨⟨he7, hs7⟩⟩; have he7 : e = .returned (.string ⟨#[]⟩) := he7.trans (E1.out); subst he7; have HS7 := Lib.hid hs7; clear hs7)
      go_wp2_with fail
      go_ret
      exact ⟨rfl, HS7.out.lowAt 1 rfl⟩
      
set_option maxHeartbeats 8000000 in
theorem ref_h_0  (n : Int) (w : World) (hg : Glob w) (h0 : 0 ≤ n) (h1 : n ≤ 60) : Calls Tryd.prog 3 #[.int .i64 0, .int .i64 n, .bool true] w fun e w' => e = .returned (.bool true) ∧ Below w.heap.size w w' := by
  have HG := Lib.hid hg
  have hpos : 0 < w.heap.size := by obtain ⟨m, h⟩ := hg; exact World.block_lt_of_cell? w _ h
  have d1 : decide (n < 0) = false := by simp; omega
  have d2 : decide (60 < n) = false := by simp; omega
  have GN := Lib.hid (good_new ⟨#[120]⟩ 80 24)
  have HSW := Lib.hid (Sep.start w)
  clear hg
  go_enter Tryd.func3, Tryd.ntmps3
  go_wp2_with (first | (go_at_call 8; refine (new_any ⟨#[120]⟩ 80 24 _ _ (HSW.out.below HBA.out) (by decide)).mono ?_; rintro e w2 ⟨⟨b, rfl, hs2⟩⟩; have HS2 := Lib.hid hs2; clear hs2) | (go_at_call 7; refine (alive_any _ HG.out).mono ?_; rintro e wa ⟨rfl, hba⟩; have HBA := Lib.hid hba; clear hba))
  go_loopw [12] (fun i wr => ∃ (j : Nat) (p : Pa), (j : Int) ≤ n ∧ i = .int .i64 j ∧ p.sent ≤ j ∧ GoodP p ∧ ((j = 0 ∧ sdOf true p 0 = (0, false)) ∨ (0 < j ∧ sdOf true p 0 = (1, false))) ∧ Hid (Sep wr (.blk b (pcells p) 68 :: [.low w.heap.size w]))) (fun i _ => n.toNat - (intOf i).toNat)
  case atStart => exact ⟨0, newF ⟨#[120]⟩ 80 24, by omega, rfl, Int.le_refl _, GN.out, .inl ⟨rfl, rfl⟩, HS2⟩
  case round =>
    obtain ⟨j, p, hj, rfl, hsn, hgp, hsd, HSr⟩ := hrel
    have HP := Lib.hid hgp
    have hgo := good_opt hgp 251 0
    have HGO := Lib.hid hgo
    clear hgp hgo
    by_cases hlt : (j : Int) < n
    · have hd : decide ((j : Int) < n) = true := by simpa using hlt
      have hjn : j ≤ 60 := by omega
      rcases hsd with ⟨hj0, hsd⟩ | ⟨hj0, hsd⟩
      · have d3 : decide ((0 : Int) < (j : Int)) = false := by simp; omega
        obtain ⟨st, hst⟩ : ∃ s : ByteArray, s = ⟨(optF p 251 0).1.toArray⟩ := ⟨_, rfl⟩
        have eq1 : Ending.returned (.string ⟨(optF p 251 0).1.toArray⟩) = .returned (.string st) := by rw [hst]
        have E1 := Lib.hid eq1
        have HSD : Hid (sdOf true (optF p 251 0).2 0 = (1, false)) := Lib.hid (yes_first true p 0 (by omega) (by rfl) hsd)
        clear eq1 hsd hst
        go_wp2_with fail
        (go_at_call 9; refine (take_opt b p 251 0 _ _ _ HSr.out (fun x hx => HG.out.at (hx.lowAt 0 rfl) hpos) HP.out (by omega)).mono ?_; rintro e w5 ⟨⟨he5, hs5⟩⟩; have he5 : e = .returned (.string st) := he5.trans (E1.out); subst he5; have HS5 := Lib.hid hs5; clear hs5)
        go_wp2_with fail
        go_roundw
        case rel => exact ⟨j + 1, _, by omega, by go_num, Int.le_trans HGO.out.2.1 (by omega), HGO.out.1, .inr ⟨by omega, HSD.out⟩, HS5⟩
        case measure => simp [intOf]; omega
        
      · have d3 : decide ((0 : Int) < (j : Int)) = true := by simp; omega
        have eq1 : Ending.returned (.string ⟨(optF p 251 0).1.toArray⟩) = .returned (.string ⟨#[]⟩) := by rw [show (optF p 251 0).1 = [] from (yes_again true p 0 (by omega) hsd).1]
        have E1 := Lib.hid eq1
        have HSD : Hid (sdOf true (optF p 251 0).2 0 = (1, false)) := Lib.hid (yes_again true p 0 (by omega) hsd).2
        clear eq1 hsd
        go_wp2_with fail
        (go_at_call 9; refine (take_opt b p 251 0 _ _ _ HSr.out (fun x hx => HG.out.at (hx.lowAt 0 rfl) hpos) HP.out (by omega)).mono ?_; rintro e w5 ⟨⟨he5, hs5⟩⟩; have he5 : e = .returned (.string ⟨#[]⟩) := he5.trans (E1.out); subst he5; have HS5 := Lib.hid hs5; clear hs5)
        go_wp2_with fail
        go_roundw
        case rel => exact ⟨j + 1, _, by omega, by go_num, Int.le_trans HGO.out.2.1 (by omega), HGO.out.1, .inr ⟨by omega, HSD.out⟩, HS5⟩
        case measure => simp [intOf]; omega
        
    · have hd : decide ((j : Int) < n) = false := by simpa using hlt
      have hjn : (j : Int) = n := by omega
      rcases hsd with ⟨hj0, hsd⟩ | ⟨hj0, hsd⟩
      · have d3 : decide (0 < n) = false := by simp; omega
        have eq1 : Ending.returned (.string ⟨(optF p 252 0).1.toArray⟩) = .returned (.string ⟨#[]⟩) := by rw [show (optF p 252 0).1 = [] from off_step true p 0 (by omega) hsd]
        have E1 := Lib.hid eq1
        clear eq1 hsd
        go_wp2_with fail
        (go_at_call 9; refine (take_opt b p 252 0 _ _ _ HSr.out (fun x hx => HG.out.at (hx.lowAt 0 rfl) hpos) HP.out (by omega)).mono ?_; rintro e w7 ⟨⟨he7, hs7⟩⟩; have he7 : e = .returned (.string ⟨#[]⟩) := he7.trans (E1.out); subst he7; have HS7 := Lib.hid hs7; clear hs7)
        go_wp2_with fail
        go_ret
        exact ⟨rfl, HS7.out.lowAt 1 rfl⟩
        
      · have d3 : decide (0 < n) = true := by simp; omega
        obtain ⟨st, hst⟩ : ∃ s : ByteArray, s = ⟨(optF p 252 0).1.toArray⟩ := ⟨_, rfl⟩
        have eq1 : Ending.returned (.string ⟨(optF p 252 0).1.toArray⟩) = .returned (.string st) := by rw [hst]
        have E1 := Lib.hid eq1
        clear eq1 hsd hst
        go_wp2_with fail
        (go_at_call 9; refine (take_opt b p 252 0 _ _ _ HSr.out (fun x hx => HG.out.at (hx.lowAt 0 rfl) hpos) HP.out (by omega)).mono ?_; rintro e w7 ⟨⟨he7, hs7⟩⟩; have he7 : e = .returned (.string st) := he7.trans (E1.out); subst he7; have HS7 := Lib.hid hs7; clear hs7)
        go_wp2_with fail
        go_ret
        exact ⟨rfl, HS7.out.lowAt 1 rfl⟩
        
set_option maxHeartbeats 8000000 in
theorem ref_h_1  (n : Int) (w : World) (hg : Glob w) (h0 : 0 ≤ n) (h1 : n ≤ 60) : Calls Tryd.prog 3 #[.int .i64 1, .int .i64 n, .bool true] w fun e w' => e = .returned (.bool true) ∧ Below w.heap.size w w' := by
  have HG := Lib.hid hg
  have hpos : 0 < w.heap.size := by obtain ⟨m, h⟩ := hg; exact World.block_lt_of_cell? w _ h
  have d1 : decide (n < 0) = false := by simp; omega
  have d2 : decide (60 < n) = false := by simp; omega
  have GN := Lib.hid (good_new ⟨#[120]⟩ 80 24)
  have HSW := Lib.hid (Sep.start w)
  clear hg
  go_enter Tryd.func3, Tryd.ntmps3
  go_wp2_with (first | (go_at_call 8; refine (new_any ⟨#[120]⟩ 80 24 _ _ (HSW.out.below HBA.out) (by decide)).mono ?_; rintro e w2 ⟨⟨b, rfl, hs2⟩⟩; have HS2 := Lib.hid hs2; clear hs2) | (go_at_call 7; refine (alive_any _ HG.out).mono ?_; rintro e wa ⟨rfl, hba⟩; have HBA := Lib.hid hba; clear hba))
  go_loopw [12] (fun i wr => ∃ (j : Nat) (p : Pa), (j : Int) ≤ n ∧ i = .int .i64 j ∧ p.sent ≤ j ∧ GoodP p ∧ ((j = 0 ∧ sdOf true p 1 = (0, false)) ∨ (0 < j ∧ sdOf true p 1 = (1, false))) ∧ Hid (Sep wr (.blk b (pcells p) 68 :: [.low w.heap.size w]))) (fun i _ => n.toNat - (intOf i).toNat)
  case atStart => exact ⟨0, newF ⟨#[120]⟩ 80 24, by omega, rfl, Int.le_refl _, GN.out, .inl ⟨rfl, rfl⟩, HS2⟩
  case round =>
    obtain ⟨j, p, hj, rfl, hsn, hgp, hsd, HSr⟩ := hrel
    have HP := Lib.hid hgp
    have hgo := good_opt hgp 251 1
    have HGO := Lib.hid hgo
    clear hgp hgo
    by_cases hlt : (j : Int) < n
    · have hd : decide ((j : Int) < n) = true := by simpa using hlt
      have hjn : j ≤ 60 := by omega
      rcases hsd with ⟨hj0, hsd⟩ | ⟨hj0, hsd⟩
      · have d3 : decide ((0 : Int) < (j : Int)) = false := by simp; omega
        obtain ⟨st, hst⟩ : ∃ s : ByteArray, s = ⟨(optF p 251 1).1.toArray⟩ := ⟨_, rfl⟩
        have eq1 : Ending.returned (.string ⟨(optF p 251 1).1.toArray⟩) = .returned (.string st) := by rw [hst]
        have E1 := Lib.hid eq1
        have HSD : Hid (sdOf true (optF p 251 1).2 1 = (1, false)) := Lib.hid (yes_first true p 1 (by omega) (by rfl) hsd)
        clear eq1 hsd hst
        go_wp2_with fail
        (go_at_call 9; refine (take_opt b p 251 1 _ _ _ HSr.out (fun x hx => HG.out.at (hx.lowAt 0 rfl) hpos) HP.out (by omega)).mono ?_; rintro e w5 ⟨⟨he5, hs5⟩⟩; have he5 : e = .returned (.string st) := he5.trans (E1.out); subst he5; have HS5 := Lib.hid hs5; clear hs5)
        go_wp2_with fail
        go_roundw
        case rel => exact ⟨j + 1, _, by omega, by go_num, Int.le_trans HGO.out.2.1 (by omega), HGO.out.1, .inr ⟨by omega, HSD.out⟩, HS5⟩
        case measure => simp [intOf]; omega
        
      · have d3 : decide ((0 : Int) < (j : Int)) = true := by simp; omega
        have eq1 : Ending.returned (.string ⟨(optF p 251 1).1.toArray⟩) = .returned (.string ⟨#[]⟩) := by rw [show (optF p 251 1).1 = [] from (yes_again true p 1 (by omega) hsd).1]
        have E1 := Lib.hid eq1
        have HSD : Hid (sdOf true (optF p 251 1).2 1 = (1, false)) := Lib.hid (yes_again true p 1 (by omega) hsd).2
        clear eq1 hsd
        go_wp2_with fail
        (go_at_call 9; refine (take_opt b p 251 1 _ _ _ HSr.out (fun x hx => HG.out.at (hx.lowAt 0 rfl) hpos) HP.out (by omega)).mono ?_; rintro e w5 ⟨⟨he5, hs5⟩⟩; have he5 : e = .returned (.string ⟨#[]⟩) := he5.trans (E1.out); subst he5; have HS5 := Lib.hid hs5; clear hs5)
        go_wp2_with fail
        go_roundw
        case rel => exact ⟨j + 1, _, by omega, by go_num, Int.le_trans HGO.out.2.1 (by omega), HGO.out.1, .inr ⟨by omega, HSD.out⟩, HS5⟩
        case measure => simp [intOf]; omega
        
    · have hd : decide ((j : Int) < n) = false := by simpa using hlt
      have hjn : (j : Int) = n := by omega
      rcases hsd with ⟨hj0, hsd⟩ | ⟨hj0, hsd⟩
      · have d3 : decide (0 < n) = false := by simp; omega
        have eq1 : Ending.returned (.string ⟨(optF p 252 1).1.toArray⟩) = .returned (.string ⟨#[]⟩) := by rw [show (optF p 252 1).1 = [] from off_step true p 1 (by omega) hsd]
        have E1 := Lib.hid eq1
        clear eq1 hsd
        go_wp2_with fail
        (go_at_call 9; refine (take_opt b p 252 1 _ _ _ HSr.out (fun x hx => HG.out.at (hx.lowAt 0 rfl) hpos) HP.out (by omega)).mono ?_; rintro e w7 ⟨⟨he7, hs7⟩⟩; have he7 : e = .returned (.string ⟨#[]⟩) := he7.trans (E1.out); subst he7; have HS7 := Lib.hid hs7; clear hs7)
        go_wp2_with fail
        go_ret
        exact ⟨rfl, HS7.out.lowAt 1 rfl⟩
        
      · have d3 : decide (0 < n) = true := by simp; omega
        obtain ⟨st, hst⟩ : ∃ s : ByteArray, s = ⟨(optF p 252 1).1.toArray⟩ := ⟨_, rfl⟩
        have eq1 : Ending.returned (.string ⟨(optF p 252 1).1.toArray⟩) = .returned (.string st) := by rw [hst]
        have E1 := Lib.hid eq1
        clear eq1 hsd hst
        go_wp2_with fail
        (go_at_call 9; refine (take_opt b p 252 1 _ _ _ HSr.out (fun x hx => HG.out.at (hx.lowAt 0 rfl) hpos) HP.out (by omega)).mono ?_; rintro e w7 ⟨⟨he7, hs7⟩⟩; have he7 : e = .returned (.string st) := he7.trans (E1.out); subst he7; have HS7 := Lib.hid hs7; clear hs7)
        go_wp2_with fail
        go_ret
        exact ⟨rfl, HS7.out.lowAt 1 rfl⟩
        
set_option maxHeartbeats 8000000 in
theorem ref_h_3  (n : Int) (w : World) (hg : Glob w) (h0 : 0 ≤ n) (h1 : n ≤ 60) : Calls Tryd.prog 3 #[.int .i64 3, .int .i64 n, .bool true] w fun e w' => e = .returned (.bool true) ∧ Below w.heap.size w w' := by
  have HG := Lib.hid hg
  have hpos : 0 < w.heap.size := by obtain ⟨m, h⟩ := hg; exact World.block_lt_of_cell? w _ h
  have d1 : decide (n < 0) = false := by simp; omega
  have d2 : decide (60 < n) = false := by simp; omega
  have GN := Lib.hid (good_new ⟨#[120]⟩ 80 24)
  have HSW := Lib.hid (Sep.start w)
  clear hg
  go_enter Tryd.func3, Tryd.ntmps3
  go_wp2_with (first | (go_at_call 8; refine (new_any ⟨#[120]⟩ 80 24 _ _ (HSW.out.below HBA.out) (by decide)).mono ?_; rintro e w2 ⟨⟨b, rfl, hs2⟩⟩; have HS2 := Lib.hid hs2; clear hs2) | (go_at_call 7; refine (alive_any _ HG.out).mono ?_; rintro e wa ⟨rfl, hba⟩; have HBA := Lib.hid hba; clear hba))
  go_loopw [12] (fun i wr => ∃ (j : Nat) (p : Pa), (j : Int) ≤ n ∧ i = .int .i64 j ∧ p.sent ≤ j ∧ GoodP p ∧ ((j = 0 ∧ sdOf true p 3 = (0, false)) ∨ (0 < j ∧ sdOf true p 3 = (1, false))) ∧ Hid (Sep wr (.blk b (pcells p) 68 :: [.low w.heap.size w]))) (fun i _ => n.toNat - (intOf i).toNat)
  case atStart => exact ⟨0, newF ⟨#[120]⟩ 80 24, by omega, rfl, Int.le_refl _, GN.out, .inl ⟨rfl, rfl⟩, HS2⟩
  case round =>
    obtain ⟨j, p, hj, rfl, hsn, hgp, hsd, HSr⟩ := hrel
    have HP := Lib.hid hgp
    have hgo := good_opt hgp 251 3
    have HGO := Lib.hid hgo
    clear hgp hgo
    by_cases hlt : (j : Int) < n
    · have hd : decide ((j : Int) < n) = true := by simpa using hlt
      have hjn : j ≤ 60 := by omega
      rcases hsd with ⟨hj0, hsd⟩ | ⟨hj0, hsd⟩
      · have d3 : decide ((0 : Int) < (j : Int)) = false := by simp; omega
        obtain ⟨st, hst⟩ : ∃ s : ByteArray, s = ⟨(optF p 251 3).1.toArray⟩ := ⟨_, rfl⟩
        have eq1 : Ending.returned (.string ⟨(optF p 251 3).1.toArray⟩) = .returned (.string st) := by rw [hst]
        have E1 := Lib.hid eq1
        have HSD : Hid (sdOf true (optF p 251 3).2 3 = (1, false)) := Lib.hid (yes_first true p 3 (by omega) (by rfl) hsd)
        clear eq1 hsd hst
        go_wp2_with fail
        (go_at_call 9; refine (take_opt b p 251 3 _ _ _ HSr.out (fun x hx => HG.out.at (hx.lowAt 0 rfl) hpos) HP.out (by omega)).mono ?_; rintro e w5 ⟨⟨he5, hs5⟩⟩; have he5 : e = .returned (.string st) := he5.trans (E1.out); subst he5; have HS5 := Lib.hid hs5; clear hs5)
        go_wp2_with fail
        go_roundw
        case rel => exact ⟨j + 1, _, by omega, by go_num, Int.le_trans HGO.out.2.1 (by omega), HGO.out.1, .inr ⟨by omega, HSD.out⟩, HS5⟩
        case measure => simp [intOf]; omega
        
      · have d3 : decide ((0 : Int) < (j : Int)) = true := by simp; omega
        have eq1 : Ending.returned (.string ⟨(optF p 251 3).1.toArray⟩) = .returned (.string ⟨#[]⟩) := by rw [show (optF p 251 3).1 = [] from (yes_again true p 3 (by omega) hsd).1]
        have E1 := Lib.hid eq1
        have HSD : Hid (sdOf true (optF p 251 3).2 3 = (1, false)) := Lib.hid (yes_again true p 3 (by omega) hsd).2
        clear eq1 hsd
        go_wp2_with fail
        (go_at_call 9; refine (take_opt b p 251 3 _ _ _ HSr.out (fun x hx => HG.out.at (hx.lowAt 0 rfl) hpos) HP.out (by omega)).mono ?_; rintro e w5 ⟨⟨he5, hs5⟩⟩; have he5 : e = .returned (.string ⟨#[]⟩) := he5.trans (E1.out); subst he5; have HS5 := Lib.hid hs5; clear hs5)
        go_wp2_with fail
        go_roundw
        case rel => exact ⟨j + 1, _, by omega, by go_num, Int.le_trans HGO.out.2.1 (by omega), HGO.out.1, .inr ⟨by omega, HSD.out⟩, HS5⟩
        case measure => simp [intOf]; omega
        
    · have hd : decide ((j : Int) < n) = false := by simpa using hlt
      have hjn : (j : Int) = n := by omega
      rcases hsd with ⟨hj0, hsd⟩ | ⟨hj0, hsd⟩
      · have d3 : decide (0 < n) = false := by simp; omega
        have eq1 : Ending.returned (.string ⟨(optF p 252 3).1.toArray⟩) = .returned (.string ⟨#[]⟩) := by rw [show (optF p 252 3).1 = [] from off_step true p 3 (by omega) hsd]
        have E1 := Lib.hid eq1
        clear eq1 hsd
        go_wp2_with fail
        (go_at_call 9; refine (take_opt b p 252 3 _ _ _ HSr.out (fun x hx => HG.out.at (hx.lowAt 0 rfl) hpos) HP.out (by omega)).mono ?_; rintro e w7 ⟨⟨he7, hs7⟩⟩; have he7 : e = .returned (.string ⟨#[]⟩) := he7.trans (E1.out); subst he7; have HS7 := Lib.hid hs7; clear hs7)
        go_wp2_with fail
        go_ret
        exact ⟨rfl, HS7.out.lowAt 1 rfl⟩
        
      · have d3 : decide (0 < n) = true := by simp; omega
        obtain ⟨st, hst⟩ : ∃ s : ByteArray, s = ⟨(optF p 252 3).1.toArray⟩ := ⟨_, rfl⟩
        have eq1 : Ending.returned (.string ⟨(optF p 252 3).1.toArray⟩) = .returned (.string st) := by rw [hst]
        have E1 := Lib.hid eq1
        clear eq1 hsd hst
        go_wp2_with fail
        (go_at_call 9; refine (take_opt b p 252 3 _ _ _ HSr.out (fun x hx => HG.out.at (hx.lowAt 0 rfl) hpos) HP.out (by omega)).mono ?_; rintro e w7 ⟨⟨he7, hs7⟩⟩; have he7 : e = .returned (.string st) := he7.trans (E1.out); subst he7; have HS7 := Lib.hid hs7; clear hs7)
        go_wp2_with fail
        go_ret
        exact ⟨rfl, HS7.out.lowAt 1 rfl⟩
        
set_option maxHeartbeats 8000000 in
theorem ref_u_0  (n : Int) (w : World) (hg : Glob w) (h0 : 0 ≤ n) (h1 : n ≤ 60) : Calls Tryd.prog 3 #[.int .i64 0, .int .i64 n, .bool false] w fun e w' => e = .returned (.bool true) ∧ Below w.heap.size w w' := by
  have HG := Lib.hid hg
  have hpos : 0 < w.heap.size := by obtain ⟨m, h⟩ := hg; exact World.block_lt_of_cell? w _ h
  have d1 : decide (n < 0) = false := by simp; omega
  have d2 : decide (60 < n) = false := by simp; omega
  have GN := Lib.hid (good_new ⟨#[120]⟩ 80 24)
  have HSW := Lib.hid (Sep.start w)
  clear hg
  go_enter Tryd.func3, Tryd.ntmps3
  go_wp2_with (first | (go_at_call 8; refine (new_any ⟨#[120]⟩ 80 24 _ _ (HSW.out.below HBA.out) (by decide)).mono ?_; rintro e w2 ⟨⟨b, rfl, hs2⟩⟩; have HS2 := Lib.hid hs2; clear hs2) | (go_at_call 7; refine (alive_any _ HG.out).mono ?_; rintro e wa ⟨rfl, hba⟩; have HBA := Lib.hid hba; clear hba))
  go_loopw [12] (fun i wr => ∃ (j : Nat) (p : Pa), (j : Int) ≤ n ∧ i = .int .i64 j ∧ p.sent ≤ j ∧ GoodP p ∧ ((j = 0 ∧ sdOf false p 0 = (0, false)) ∨ (0 < j ∧ sdOf false p 0 = (1, false))) ∧ Hid (Sep wr (.blk b (pcells p) 68 :: [.low w.heap.size w]))) (fun i _ => n.toNat - (intOf i).toNat)
  case atStart => exact ⟨0, newF ⟨#[120]⟩ 80 24, by omega, rfl, Int.le_refl _, GN.out, .inl ⟨rfl, rfl⟩, HS2⟩
  case round =>
    obtain ⟨j, p, hj, rfl, hsn, hgp, hsd, HSr⟩ := hrel
    have HP := Lib.hid hgp
    have hgo := good_opt hgp 253 0
    have HGO := Lib.hid hgo
    clear hgp hgo
    by_cases hlt : (j : Int) < n
    · have hd : decide ((j : Int) < n) = true := by simpa using hlt
      have hjn : j ≤ 60 := by omega
      rcases hsd with ⟨hj0, hsd⟩ | ⟨hj0, hsd⟩
      · have d3 : decide ((0 : Int) < (j : Int)) = false := by simp; omega
        obtain ⟨st, hst⟩ : ∃ s : ByteArray, s = ⟨(optF p 253 0).1.toArray⟩ := ⟨_, rfl⟩
        have eq1 : Ending.returned (.string ⟨(optF p 253 0).1.toArray⟩) = .returned (.string st) := by rw [hst]
        have E1 := Lib.hid eq1
        have HSD : Hid (sdOf false (optF p 253 0).2 0 = (1, false)) := Lib.hid (yes_first false p 0 (by omega) (by rfl) hsd)
        clear eq1 hsd hst
        go_wp2_with fail
        (go_at_call 9; refine (take_opt b p 253 0 _ _ _ HSr.out (fun x hx => HG.out.at (hx.lowAt 0 rfl) hpos) HP.out (by omega)).mono ?_; rintro e w5 ⟨⟨he5, hs5⟩⟩; have he5 : e = .returned (.string st) := he5.trans (E1.out); subst he5; have HS5 := Lib.hid hs5; clear hs5)
        go_wp2_with fail
        go_roundw
        case rel => exact ⟨j + 1, _, by omega, by go_num, Int.le_trans HGO.out.2.1 (by omega), HGO.out.1, .inr ⟨by omega, HSD.out⟩, HS5⟩
        case measure => simp [intOf]; omega
        
      · have d3 : decide ((0 : Int) < (j : Int)) = true := by simp; omega
        have eq1 : Ending.returned (.string ⟨(optF p 253 0).1.toArray⟩) = .returned (.string ⟨#[]⟩) := by rw [show (optF p 253 0).1 = [] from (yes_again false p 0 (by omega) hsd).1]
        have E1 := Lib.hid eq1
        have HSD : Hid (sdOf false (optF p 253 0).2 0 = (1, false)) := Lib.hid (yes_again false p 0 (by omega) hsd).2
        clear eq1 hsd
        go_wp2_with fail
        (go_at_call 9; refine (take_opt b p 253 0 _ _ _ HSr.out (fun x hx => HG.out.at (hx.lowAt 0 rfl) hpos) HP.out (by omega)).mono ?_; rintro e w5 ⟨⟨he5, hs5⟩⟩; have he5 : e = .returned (.string ⟨#[]⟩) := he5.trans (E1.out); subst he5; have HS5 := Lib.hid hs5; clear hs5)
        go_wp2_with fail
        go_roundw
        case rel => exact ⟨j + 1, _, by omega, by go_num, Int.le_trans HGO.out.2.1 (by omega), HGO.out.1, .inr ⟨by omega, HSD.out⟩, HS5⟩
        case measure => simp [intOf]; omega
        
    · have hd : decide ((j : Int) < n) = false := by simpa using hlt
      have hjn : (j : Int) = n := by omega
      rcases hsd with ⟨hj0, hsd⟩ | ⟨hj0, hsd⟩
      · have d3 : decide (0 < n) = false := by simp; omega
        have eq1 : Ending.returned (.string ⟨(optF p 254 0).1.toArray⟩) = .returned (.string ⟨#[]⟩) := by rw [show (optF p 254 0).1 = [] from off_step false p 0 (by omega) hsd]
        have E1 := Lib.hid eq1
        clear eq1 hsd
        go_wp2_with fail
        (go_at_call 9; refine (take_opt b p 254 0 _ _ _ HSr.out (fun x hx => HG.out.at (hx.lowAt 0 rfl) hpos) HP.out (by omega)).mono ?_; rintro e w7 ⟨⟨he7, hs7⟩⟩; have he7 : e = .returned (.string ⟨#[]⟩) := he7.trans (E1.out); subst he7; have HS7 := Lib.hid hs7; clear hs7)
        go_wp2_with fail
        go_ret
        exact ⟨rfl, HS7.out.lowAt 1 rfl⟩
        
      · have d3 : decide (0 < n) = true := by simp; omega
        obtain ⟨st, hst⟩ : ∃ s : ByteArray, s = ⟨(optF p 254 0).1.toArray⟩ := ⟨_, rfl⟩
        have eq1 : Ending.returned (.string ⟨(optF p 254 0).1.toArray⟩) = .returned (.string st) := by rw [hst]
        have E1 := Lib.hid eq1
        clear eq1 hsd hst
        go_wp2_with fail
        (go_at_call 9; refine (take_opt b p 254 0 _ _ _ HSr.out (fun x hx => HG.out.at (hx.lowAt 0 rfl) hpos) HP.out (by omega)).mono ?_; rintro e w7 ⟨⟨he7, hs7⟩⟩; have he7 : e = .returned (.string st) := he7.trans (E1.out); subst he7; have HS7 := Lib.hid hs7; clear hs7)
        go_wp2_with fail
        go_ret
        exact ⟨rfl, HS7.out.lowAt 1 rfl⟩
        
set_option maxHeartbeats 8000000 in
theorem ref_u_3  (n : Int) (w : World) (hg : Glob w) (h0 : 0 ≤ n) (h1 : n ≤ 60) : Calls Tryd.prog 3 #[.int .i64 3, .int .i64 n, .bool false] w fun e w' => e = .returned (.bool true) ∧ Below w.heap.size w w' := by
  have HG := Lib.hid hg
  have hpos : 0 < w.heap.size := by obtain ⟨m, h⟩ := hg; exact World.block_lt_of_cell? w _ h
  have d1 : decide (n < 0) = false := by simp; omega
  have d2 : decide (60 < n) = false := by simp; omega
  have GN := Lib.hid (good_new ⟨#[120]⟩ 80 24)
  have HSW := Lib.hid (Sep.start w)
  clear hg
  go_enter Tryd.func3, Tryd.ntmps3
  go_wp2_with (first | (go_at_call 8; refine (new_any ⟨#[120]⟩ 80 24 _ _ (HSW.out.below HBA.out) (by decide)).mono ?_; rintro e w2 ⟨⟨b, rfl, hs2⟩⟩; have HS2 := Lib.hid hs2; clear hs2) | (go_at_call 7; refine (alive_any _ HG.out).mono ?_; rintro e wa ⟨rfl, hba⟩; have HBA := Lib.hid hba; clear hba))
  go_loopw [12] (fun i wr => ∃ (j : Nat) (p : Pa), (j : Int) ≤ n ∧ i = .int .i64 j ∧ p.sent ≤ j ∧ GoodP p ∧ ((j = 0 ∧ sdOf false p 3 = (0, false)) ∨ (0 < j ∧ sdOf false p 3 = (1, false))) ∧ Hid (Sep wr (.blk b (pcells p) 68 :: [.low w.heap.size w]))) (fun i _ => n.toNat - (intOf i).toNat)
  case atStart => exact ⟨0, newF ⟨#[120]⟩ 80 24, by omega, rfl, Int.le_refl _, GN.out, .inl ⟨rfl, rfl⟩, HS2⟩
  case round =>
    obtain ⟨j, p, hj, rfl, hsn, hgp, hsd, HSr⟩ := hrel
    have HP := Lib.hid hgp
    have hgo := good_opt hgp 253 3
    have HGO := Lib.hid hgo
    clear hgp hgo
    by_cases hlt : (j : Int) < n
    · have hd : decide ((j : Int) < n) = true := by simpa using hlt
      have hjn : j ≤ 60 := by omega
      rcases hsd with ⟨hj0, hsd⟩ | ⟨hj0, hsd⟩
      · have d3 : decide ((0 : Int) < (j : Int)) = false := by simp; omega
        obtain ⟨st, hst⟩ : ∃ s : ByteArray, s = ⟨(optF p 253 3).1.toArray⟩ := ⟨_, rfl⟩
        have eq1 : Ending.returned (.string ⟨(optF p 253 3).1.toArray⟩) = .returned (.string st) := by rw [hst]
        have E1 := Lib.hid eq1
        have HSD : Hid (sdOf false (optF p 253 3).2 3 = (1, false)) := Lib.hid (yes_first false p 3 (by omega) (by rfl) hsd)
        clear eq1 hsd hst
        go_wp2_with fail
        (go_at_call 9; refine (take_opt b p 253 3 _ _ _ HSr.out (fun x hx => HG.out.at (hx.lowAt 0 rfl) hpos) HP.out (by omega)).mono ?_; rintro e w5 ⟨⟨he5, hs5⟩⟩; have he5 : e = .returned (.string st) := he5.trans (E1.out); subst he5; have HS5 := Lib.hid hs5; clear hs5)
        go_wp2_with fail
        go_roundw
        case rel => exact ⟨j + 1, _, by omega, by go_num, Int.le_trans HGO.out.2.1 (by omega), HGO.out.1, .inr ⟨by omega, HSD.out⟩, HS5⟩
        case measure => simp [intOf]; omega
        
      · have d3 : decide ((0 : Int) < (j : Int)) = true := by simp; omega
        have eq1 : Ending.returned (.string ⟨(optF p 253 3).1.toArray⟩) = .returned (.string ⟨#[]⟩) := by rw [show (optF p 253 3).1 = [] from (yes_again false p 3 (by omega) hsd).1]
        have E1 := Lib.hid eq1
        have HSD : Hid (sdOf false (optF p 253 3).2 3 = (1, false)) := Lib.hid (yes_again false p 3 (by omega) hsd).2
        clear eq1 hsd
        go_wp2_with fail
        (go_at_call 9; refine (take_opt b p 253 3 _ _ _ HSr.out (fun x hx => HG.out.at (hx.lowAt 0 rfl) hpos) HP.out (by omega)).mono ?_; rintro e w5 ⟨⟨he5, hs5⟩⟩; have he5 : e = .returned (.string ⟨#[]⟩) := he5.trans (E1.out); subst he5; have HS5 := Lib.hid hs5; clear hs5)
        go_wp2_with fail
        go_roundw
        case rel => exact ⟨j + 1, _, by omega, by go_num, Int.le_trans HGO.out.2.1 (by omega), HGO.out.1, .inr ⟨by omega, HSD.out⟩, HS5⟩
        case measure => simp [intOf]; omega
        
    · have hd : decide ((j : Int) < n) = false := by simpa using hlt
      have hjn : (j : Int) = n := by omega
      rcases hsd with ⟨hj0, hsd⟩ | ⟨hj0, hsd⟩
      · have d3 : decide (0 < n) = false := by simp; omega
        have eq1 : Ending.returned (.string ⟨(optF p 254 3).1.toArray⟩) = .returned (.string ⟨#[]⟩) := by rw [show (optF p 254 3).1 = [] from off_step false p 3 (by omega) hsd]
        have E1 := Lib.hid eq1
        clear eq1 hsd
        go_wp2_with fail
        (go_at_call 9; refine (take_opt b p 254 3 _ _ _ HSr.out (fun x hx => HG.out.at (hx.lowAt 0 rfl) hpos) HP.out (by omega)).mono ?_; rintro e w7 ⟨⟨he7, hs7⟩⟩; have he7 : e = .returned (.string ⟨#[]⟩) := he7.trans (E1.out); subst he7; have HS7 := Lib.hid hs7; clear hs7)
        go_wp2_with fail
        go_ret
        exact ⟨rfl, HS7.out.lowAt 1 rfl⟩
        
      · have d3 : decide (0 < n) = true := by simp; omega
        obtain ⟨st, hst⟩ : ∃ s : ByteArray, s = ⟨(optF p 254 3).1.toArray⟩ := ⟨_, rfl⟩
        have eq1 : Ending.returned (.string ⟨(optF p 254 3).1.toArray⟩) = .returned (.string st) := by rw [hst]
        have E1 := Lib.hid eq1
        clear eq1 hsd hst
        go_wp2_with fail
        (go_at_call 9; refine (take_opt b p 254 3 _ _ _ HSr.out (fun x hx => HG.out.at (hx.lowAt 0 rfl) hpos) HP.out (by omega)).mono ?_; rintro e w7 ⟨⟨he7, hs7⟩⟩; have he7 : e = .returned (.string st) := he7.trans (E1.out); subst he7; have HS7 := Lib.hid hs7; clear hs7)
        go_wp2_with fail
        go_ret
        exact ⟨rfl, HS7.out.lowAt 1 rfl⟩
        
set_option maxHeartbeats 8000000 in
theorem ref_u_24  (n : Int) (w : World) (hg : Glob w) (h0 : 0 ≤ n) (h1 : n ≤ 60) : Calls Tryd.prog 3 #[.int .i64 24, .int .i64 n, .bool false] w fun e w' => e = .returned (.bool true) ∧ Below w.heap.size w w' := by
  have HG := Lib.hid hg
  have hpos : 0 < w.heap.size := by obtain ⟨m, h⟩ := hg; exact World.block_lt_of_cell? w _ h
  have d1 : decide (n < 0) = false := by simp; omega
  have d2 : decide (60 < n) = false := by simp; omega
  have GN := Lib.hid (good_new ⟨#[120]⟩ 80 24)
  have HSW := Lib.hid (Sep.start w)
  clear hg
  go_enter Tryd.func3, Tryd.ntmps3
  go_wp2_with (first | (go_at_call 8; refine (new_any ⟨#[120]⟩ 80 24 _ _ (HSW.out.below HBA.out) (by decide)).mono ?_; rintro e w2 ⟨⟨b, rfl, hs2⟩⟩; have HS2 := Lib.hid hs2; clear hs2) | (go_at_call 7; refine (alive_any _ HG.out).mono ?_; rintro e wa ⟨rfl, hba⟩; have HBA := Lib.hid hba; clear hba))
  go_loopw [12] (fun i wr => ∃ (j : Nat) (p : Pa), (j : Int) ≤ n ∧ i = .int .i64 j ∧ p.sent ≤ j ∧ GoodP p ∧ ((j = 0 ∧ sdOf false p 24 = (0, false)) ∨ (0 < j ∧ sdOf false p 24 = (1, false))) ∧ Hid (Sep wr (.blk b (pcells p) 68 :: [.low w.heap.size w]))) (fun i _ => n.toNat - (intOf i).toNat)
  case atStart => exact ⟨0, newF ⟨#[120]⟩ 80 24, by omega, rfl, Int.le_refl _, GN.out, .inl ⟨rfl, rfl⟩, HS2⟩
  case round =>
    obtain ⟨j, p, hj, rfl, hsn, hgp, hsd, HSr⟩ := hrel
    have HP := Lib.hid hgp
    have hgo := good_opt hgp 253 24
    have HGO := Lib.hid hgo
    clear hgp hgo
    by_cases hlt : (j : Int) < n
    · have hd : decide ((j : Int) < n) = true := by simpa using hlt
      have hjn : j ≤ 60 := by omega
      rcases hsd with ⟨hj0, hsd⟩ | ⟨hj0, hsd⟩
      · have d3 : decide ((0 : Int) < (j : Int)) = false := by simp; omega
        obtain ⟨st, hst⟩ : ∃ s : ByteArray, s = ⟨(optF p 253 24).1.toArray⟩ := ⟨_, rfl⟩
        have eq1 : Ending.returned (.string ⟨(optF p 253 24).1.toArray⟩) = .returned (.string st) := by rw [hst]
        have E1 := Lib.hid eq1
        have HSD : Hid (sdOf false (optF p 253 24).2 24 = (1, false)) := Lib.hid (yes_first false p 24 (by omega) (by rfl) hsd)
        clear eq1 hsd hst
        go_wp2_with fail
        (go_at_call 9; refine (take_opt b p 253 24 _ _ _ HSr.out (fun x hx => HG.out.at (hx.lowAt 0 rfl) hpos) HP.out (by omega)).mono ?_; rintro e w5 ⟨⟨he5, hs5⟩⟩; have he5 : e = .returned (.string st) := he5.trans (E1.out); subst he5; have HS5 := Lib.hid hs5; clear hs5)
        go_wp2_with fail
        go_roundw
        case rel => exact ⟨j + 1, _, by omega, by go_num, Int.le_trans HGO.out.2.1 (by omega), HGO.out.1, .inr ⟨by omega, HSD.out⟩, HS5⟩
        case measure => simp [intOf]; omega
        
      · have d3 : decide ((0 : Int) < (j : Int)) = true := by simp; omega
        have eq1 : Ending.returned (.string ⟨(optF p 253 24).1.toArray⟩) = .returned (.string ⟨#[]⟩) := by rw [show (optF p 253 24).1 = [] from (yes_again false p 24 (by omega) hsd).1]
        have E1 := Lib.hid eq1
        have HSD : Hid (sdOf false (optF p 253 24).2 24 = (1, false)) := Lib.hid (yes_again false p 24 (by omega) hsd).2
        clear eq1 hsd
        go_wp2_with fail
        (go_at_call 9; refine (take_opt b p 253 24 _ _ _ HSr.out (fun x hx => HG.out.at (hx.lowAt 0 rfl) hpos) HP.out (by omega)).mono ?_; rintro e w5 ⟨⟨he5, hs5⟩⟩; have he5 : e = .returned (.string ⟨#[]⟩) := he5.trans (E1.out); subst he5; have HS5 := Lib.hid hs5; clear hs5)
        go_wp2_with fail
        go_roundw
        case rel => exact ⟨j + 1, _, by omega, by go_num, Int.le_trans HGO.out.2.1 (by omega), HGO.out.1, .inr ⟨by omega, HSD.out⟩, HS5⟩
        case measure => simp [intOf]; omega
        
    · have hd : decide ((j : Int) < n) = false := by simpa using hlt
      have hjn : (j : Int) = n := by omega
      rcases hsd with ⟨hj0, hsd⟩ | ⟨hj0, hsd⟩
      · have d3 : decide (0 < n) = false := by simp; omega
        have eq1 : Ending.returned (.string ⟨(optF p 254 24).1.toArray⟩) = .returned (.string ⟨#[]⟩) := by rw [show (optF p 254 24).1 = [] from off_step false p 24 (by omega) hsd]
        have E1 := Lib.hid eq1
        clear eq1 hsd
        go_wp2_with fail
        (go_at_call 9; refine (take_opt b p 254 24 _ _ _ HSr.out (fun x hx => HG.out.at (hx.lowAt 0 rfl) hpos) HP.out (by omega)).mono ?_; rintro e w7 ⟨⟨he7, hs7⟩⟩; have he7 : e = .returned (.string ⟨#[]⟩) := he7.trans (E1.out); subst he7; have HS7 := Lib.hid hs7; clear hs7)
        go_wp2_with fail
        go_ret
        exact ⟨rfl, HS7.out.lowAt 1 rfl⟩
        
      · have d3 : decide (0 < n) = true := by simp; omega
        obtain ⟨st, hst⟩ : ∃ s : ByteArray, s = ⟨(optF p 254 24).1.toArray⟩ := ⟨_, rfl⟩
        have eq1 : Ending.returned (.string ⟨(optF p 254 24).1.toArray⟩) = .returned (.string st) := by rw [hst]
        have E1 := Lib.hid eq1
        clear eq1 hsd hst
        go_wp2_with fail
        (go_at_call 9; refine (take_opt b p 254 24 _ _ _ HSr.out (fun x hx => HG.out.at (hx.lowAt 0 rfl) hpos) HP.out (by omega)).mono ?_; rintro e w7 ⟨⟨he7, hs7⟩⟩; have he7 : e = .returned (.string st) := he7.trans (E1.out); subst he7; have HS7 := Lib.hid hs7; clear hs7)
        go_wp2_with fail
        go_ret
        exact ⟨rfl, HS7.out.lowAt 1 rfl⟩
        
set_option maxHeartbeats 8000000 in
theorem ref_u_31  (n : Int) (w : World) (hg : Glob w) (h0 : 0 ≤ n) (h1 : n ≤ 60) : Calls Tryd.prog 3 #[.int .i64 31, .int .i64 n, .bool false] w fun e w' => e = .returned (.bool true) ∧ Below w.heap.size w w' := by
  have HG := Lib.hid hg
  have hpos : 0 < w.heap.size := by obtain ⟨m, h⟩ := hg; exact World.block_lt_of_cell? w _ h
  have d1 : decide (n < 0) = false := by simp; omega
  have d2 : decide (60 < n) = false := by simp; omega
  have GN := Lib.hid (good_new ⟨#[120]⟩ 80 24)
  have HSW := Lib.hid (Sep.start w)
  clear hg
  go_enter Tryd.func3, Tryd.ntmps3
  go_wp2_with (first | (go_at_call 8; refine (new_any ⟨#[120]⟩ 80 24 _ _ (HSW.out.below HBA.out) (by decide)).mono ?_; rintro e w2 ⟨⟨b, rfl, hs2⟩⟩; have HS2 := Lib.hid hs2; clear hs2) | (go_at_call 7; refine (alive_any _ HG.out).mono ?_; rintro e wa ⟨rfl, hba⟩; have HBA := Lib.hid hba; clear hba))
  go_loopw [12] (fun i wr => ∃ (j : Nat) (p : Pa), (j : Int) ≤ n ∧ i = .int .i64 j ∧ p.sent ≤ j ∧ GoodP p ∧ ((j = 0 ∧ sdOf false p 31 = (0, false)) ∨ (0 < j ∧ sdOf false p 31 = (1, false))) ∧ Hid (Sep wr (.blk b (pcells p) 68 :: [.low w.heap.size w]))) (fun i _ => n.toNat - (intOf i).toNat)
  case atStart => exact ⟨0, newF ⟨#[120]⟩ 80 24, by omega, rfl, Int.le_refl _, GN.out, .inl ⟨rfl, rfl⟩, HS2⟩
  case round =>
    obtain ⟨j, p, hj, rfl, hsn, hgp, hsd, HSr⟩ := hrel
    have HP := Lib.hid hgp
    have hgo := good_opt hgp 253 31
    have HGO := Lib.hid hgo
    clear hgp hgo
    by_cases hlt : (j : Int) < n
    · have hd : decide ((j : Int) < n) = true := by simpa using hlt
      have hjn : j ≤ 60 := by omega
      rcases hsd with ⟨hj0, hsd⟩ | ⟨hj0, hsd⟩
      · have d3 : decide ((0 : Int) < (j : Int)) = false := by simp; omega
        obtain ⟨st, hst⟩ : ∃ s : ByteArray, s = ⟨(optF p 253 31).1.toArray⟩ := ⟨_, rfl⟩
        have eq1 : Ending.returned (.string ⟨(optF p 253 31).1.toArray⟩) = .returned (.string st) := by rw [hst]
        have E1 := Lib.hid eq1
        have HSD : Hid (sdOf false (optF p 253 31).2 31 = (1, false)) := Lib.hid (yes_first false p 31 (by omega) (by rfl) hsd)
        clear eq1 hsd hst
        go_wp2_with fail
        (go_at_call 9; refine (take_opt b p 253 31 _ _ _ HSr.out (fun x hx => HG.out.at (hx.lowAt 0 rfl) hpos) HP.out (by omega)).mono ?_; rintro e w5 ⟨⟨he5, hs5⟩⟩; have he5 : e = .returned (.string st) := he5.trans (E1.out); subst he5; have HS5 := Lib.hid hs5; clear hs5)
        go_wp2_with fail
        go_roundw
        case rel => exact ⟨j + 1, _, by omega, by go_num, Int.le_trans HGO.out.2.1 (by omega), HGO.out.1, .inr ⟨by omega, HSD.out⟩, HS5⟩
        case measure => simp [intOf]; omega
        
      · have d3 : decide ((0 : Int) < (j : Int)) = true := by simp; omega
        have eq1 : Ending.returned (.string ⟨(optF p 253 31).1.toArray⟩) = .returned (.string ⟨#[]⟩) := by rw [show (optF p 253 31).1 = [] from (yes_again false p 31 (by omega) hsd).1]
        have E1 := Lib.hid eq1
        have HSD : Hid (sdOf false (optF p 253 31).2 31 = (1, false)) := Lib.hid (yes_again false p 31 (by omega) hsd).2
        clear eq1 hsd
        go_wp2_with fail
        (go_at_call 9; refine (take_opt b p 253 31 _ _ _ HSr.out (fun x hx => HG.out.at (hx.lowAt 0 rfl) hpos) HP.out (by omega)).mono ?_; rintro e w5 ⟨⟨he5, hs5⟩⟩; have he5 : e = .returned (.string ⟨#[]⟩) := he5.trans (E1.out); subst he5; have HS5 := Lib.hid hs5; clear hs5)
        go_wp2_with fail
        go_roundw
        case rel => exact ⟨j + 1, _, by omega, by go_num, Int.le_trans HGO.out.2.1 (by omega), HGO.out.1, .inr ⟨by omega, HSD.out⟩, HS5⟩
        case measure => simp [intOf]; omega
        
    · have hd : decide ((j : Int) < n) = false := by simpa using hlt
      have hjn : (j : Int) = n := by omega
      rcases hsd with ⟨hj0, hsd⟩ | ⟨hj0, hsd⟩
      · have d3 : decide (0 < n) = false := by simp; omega
        have eq1 : Ending.returned (.string ⟨(optF p 254 31).1.toArray⟩) = .returned (.string ⟨#[]⟩) := by rw [show (optF p 254 31).1 = [] from off_step false p 31 (by omega) hsd]
        have E1 := Lib.hid eq1
        clear eq1 hsd
        go_wp2_with fail
        (go_at_call 9; refine (take_opt b p 254 31 _ _ _ HSr.out (fun x hx => HG.out.at (hx.lowAt 0 rfl) hpos) HP.out (by omega)).mono ?_; rintro e w7 ⟨⟨he7, hs7⟩⟩; have he7 : e = .returned (.string ⟨#[]⟩) := he7.trans (E1.out); subst he7; have HS7 := Lib.hid hs7; clear hs7)
        go_wp2_with fail
        go_ret
        exact ⟨rfl, HS7.out.lowAt 1 rfl⟩
        
      · have d3 : decide (0 < n) = true := by simp; omega
        obtain ⟨st, hst⟩ : ∃ s : ByteArray, s = ⟨(optF p 254 31).1.toArray⟩ := ⟨_, rfl⟩
        have eq1 : Ending.returned (.string ⟨(optF p 254 31).1.toArray⟩) = .returned (.string st) := by rw [hst]
        have E1 := Lib.hid eq1
        clear eq1 hsd hst
        go_wp2_with fail
        (go_at_call 9; refine (take_opt b p 254 31 _ _ _ HSr.out (fun x hx => HG.out.at (hx.lowAt 0 rfl) hpos) HP.out (by omega)).mono ?_; rintro e w7 ⟨⟨he7, hs7⟩⟩; have he7 : e = .returned (.string st) := he7.trans (E1.out); subst he7; have HS7 := Lib.hid hs7; clear hs7)
        go_wp2_with fail
        go_ret
        exact ⟨rfl, HS7.out.lowAt 1 rfl⟩
        
theorem ref_out (o n : Int) (his : Bool) (w : World) (hg : Glob w) (h : o < 0 ∨ 255 < o ∨ n < 0 ∨ 60 < n) : Calls Tryd.prog 3 #[.int .i64 o, .int .i64 n, .bool his] w fun e w' => e = .returned (.bool true) ∧ Below w.heap.size w w' := by
  have HG := Lib.hid hg
  have hd : decide (o < 0) = true ∨ (decide (o < 0) = false ∧ decide (255 < o) = true) ∨ (decide (o < 0) = false ∧ decide (255 < o) = false ∧ decide (n < 0) = true) ∨ (decide (o < 0) = false ∧ decide (255 < o) = false ∧ decide (n < 0) = false ∧ decide (60 < n) = true) := by simp only [decide_eq_true_eq, decide_eq_false_iff_not]; omega
  clear h hg
  rcases hd with d1 | ⟨d1, d2⟩ | ⟨d1, d2, d3⟩ | ⟨d1, d2, d3, d4⟩
  all_goals
    go_enter Tryd.func3, Tryd.ntmps3
    go_wp2_with fail
    refine (alive_any _ HG.out).mono ?_
    rintro e wa ⟨rfl, hba⟩
    go_wp2_with fail
    go_ret
    exact ⟨rfl, hba⟩
theorem refuses_any (o n : Int) (his : Bool) (w : World) (hg : Glob w) : Calls Tryd.prog 3 #[.int .i64 o, .int .i64 n, .bool his] w fun e w' => e = .returned (.bool true) ∧ Below w.heap.size w w' := by
  by_cases h : o < 0 ∨ 255 < o ∨ n < 0 ∨ 60 < n
  · exact ref_out o n his w hg h
  · obtain ⟨k, rfl⟩ : ∃ k : Nat, o = k := ⟨o.toNat, by omega⟩
    cases his
    · by_cases h0 : k = 0
      · subst h0; exact ref_u_0 n w hg (by omega) (by omega)
      by_cases h3 : k = 3
      · subst h3; exact ref_u_3 n w hg (by omega) (by omega)
      by_cases h24 : k = 24
      · subst h24; exact ref_u_24 n w hg (by omega) (by omega)
      by_cases h31 : k = 31
      · subst h31; exact ref_u_31 n w hg (by omega) (by omega)
      exact ref_u_x k (by omega) (by simp; omega) (by simp; omega) (by simp; omega) (by simp; omega) n w hg (by omega) (by omega)
    · by_cases h0 : k = 0
      · subst h0; exact ref_h_0 n w hg (by omega) (by omega)
      by_cases h3 : k = 3
      · subst h3; exact ref_h_3 n w hg (by omega) (by omega)
      by_cases h1 : k = 1
      · subst h1; exact ref_h_1 n w hg (by omega) (by omega)
      exact ref_h_x k (by omega) (by simp; omega) (by simp; omega) (by simp; omega) n w hg (by omega) (by omega)
end Go.Proofs.YtjlamnioknbcaaaDoor.Q5
