/- WireTells -/
import Derived.Test.YtemdhbjcdibpfaaDoorW10
import Derived.Test.YtemdhbjcdibpfaaDoorB1
namespace Go.Proofs.YtemdhbjcdibpfaaDoor.W11
set_option linter.unusedVariables false
set_option linter.unusedSimpArgs false
set_option linter.unnecessarySimpa false
set_option maxRecDepth 100000
open Go.RowKit K1 K3 K5 K11 K12 K14 K20 K21 K22 K25 W0 W1 W2 W3 W4 W5 W6 W7 W8 W9 W10 B1 N0 N1 N2

attribute [local go_sem] cell_pastA froz_pastA
theorem refData_l (bin : Bool) (l : List UInt8) (w : World) (h : l.length ≤ 100000) : Calls Tryd.prog 17 #[.bool bin, .string ⟨l.toArray⟩] w fun e w' => e = .returned (.string ⟨(datF bin l).toArray⟩) ∧ Below w.heap.size w w' := refData_any bin ⟨l.toArray⟩ w (by simpa [ByteArray.size] using h)
theorem refSub_l (o : Nat) (l : List UInt8) (w : World) (ho : o ≤ 255) (h : l.length ≤ 100000) : Calls Tryd.prog 16 #[.int .i64 o, .string ⟨l.toArray⟩] w fun e w' => e = .returned (.string ⟨(subB o l).toArray⟩) ∧ Below w.heap.size w w' := refSub_any o ⟨l.toArray⟩ w ho (by simpa [ByteArray.size] using h)
theorem joinB_l (v : Value) (L : List (List UInt8)) (l : List UInt8) (w : World) (hl : l = L.flatten) (hv : Rd 1 strE w v L) (hn : L.length ≤ 1000000) (h : l.length ≤ 1000000) : Calls Tryd.prog 12 #[v] w fun e w' => e = .returned (.string ⟨l.toArray⟩) ∧ w' = w := by
  subst hl
  exact joinB_any v L w hv hn h
theorem data_l (bin : Bool) (v : Value) (L : List (List UInt8)) (l : List UInt8) (w : World) (hl : l = L.flatten) (hv : Rd 1 strE w v L) (hg : Glob w) (h : l.length ≤ 100000) (hn : L.length ≤ 1000000) : Calls Tryd.prog 7 #[.bool bin, v] w fun e w' => e = .returned (.string ⟨(datF bin l).toArray⟩) ∧ Below w.heap.size w w' := by
  subst hl
  exact data_any bin v L w hv hg h hn
theorem sub_l (o : Nat) (v : Value) (L : List (List UInt8)) (l : List UInt8) (w : World) (hl : l = L.flatten) (hv : Rd 1 strE w v L) (hg : Glob w) (h : l.length ≤ 40) (hn : L.length ≤ 1000000) (ho : o ≤ 255) : Calls Tryd.prog 14 #[.int .i64 o, v] w fun e w' => e = .returned (.tuple #[.string ⟨(subB o l).toArray⟩, .int .i64 0]) ∧ Below w.heap.size w w' := by
  subst hl
  exact sub_any o v L w hv hg h hn ho
theorem plain_d (bin : Bool) (s : ByteArray) (w : World) (hs : s.size ≤ 100000) : Calls Tryd.prog 9 #[.bool bin, .string s] w fun e w' => e = .returned (.string ⟨(plainD bin s.data.toList).toArray⟩) ∧ Below w.heap.size w w' := by
  have := W8.plain_any bin s w hs
  rwa [plain_eq] at this
set_option maxHeartbeats 16000000 in
theorem tells_any (bin : Bool) (v : Value) (L : List (List UInt8)) (cmd o : Int) (b : ByteArray) (w : World) (hv : Rd 1 strE w v L) (hg : Glob w) (hn : L.length ≤ 9223372036854775807) (hln : ∀ l ∈ L, l.length ≤ 9223372036854775807) (hbs : b.size ≤ 9223372036854775807) :
    Calls Tryd.prog 4 #[.bool bin, v, .int .i64 cmd, .int .i64 o, .string b] w fun e w' => e = .returned (.bool true) ∧ Below w.heap.size w w' := by
  have HV := Lib.hid hv
  have HG := Lib.hid hg
  have HLN := Lib.hid hln
  obtain ⟨a, c, rfl, hc⟩ := Rd.len hv
  have hpos : 0 < w.heap.size := World.block_lt_of_cell? w _ hg.choose_spec
  clear hv hg hln
  go_enter Tryd.func4, Tryd.ntmps4
  go_wp2_with (first | (go_at_call 10; refine (short_any 20 600 _ L _ HV.out (by omega) (by decide) (by decide) HLN.out).mono ?_; rintro e w0 ⟨⟨bs, rfl, hbs, hb0⟩⟩; have HB0 := Lib.hid hb0; have HBS := Lib.hid hbs; clear hb0 hbs) | (go_at_call 6; refine (alive_any _ (HG.out.at ((by first | exact HB0.out | exact (HB0.out.trans (HBa.out.mono HB0.out.size))) : Below w.heap.size w _) hpos)).mono ?_; rintro e wa ⟨rfl, hba⟩; have HBa := Lib.hid hba; clear hba))
  rotate_left
  · go_ret
    exact ⟨rfl, HB0.out.trans (HBa.out.mono HB0.out.size)⟩
  · go_ret
    exact ⟨rfl, HB0.out.trans (HBa.out.mono HB0.out.size)⟩
  have hb600 : b.size ≤ 600 := by omega
  obtain ⟨hl20, hl600⟩ := HBS.out (by assumption)
  have HBL := HB0.out.trans (HBa.out.mono HB0.out.size)
  refine (lentTexts_any _ L _ _ (HV.out.low (Nat.le_refl _) HBL) ((Sep.start w).below HBL) (by omega)).mono ?_
  rintro e w1 ⟨⟨g, cap, rfl, hs1⟩⟩
  have HS1 := Lib.hid hs1
  obtain ⟨l, hll⟩ : ∃ l, l = L.flatten := ⟨_, rfl⟩
  rw [← hll] at hl600
  have hfl := B1.size_arr l
  have HLL := Lib.hid hll
  clear hll
  clear HBa HB0 HBS HBL hs1
  by_cases hr : 0 ≤ o ∧ o ≤ 255
  · obtain ⟨on, rfl⟩ : ∃ n : Nat, o = n := ⟨o.toNat, by omega⟩
    have hr1 : decide ((0 : Int) ≤ (on : Int)) = true := by simp
    have hr2 : decide ((on : Int) ≤ 255) = true := by simp only [decide_eq_true_eq]; omega
    have hon : on ≤ 255 := by omega
    by_cases hcm : 251 ≤ cmd ∧ cmd ≤ 254
    · obtain ⟨cn, rfl⟩ : ∃ n : Nat, cmd = n := ⟨cmd.toNat, by omega⟩
      have hc1 : decide ((251 : Int) ≤ (cn : Int)) = true := by simp only [decide_eq_true_eq]; omega
      have hc2 : decide ((cn : Int) ≤ 254) = true := by simp only [decide_eq_true_eq]; omega
      have hcn : 251 ≤ cn ∧ cn ≤ 254 := by omega
      by_cases h40 : 40 < l.length
      · have hd : decide ((40 : Int) < (l.length : Int)) = true := by simp only [decide_eq_true_eq]; omega
        go_wp2_with (first | (go_at_call 12; refine (joinB_l _ L l _ HLL.out (HV.out.low (Nat.le_refl _) (HS1.out.lowAt 1 rfl)) (by omega) (by omega)).mono ?_; rintro e w2 ⟨rfl, rfl⟩) | (go_at_call 13; refine (option_any cn on _ (by omega) (by omega) (by omega)).mono ?_; rintro e w2 ⟨rfl, hb2⟩; have HS2 := Lib.hid (HS1.out.below hb2); clear hb2) | (go_at_call 14; refine (sub_long on _ L _ (Rd.cut (HS2.out.rowAt 0 rfl) (fun _ => rfl) rfl) (by rw [← HLL.out]; omega) (by omega) (by omega) (by rw [← HLL.out]; omega)).mono ?_; rintro e w3 ⟨rfl, hb3⟩; have HS3 := Lib.hid (HS2.out.below hb3); clear hb3) | (go_at_call 15; refine (refOption_any cn on _ (by omega) (by omega)).mono ?_; rintro e w4 ⟨rfl, hb4⟩; have HS4 := Lib.hid (HS3.out.below hb4); clear hb4) | (go_at_call 7; refine (data_l bin _ L l _ HLL.out (Rd.cut (HS4.out.rowAt 0 rfl) (fun _ => rfl) rfl) (HG.out.at (HS4.out.lowAt 1 rfl) hpos) (by omega) (by omega)).mono ?_; rintro e w5 ⟨rfl, hb5⟩; have HS5 := Lib.hid (HS4.out.below hb5); clear hb5) | (go_at_call 17; refine (refData_l bin l _ (by omega)).mono ?_; rintro e w6 ⟨rfl, hb6⟩; have HS6 := Lib.hid (HS5.out.below hb6); clear hb6) | (go_at_call 9; refine (plain_d bin b _ (by omega)).mono ?_; rintro e w7 ⟨rfl, hb7⟩; have HS7 := Lib.hid (HS6.out.below hb7); clear hb7) | (go_at_call 8; refine (refPlain_any bin b _ (by omega)).mono ?_; rintro e w8 ⟨rfl, hb8⟩; have HS8 := Lib.hid (HS7.out.below hb8); clear hb8) | (go_at_call 18; refine (staysTexts_any _ _ _ L _ _ HS8.out (HV.out.low (Nat.le_refl _) (HS8.out.lowAt 1 rfl)) (by omega)).mono ?_; rintro e w9 ⟨rfl, hb9⟩; have HS9 := Lib.hid (HS8.out.below hb9); clear hb9))
        go_ret
        exact ⟨rfl, HS9.out.lowAt 1 rfl⟩
      · have hd : decide ((40 : Int) < (l.length : Int)) = false := by simp only [decide_eq_false_iff_not]; omega
        go_wp2_with (first | (go_at_call 12; refine (joinB_l _ L l _ HLL.out (HV.out.low (Nat.le_refl _) (HS1.out.lowAt 1 rfl)) (by omega) (by omega)).mono ?_; rintro e w2 ⟨rfl, rfl⟩) | (go_at_call 13; refine (option_any cn on _ (by omega) (by omega) (by omega)).mono ?_; rintro e w2 ⟨rfl, hb2⟩; have HS2 := Lib.hid (HS1.out.below hb2); clear hb2) | (go_at_call 14; refine (sub_l on _ L l _ HLL.out (Rd.cut (HS2.out.rowAt 0 rfl) (fun _ => rfl) rfl) (HG.out.at (HS2.out.lowAt 1 rfl) hpos) (by omega) (by omega) (by omega)).mono ?_; rintro e w3 ⟨rfl, hb3⟩; have HS3 := Lib.hid (HS2.out.below hb3); clear hb3) | (go_at_call 15; refine (refOption_any cn on _ (by omega) (by omega)).mono ?_; rintro e w4 ⟨rfl, hb4⟩; have HS4 := Lib.hid (HS3.out.below hb4); clear hb4) | (go_at_call 16; refine (refSub_l on l _ (by omega) (by omega)).mono ?_; rintro e w5 ⟨rfl, hb5⟩; have HS5 := Lib.hid (HS4.out.below hb5); clear hb5) | (go_at_call 7; refine (data_l bin _ L l _ HLL.out (Rd.cut (HS5.out.rowAt 0 rfl) (fun _ => rfl) rfl) (HG.out.at (HS5.out.lowAt 1 rfl) hpos) (by omega) (by omega)).mono ?_; rintro e w6 ⟨rfl, hb6⟩; have HS6 := Lib.hid (HS5.out.below hb6); clear hb6) | (go_at_call 17; refine (refData_l bin l _ (by omega)).mono ?_; rintro e w7 ⟨rfl, hb7⟩; have HS7 := Lib.hid (HS6.out.below hb7); clear hb7) | (go_at_call 9; refine (plain_d bin b _ (by omega)).mono ?_; rintro e w8 ⟨rfl, hb8⟩; have HS8 := Lib.hid (HS7.out.below hb8); clear hb8) | (go_at_call 8; refine (refPlain_any bin b _ (by omega)).mono ?_; rintro e w9 ⟨rfl, hb9⟩; have HS9 := Lib.hid (HS8.out.below hb9); clear hb9) | (go_at_call 18; refine (staysTexts_any _ _ _ L _ _ HS9.out (HV.out.low (Nat.le_refl _) (HS9.out.lowAt 1 rfl)) (by omega)).mono ?_; rintro e w10 ⟨rfl, hb10⟩; have HS10 := Lib.hid (HS9.out.below hb10); clear hb10))
        go_ret
        exact ⟨rfl, HS10.out.lowAt 1 rfl⟩
    · have hoe : cmd < 251 ∨ 254 < cmd ∨ (on : Int) < 0 ∨ 255 < (on : Int) := by omega
      have hc3 : decide (251 ≤ cmd) = false ∨ (decide (251 ≤ cmd) = true ∧ decide (cmd ≤ 254) = false) := by
        simp only [decide_eq_true_eq, decide_eq_false_iff_not]; omega
      by_cases h40 : 40 < l.length
      · have hd : decide ((40 : Int) < (l.length : Int)) = true := by simp only [decide_eq_true_eq]; omega
        rcases hc3 with hc1 | ⟨hc1, hc2⟩
        all_goals
          go_wp2_with (first | (go_at_call 12; refine (joinB_l _ L l _ HLL.out (HV.out.low (Nat.le_refl _) (HS1.out.lowAt 1 rfl)) (by omega) (by omega)).mono ?_; rintro e w2 ⟨rfl, rfl⟩) | (go_at_call 13; refine (option_err _ _ _ hoe).mono ?_; rintro e w2 ⟨rfl, rfl⟩) | (go_at_call 14; refine (sub_long on _ L _ (Rd.cut (HS1.out.rowAt 0 rfl) (fun _ => rfl) rfl) (by rw [← HLL.out]; omega) (by omega) (by omega) (by rw [← HLL.out]; omega)).mono ?_; rintro e w2 ⟨rfl, hb2⟩; have HS2 := Lib.hid (HS1.out.below hb2); clear hb2) | (go_at_call 7; refine (data_l bin _ L l _ HLL.out (Rd.cut (HS2.out.rowAt 0 rfl) (fun _ => rfl) rfl) (HG.out.at (HS2.out.lowAt 1 rfl) hpos) (by omega) (by omega)).mono ?_; rintro e w3 ⟨rfl, hb3⟩; have HS3 := Lib.hid (HS2.out.below hb3); clear hb3) | (go_at_call 17; refine (refData_l bin l _ (by omega)).mono ?_; rintro e w4 ⟨rfl, hb4⟩; have HS4 := Lib.hid (HS3.out.below hb4); clear hb4) | (go_at_call 9; refine (plain_d bin b _ (by omega)).mono ?_; rintro e w5 ⟨rfl, hb5⟩; have HS5 := Lib.hid (HS4.out.below hb5); clear hb5) | (go_at_call 8; refine (refPlain_any bin b _ (by omega)).mono ?_; rintro e w6 ⟨rfl, hb6⟩; have HS6 := Lib.hid (HS5.out.below hb6); clear hb6) | (go_at_call 18; refine (staysTexts_any _ _ _ L _ _ HS6.out (HV.out.low (Nat.le_refl _) (HS6.out.lowAt 1 rfl)) (by omega)).mono ?_; rintro e w7 ⟨rfl, hb7⟩; have HS7 := Lib.hid (HS6.out.below hb7); clear hb7))
          go_ret
          exact ⟨rfl, HS7.out.lowAt 1 rfl⟩
      · have hd : decide ((40 : Int) < (l.length : Int)) = false := by simp only [decide_eq_false_iff_not]; omega
        rcases hc3 with hc1 | ⟨hc1, hc2⟩
        all_goals
          go_wp2_with (first | (go_at_call 12; refine (joinB_l _ L l _ HLL.out (HV.out.low (Nat.le_refl _) (HS1.out.lowAt 1 rfl)) (by omega) (by omega)).mono ?_; rintro e w2 ⟨rfl, rfl⟩) | (go_at_call 13; refine (option_err _ _ _ hoe).mono ?_; rintro e w2 ⟨rfl, rfl⟩) | (go_at_call 14; refine (sub_l on _ L l _ HLL.out (Rd.cut (HS1.out.rowAt 0 rfl) (fun _ => rfl) rfl) (HG.out.at (HS1.out.lowAt 1 rfl) hpos) (by omega) (by omega) (by omega)).mono ?_; rintro e w2 ⟨rfl, hb2⟩; have HS2 := Lib.hid (HS1.out.below hb2); clear hb2) | (go_at_call 16; refine (refSub_l on l _ (by omega) (by omega)).mono ?_; rintro e w3 ⟨rfl, hb3⟩; have HS3 := Lib.hid (HS2.out.below hb3); clear hb3) | (go_at_call 7; refine (data_l bin _ L l _ HLL.out (Rd.cut (HS3.out.rowAt 0 rfl) (fun _ => rfl) rfl) (HG.out.at (HS3.out.lowAt 1 rfl) hpos) (by omega) (by omega)).mono ?_; rintro e w4 ⟨rfl, hb4⟩; have HS4 := Lib.hid (HS3.out.below hb4); clear hb4) | (go_at_call 17; refine (refData_l bin l _ (by omega)).mono ?_; rintro e w5 ⟨rfl, hb5⟩; have HS5 := Lib.hid (HS4.out.below hb5); clear hb5) | (go_at_call 9; refine (plain_d bin b _ (by omega)).mono ?_; rintro e w6 ⟨rfl, hb6⟩; have HS6 := Lib.hid (HS5.out.below hb6); clear hb6) | (go_at_call 8; refine (refPlain_any bin b _ (by omega)).mono ?_; rintro e w7 ⟨rfl, hb7⟩; have HS7 := Lib.hid (HS6.out.below hb7); clear hb7) | (go_at_call 18; refine (staysTexts_any _ _ _ L _ _ HS7.out (HV.out.low (Nat.le_refl _) (HS7.out.lowAt 1 rfl)) (by omega)).mono ?_; rintro e w8 ⟨rfl, hb8⟩; have HS8 := Lib.hid (HS7.out.below hb8); clear hb8))
          go_ret
          exact ⟨rfl, HS8.out.lowAt 1 rfl⟩
  · have hoe : cmd < 251 ∨ 254 < cmd ∨ o < 0 ∨ 255 < o := by omega
    have hre : o < 0 ∨ 255 < o := by omega
    have hr3 : decide (0 ≤ o) = false ∨ (decide (0 ≤ o) = true ∧ decide (o ≤ 255) = false) := by
      simp only [decide_eq_true_eq, decide_eq_false_iff_not]; omega
    rcases hr3 with hr1 | ⟨hr1, hr2⟩
    all_goals
      go_wp2_with (first | (go_at_call 12; refine (joinB_l _ L l _ HLL.out (HV.out.low (Nat.le_refl _) (HS1.out.lowAt 1 rfl)) (by omega) (by omega)).mono ?_; rintro e w2 ⟨rfl, rfl⟩) | (go_at_call 13; refine (option_err _ _ _ hoe).mono ?_; rintro e w2 ⟨rfl, rfl⟩) | (go_at_call 14; refine (sub_err o _ L _ (Rd.cut (HS1.out.rowAt 0 rfl) (fun _ => rfl) rfl) (by rw [← HLL.out]; omega) (by omega) hre).mono ?_; rintro e w2 ⟨rfl, hb2⟩; have HS2 := Lib.hid (HS1.out.below hb2); clear hb2) | (go_at_call 7; refine (data_l bin _ L l _ HLL.out (Rd.cut (HS2.out.rowAt 0 rfl) (fun _ => rfl) rfl) (HG.out.at (HS2.out.lowAt 1 rfl) hpos) (by omega) (by omega)).mono ?_; rintro e w3 ⟨rfl, hb3⟩; have HS3 := Lib.hid (HS2.out.below hb3); clear hb3) | (go_at_call 17; refine (refData_l bin l _ (by omega)).mono ?_; rintro e w4 ⟨rfl, hb4⟩; have HS4 := Lib.hid (HS3.out.below hb4); clear hb4) | (go_at_call 9; refine (plain_d bin b _ (by omega)).mono ?_; rintro e w5 ⟨rfl, hb5⟩; have HS5 := Lib.hid (HS4.out.below hb5); clear hb5) | (go_at_call 8; refine (refPlain_any bin b _ (by omega)).mono ?_; rintro e w6 ⟨rfl, hb6⟩; have HS6 := Lib.hid (HS5.out.below hb6); clear hb6) | (go_at_call 18; refine (staysTexts_any _ _ _ L _ _ HS6.out (HV.out.low (Nat.le_refl _) (HS6.out.lowAt 1 rfl)) (by omega)).mono ?_; rintro e w7 ⟨rfl, hb7⟩; have HS7 := Lib.hid (HS6.out.below hb7); clear hb7))
      go_ret
      exact ⟨rfl, HS7.out.lowAt 1 rfl⟩
end Go.Proofs.YtemdhbjcdibpfaaDoor.W11
