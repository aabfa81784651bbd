/- the first call of all laws -/
import Derived.Test.YtjlamnioknbcaaaDoorP10
import Derived.Lib.Hide
namespace Go.Proofs.YtjlamnioknbcaaaDoor.Q1
set_option linter.unusedVariables false
set_option linter.unusedSimpArgs false
set_option linter.unnecessarySimpa false
set_option maxRecDepth 100000
open Go.RowKit K1 K3 K5 K11 K12 K14 K20 K21 K22 K25 W0 V1 V2 V3 Y1 Y2 Y3 Y4 P1 P2 P3 P4 P5 P6 P7 P8 P9 P10

attribute [local go_sem] cell_pastA froz_pastA
theorem good_new (s : ByteArray) (x y : Int) : GoodP (newF s x y) := ⟨by show (cut30 s).size ≤ 30; show ((s.data.toList.take 30).toArray).size ≤ 30; rw [List.size_toArray, List.length_take]; omega, clamp_le x, clamp_le y, Int.le_refl _⟩
theorem good_say {p : Pa} (h : GoodP p) (o : Nat) (what : Int) (on off : Nat) : GoodP (sayF p o what on off).2 := by
  obtain ⟨k1, k2⟩ := sayF_keeps p o what on off
  refine ⟨?_, by rw [k1]; exact h.w, by rw [k2]; exact h.h, Int.le_trans h.sent (sayF_sent p o what on off).1⟩
  unfold sayF; split <;> exact h.name
theorem good_start {p : Pa} (h : GoodP p) : GoodP (startF p).2 ∧ (startF p).2.sent ≤ p.sent + 2 ∧ p.sent ≤ (startF p).2.sent := by
  unfold startF
  split
  · exact ⟨h, by show p.sent ≤ _; omega, Int.le_refl _⟩
  · have h1 : GoodP (asked p) := ⟨h.name, h.w, h.h, h.sent⟩
    have e : (asked p).sent = p.sent := rfl
    have s1 := sayF_sent (asked p) 31 (askF (p.us 31).1 (p.us 31).2 true).2 251 252
    have s2 := sayF_sent (sayF (asked p) 31 (askF (p.us 31).1 (p.us 31).2 true).2 251 252).2 3 (askF (p.him 3).1 (p.him 3).2 true).2 253 254
    refine ⟨good_say (good_say h1 _ _ _ _) _ _ _ _, ?_, ?_⟩
    · show (sayF (sayF (asked p) 31 _ 251 252).2 3 _ 253 254).2.sent ≤ _; omega
    · show p.sent ≤ (sayF (sayF (asked p) 31 _ 251 252).2 3 _ 253 254).2.sent; omega
theorem good_tell {p : Pa} (h : GoodP p) : GoodP (tellF p).2 ∧ (tellF p).2.sent = p.sent := ⟨⟨h.name, h.w, h.h, h.sent⟩, rfl⟩
theorem good_him {p : Pa} (h : GoodP p) (o : Nat) (on : Bool) : GoodP (himF p o on).2 ∧ (himF p o on).2.sent ≤ p.sent + 1 ∧ p.sent ≤ (himF p o on).2.sent :=
  ⟨good_say (p := { p with him := upS p.him o (heardF (p.him o).1 (p.him o).2 on (hisB o)).1 }) ⟨h.name, h.w, h.h, h.sent⟩ _ _ _ _, (sayF_sent { p with him := upS p.him o (heardF (p.him o).1 (p.him o).2 on (hisB o)).1 } _ _ _ _).2, (sayF_sent { p with him := upS p.him o (heardF (p.him o).1 (p.him o).2 on (hisB o)).1 } _ _ _ _).1⟩
theorem good_us {p : Pa} (h : GoodP p) (o : Nat) (on : Bool) : GoodP (usF p o on).2 ∧ (usF p o on).2.sent ≤ p.sent + 1 ∧ p.sent ≤ (usF p o on).2.sent := by
  have h1 : GoodP (usS p o on).2 := good_say (p := { p with us := upS p.us o (usH p o on).1 }) ⟨h.name, h.w, h.h, h.sent⟩ _ _ _ _
  have h2 : (usS p o on).2.sent ≤ p.sent + 1 := (sayF_sent { p with us := upS p.us o (usH p o on).1 } _ _ _ _).2
  have h3 : p.sent ≤ (usS p o on).2.sent := (sayF_sent { p with us := upS p.us o (usH p o on).1 } _ _ _ _).1
  unfold usF
  split
  · exact ⟨(good_tell h1).1, h2, h3⟩
  · exact ⟨h1, h2, h3⟩
theorem good_opt {p : Pa} (h : GoodP p) (cmd o : Int) : GoodP (optF p cmd o).2 ∧ (optF p cmd o).2.sent ≤ p.sent + 1 ∧ p.sent ≤ (optF p cmd o).2.sent := by
  have h0 : GoodP (([] : List UInt8), p).2 ∧ (([] : List UInt8), p).2.sent ≤ p.sent + 1 ∧ p.sent ≤ (([] : List UInt8), p).2.sent := ⟨h, by show p.sent ≤ p.sent + 1; omega, Int.le_refl _⟩
  unfold optF
  split
  · exact h0
  · split
    · exact good_him h _ _
    · split
      · exact good_him h _ _
      · split
        · exact good_us h _ _
        · split
          · exact good_us h _ _
          · exact h0
theorem good_take {p : Pa} (h : GoodP p) (kind cmd o : Int) (text : ByteArray) : GoodP (takeF p kind cmd o text).2 ∧ (takeF p kind cmd o text).2.sent ≤ p.sent + 1 ∧ p.sent ≤ (takeF p kind cmd o text).2.sent := by
  have h0 : p.sent ≤ p.sent + 1 := by omega
  unfold takeF
  split
  · exact good_opt h _ _
  · split
    · exact ⟨h, h0, Int.le_refl _⟩
    · exact ⟨h, h0, Int.le_refl _⟩
theorem good_size {p : Pa} (h : GoodP p) (x y : Int) : GoodP (sizeF p x y).2 ∧ (sizeF p x y).2.sent = p.sent := by
  have h1 : GoodP (nowF p x y) := ⟨h.name, clamp_le x, clamp_le y, h.sent⟩
  unfold sizeF
  split
  · exact ⟨h1, rfl⟩
  · exact ⟨(good_tell h1).1, rfl⟩
set_option maxHeartbeats 4000000 in
theorem alive_any (w : World) (hg : Glob w) : Calls Tryd.prog 7 #[] w fun e w' => e = .returned (.bool true) ∧ Below w.heap.size w w' := by
  have HG := Lib.hid hg
  have hpos : 0 < w.heap.size := by obtain ⟨m, h⟩ := hg; exact World.block_lt_of_cell? w _ h
  have HS0 := Lib.hid (Sep.start w)
  have G0 := Lib.hid (good_new ⟨#[118, 116, 49, 48, 48]⟩ 10 4)
  have G1 := Lib.hid (good_start G0.out)
  clear hg
  go_enter Tryd.func7, Tryd.ntmps7
  go_wp2_with (first | (go_at_call 8; refine (new_any ⟨#[118, 116, 49, 48, 48]⟩ 10 4 _ _ HS0.out (by decide)).mono ?_; rintro e w1 ⟨⟨b, rfl, hs1⟩⟩; have HS1 := Lib.hid hs1; clear hs1) | (go_at_call 13; refine (start_yes b (newF ⟨#[118, 116, 49, 48, 48]⟩ 10 4) _ _ HS1.out rfl (by decide) (by decide)).mono ?_; rintro e w2 ⟨⟨he2, hs2⟩⟩; have he2 : e = .returned (.string ⟨#[255, 251, 31, 255, 253, 3]⟩) := he2.trans (by kernel_rfl); subst he2; have HS2 := Lib.hid hs2; clear hs2) | (go_at_call 9; refine (take_any b (startF (newF ⟨#[118, 116, 49, 48, 48]⟩ 10 4)).2 2 253 99 _ _ _ HS2.out (fun x hx => HG.out.at (hx.lowAt 0 rfl) hpos) G1.out.1 (by have := G1.out.2.1; have e : (newF ⟨#[118, 116, 49, 48, 48]⟩ 10 4).sent = 0 := rfl; omega)).mono ?_; rintro e w3 ⟨⟨he3, hs3⟩⟩; have he3 : e = .returned (.string ⟨#[255, 252, 99]⟩) := he3.trans (by kernel_rfl); subst he3; have HS3 := Lib.hid hs3; clear hs3) | (go_at_call 12; refine (sent_any b _ _ _ HS3.out).mono ?_; rintro e w4 ⟨he4, rfl⟩; have he4 : e = .returned (.int .i64 (3)) := he4.trans (by kernel_rfl); subst he4))
  go_ret
  exact ⟨rfl, HS3.out.lowAt 1 rfl⟩
end Go.Proofs.YtjlamnioknbcaaaDoor.Q1
