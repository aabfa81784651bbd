/- a token is taken -/
import Derived.Test.YtjlamnioknbcaaaDoorP7
import Derived.Test.YtjlamnioknbcaaaDoorK24
import Derived.Lib.Hide
namespace Go.Proofs.YtjlamnioknbcaaaDoor.P8
set_option linter.unusedVariables false
set_option linter.unusedSimpArgs false
set_option linter.unnecessarySimpa false
set_option maxRecDepth 100000
open Go.RowKit K1 K3 K5 K11 K12 K14 K20 K21 K22 K25 W0 V1 V3 Y1 Y2 Y3 Y4 P1 P2 P3 P4 P5 P6 P7

attribute [local go_sem] cell_pastA froz_pastA
def optF (p : Pa) (cmd o : Int) : List UInt8 × Pa :=
  if o < 0 ∨ 256 ≤ o then ([], p) else if cmd = 251 then himF p o.toNat true else if cmd = 252 then himF p o.toNat false
  else if cmd = 253 then usF p o.toNat true else if cmd = 254 then usF p o.toNat false else ([], p)
theorem opt_out (b : Nat) (kind cmd o : Int) (text : ByteArray) (w : World) (ho : o < 0 ∨ 256 ≤ o) :
    Calls Tryd.prog 18 #[.pointer (some ⟨b, 0, none⟩), .agg #[.int .i64 kind, .int .i64 cmd, .int .i64 o, .string text]] w fun e w' => e = .returned (.string ⟨#[]⟩) ∧ Below w.heap.size w w' := by
  have hd : decide (o < 0) = true ∨ (decide (o < 0) = false ∧ decide (256 ≤ o) = true) := by simp only [decide_eq_true_eq, decide_eq_false_iff_not]; omega
  clear ho
  rcases hd with d1 | ⟨d1, d2⟩
  all_goals
    go_enter Tryd.func18, Tryd.ntmps18
    go_wp2_with fail
    go_ret
    exact ⟨rfl, (Below.refl _ _).alloc (Nat.le_refl _) _⟩
theorem opt_oth (b : Nat) (kind cmd o : Int) (text : ByteArray) (w : World) (h1 : cmd ≠ 251) (h2 : cmd ≠ 252) (h3 : cmd ≠ 253) (h4 : cmd ≠ 254) (h5 : 0 ≤ o) (h6 : o < 256) :
    Calls Tryd.prog 18 #[.pointer (some ⟨b, 0, none⟩), .agg #[.int .i64 kind, .int .i64 cmd, .int .i64 o, .string text]] w fun e w' => e = .returned (.string ⟨#[]⟩) ∧ Below w.heap.size w w' := by
  have d1 : decide (o < 0) = false := by simp; omega
  have d2 : decide (256 ≤ o) = false := by simp; omega
  have e1 : (cmd == 251) = false := by simpa using h1
  have e2 : (cmd == 252) = false := by simpa using h2
  have e3 : (cmd == 253) = false := by simpa using h3
  have e4 : (cmd == 254) = false := by simpa using h4
  clear h1 h2 h3 h4 h5 h6
  go_enter Tryd.func18, Tryd.ntmps18
  go_wp2_with fail
  go_ret
  exact ⟨rfl, (Below.refl _ _).alloc (Nat.le_refl _) _⟩
/-- the sizes are such that may be -/
structure GoodP (p : Pa) : Prop where
  name : p.name.size ≤ 30
  w : 0 ≤ p.w ∧ p.w ≤ 65535
  h : 0 ≤ p.h ∧ p.h ≤ 65535
  sent : 0 ≤ p.sent
theorem option_all (b : Nat) (p : Pa) (kind cmd o : Int) (text : ByteArray) (F : List Res) (w : World) (hs : Sep w (.blk b (pcells p) 68 :: F)) (hG : ∀ x, Sep x F → Glob x) (hp : GoodP p) (h6 : p.sent ≤ 1000000000) :
    Calls Tryd.prog 18 #[.pointer (some ⟨b, 0, none⟩), .agg #[.int .i64 kind, .int .i64 cmd, .int .i64 o, .string text]] w (OutP F b (optF p cmd o)) := by
  unfold optF
  by_cases ho : o < 0 ∨ 256 ≤ o
  · rw [if_pos ho]
    refine (opt_out b kind cmd o text w ho).mono ?_
    rintro e w1 ⟨rfl, hb⟩
    exact ⟨⟨rfl, hs.below hb⟩⟩
  · rw [if_neg ho]
    obtain ⟨k, rfl⟩ : ∃ k : Nat, o = k := ⟨o.toNat, by omega⟩
    rw [Int.toNat_natCast]
    by_cases c1 : cmd = 251
    · subst c1; rw [if_pos rfl]; exact opt_him251 b p kind text k F w hs (by omega) hp.sent h6
    rw [if_neg c1]
    by_cases c2 : cmd = 252
    · subst c2; rw [if_pos rfl]; exact opt_him252 b p kind text k F w hs (by omega) hp.sent h6
    rw [if_neg c2]
    by_cases c3 : cmd = 253
    · subst c3; rw [if_pos rfl]; exact opt_us253 b p kind text k F w hs hG (by omega) hp.sent h6 hp.w hp.h
    rw [if_neg c3]
    by_cases c4 : cmd = 254
    · subst c4; rw [if_pos rfl]; exact opt_us254 b p kind text k F w hs hG (by omega) hp.sent h6 hp.w hp.h
    rw [if_neg c4]
    refine (opt_oth b kind cmd k text w c1 c2 c3 c4 (by omega) (by omega)).mono ?_
    rintro e w1 ⟨rfl, hb⟩
    exact ⟨⟨rfl, hs.below hb⟩⟩
def nameB (s : ByteArray) : List UInt8 := [[0], s.data.toList].flatten
theorem nameB_len (s : ByteArray) : (nameB s).length = s.size + 1 := by
  unfold nameB
  simp only [List.flatten_cons, List.flatten_nil, List.append_nil, List.length_append, List.length_cons, List.length_nil]
  rw [show s.data.toList.length = s.size from Array.length_toList]; omega
def takeF (p : Pa) (kind cmd o : Int) (text : ByteArray) : List UInt8 × Pa :=
  if kind = 2 then optF p cmd o else if kind = 3 ∧ o = 24 ∧ text.toList = [1] ∧ (p.us 24).1 = 1 then (subB 24 (nameB p.name), p) else ([], p)
theorem take_opt (b : Nat) (p : Pa) (cmd o : Int) (text : ByteArray) (F : List Res) (w : World) (hs : Sep w (.blk b (pcells p) 68 :: F)) (hG : ∀ x, Sep x F → Glob x) (hp : GoodP p) (h6 : p.sent ≤ 1000000000) :
    Calls Tryd.prog 9 #[.pointer (some ⟨b, 0, none⟩), .agg #[.int .i64 2, .int .i64 cmd, .int .i64 o, .string text]] w (OutP F b (optF p cmd o)) := by
  have HS := Lib.hid hs
  have HG := Lib.hid hG
  clear hs hG
  go_enter Tryd.func9, Tryd.ntmps9
  go_wp2_with (go_at_call 18; refine (option_all b p 2 cmd o text F _ HS.out.alloc0 HG.out hp h6).mono ?_; rintro e w1 ⟨⟨rfl, hs1⟩⟩; have HS1 := Lib.hid hs1; clear hs1)
  go_ret
  exact ⟨⟨rfl, HS1.out⟩⟩
set_option maxHeartbeats 8000000 in
theorem take_oth (b : Nat) (p : Pa) (kind cmd o : Int) (text : ByteArray) (F : List Res) (w : World) (hs : Sep w (.blk b (pcells p) 68 :: F)) (hk : kind ≠ 2) (hn : ¬(kind = 3 ∧ o = 24 ∧ text.toList = [1] ∧ (p.us 24).1 = 1)) :
    Calls Tryd.prog 9 #[.pointer (some ⟨b, 0, none⟩), .agg #[.int .i64 kind, .int .i64 cmd, .int .i64 o, .string text]] w (OutP F b ([], p)) := by
  have HS := Lib.hid hs
  obtain ⟨hc, hz, hlt⟩ := at_ hs
  have c1 : w.cell? ⟨b, 51, none⟩ = some (.int .i64 (p.us 24).1) := (hc _).trans (us_s p 24 (by omega))
  have c2 : w.cell? ⟨b, 52, none⟩ = some (.bool (p.us 24).2) := (hc _).trans (us_o p 24 (by omega))
  have k2 : (kind == 2) = false := by simpa using hk
  have hcase : (kind == 3) = false ∨ ((kind == 3) = true ∧ (o == 24) = false) ∨ ((kind == 3) = true ∧ (o == 24) = true ∧ (text.toList == [1]) = false) ∨ ((kind == 3) = true ∧ (o == 24) = true ∧ (text.toList == [1]) = true ∧ ((p.us 24).1 == 1) = false) := by
    by_cases a1 : kind = 3
    · by_cases a2 : o = 24
      · by_cases a3 : text.toList = [1]
        · exact .inr (.inr (.inr ⟨by simp [a1], by simp [a2], by simp [a3], by simpa using fun h => hn ⟨a1, a2, a3, h⟩⟩))
        · exact .inr (.inr (.inl ⟨by simp [a1], by simp [a2], by simpa using a3⟩))
      · exact .inr (.inl ⟨by simp [a1], by simpa using a2⟩)
    · exact .inl (by simpa using a1)
  clear hs hc hz hn hk
  rcases hcase with a1 | ⟨a1, a2⟩ | ⟨a1, a2, a3⟩ | ⟨a1, a2, a3, a4⟩
  all_goals
    go_enter Tryd.func9, Tryd.ntmps9
    go_wp2_with (go_at_call 19; refine (ison_any _ _ _).mono ?_; rintro e w9 ⟨rfl, hb9⟩; have HS9 := Lib.hid (HS.out.alloc0.below hb9); clear hb9)
    go_ret
    first | exact ⟨⟨rfl, HS.out.alloc0⟩⟩ | exact ⟨⟨rfl, HS9.out⟩⟩
theorem rd2n {w : World} {b : Nat} {s : ByteArray} {t : TypeId} (h : w.heap[b]? = some (.cells #[.string ⟨#[0]⟩, .string s] t (0, 0))) : Rd 1 strE w (.slice (some ⟨b, 0, none⟩) 2 2) [[0], s.data.toList] := by
  refine rd2 (t := t) ?_
  rw [h, K24.arr_eta]
set_option maxHeartbeats 8000000 in
theorem take_name (b : Nat) (p : Pa) (cmd : Int) (text : ByteArray) (ht : text.toList = [1]) (F : List Res) (w : World) (hs : Sep w (.blk b (pcells p) 68 :: F)) (hG : ∀ x, Sep x F → Glob x) (hp : GoodP p) (hn : (p.us 24).1 = 1) :
    Calls Tryd.prog 9 #[.pointer (some ⟨b, 0, none⟩), .agg #[.int .i64 3, .int .i64 cmd, .int .i64 24, .string text]] w (OutP F b (subB 24 (nameB p.name), p)) := by
  have HS := Lib.hid hs
  have HG := Lib.hid hG
  obtain ⟨hc, hz, hlt⟩ := at_ hs
  have c0 := (hc 0).trans (lies p).name
  have c1 : w.cell? ⟨b, 51, none⟩ = some (.int .i64 (p.us 24).1) := (hc _).trans (us_s p 24 (by omega))
  have c2 : w.cell? ⟨b, 52, none⟩ = some (.bool (p.us 24).2) := (hc _).trans (us_o p 24 (by omega))
  have a4 : ((p.us 24).1 == 1) = true := by simpa using hn
  have a3 : (text.toList == [1]) = true := by simpa using ht
  clear ht
  have hl : (nameB p.name).length ≤ 40 := by rw [nameB_len]; have := hp.name; omega
  clear hs hc hz hn hG
  go_enter Tryd.func9, Tryd.ntmps9
  go_wp2_with (first | (go_at_call 19; refine (ison_any _ _ _).mono ?_; rintro e w9 ⟨rfl, hb9⟩; have hs9 := HS.out.alloc0.below hb9; have HS9 := Lib.hid hs9; have c9 := ((at_ hs9).1 0).trans (lies p).name; have hl9 := (at_ hs9).2.2; clear hb9 hs9) | (go_at_call 20; refine (sub_l 24 _ [[0], p.name.data.toList] (nameB p.name) _ rfl (rd2n (t := 9) (blk_new rfl)) (HG.out _ HS9.out.alloc0.tail) hl (by simp) (by decide)).mono ?_; rintro e w10 ⟨rfl, hb10⟩; have HS10 := Lib.hid (HS9.out.alloc0.below hb10); clear hb10))
  go_ret
  exact ⟨⟨rfl, HS10.out⟩⟩
theorem take_any (b : Nat) (p : Pa) (kind cmd o : Int) (text : ByteArray) (F : List Res) (w : World) (hs : Sep w (.blk b (pcells p) 68 :: F)) (hG : ∀ x, Sep x F → Glob x) (hp : GoodP p) (h6 : p.sent ≤ 1000000000) :
    Calls Tryd.prog 9 #[.pointer (some ⟨b, 0, none⟩), .agg #[.int .i64 kind, .int .i64 cmd, .int .i64 o, .string text]] w (OutP F b (takeF p kind cmd o text)) := by
  unfold takeF
  by_cases h2 : kind = 2
  · subst h2; rw [if_pos rfl]; exact take_opt b p cmd o text F w hs hG hp h6
  rw [if_neg h2]
  by_cases h3 : kind = 3 ∧ o = 24 ∧ text.toList = [1] ∧ (p.us 24).1 = 1
  · rw [if_pos h3]
    obtain ⟨rfl, rfl, h3, h4⟩ := h3
    exact take_name b p cmd text h3 F w hs hG hp h4
  · rw [if_neg h3]
    exact take_oth b p kind cmd o text F w hs h2 h3
end Go.Proofs.YtjlamnioknbcaaaDoor.P8
