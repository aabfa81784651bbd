/- a new pact -/
import Derived.Test.YtjlamnioknbcaaaDoorP4
import Derived.Lib.Hide
namespace Go.Proofs.YtjlamnioknbcaaaDoor.P5
set_option linter.unusedVariables false
set_option linter.unusedSimpArgs false
set_option linter.unnecessarySimpa false
set_option maxRecDepth 100000
open Go.RowKit K1 K3 K5 K11 K12 K14 K20 K21 K22 K25 Y1 Y2 Y3 Y4 P1 P2 P3 P4

attribute [local go_sem] cell_pastA froz_pastA
def cut30 (s : ByteArray) : ByteArray := ⟨(s.data.toList.take 30).toArray⟩
def newF (s : ByteArray) (x y : Int) : Pa := newP (cut30 s) (clampI x) (clampI y)
theorem cut_eq (s : ByteArray) : s.extract 0 (min (s.size : Int) 30).toNat = cut30 s := by
  apply ByteArray.ext
  apply Array.ext'
  have h : (min (s.size : Int) 30).toNat = min s.size 30 := by omega
  have hs : s.data.toList.length = s.size := Array.length_toList
  rw [h]
  simp only [cut30, ByteArray.data_extract, Array.toList_extract, List.extract_eq_take_drop, List.drop_zero, Nat.sub_zero]
  rw [← hs]
  by_cases h3 : s.data.toList.length ≤ 30
  · rw [Nat.min_eq_left h3, List.take_of_length_le (Nat.le_refl _), List.take_of_length_le h3]
  · rw [Nat.min_eq_right (by omega)]
theorem cut_le (s : ByteArray) : (cut30 s).size ≤ 281474976710656 := by
  have : (cut30 s).size ≤ 30 := by show ((s.data.toList.take 30).toArray).size ≤ 30; rw [List.size_toArray, List.length_take]; omega
  omega
theorem clone_s (s t : ByteArray) (w : World) (h : s = t) (hl : t.size ≤ 281474976710656) : Calls Tryd.prog 16 #[.string s] w fun e w' => e = .returned (.string t) ∧ Below w.heap.size w w' := by
  subst h
  exact clone_any s w hl
theorem new_cells (s : ByteArray) (x y : Int) : pcells (newP s x y) = (((Tryd.zeroCells68.setIfInBounds 0 (.string s)).setIfInBounds 1 (.int .i64 x)).setIfInBounds 2 (.int .i64 y)).toList := by kernel_rfl
structure NewP (F : List Res) (p : Pa) (e : Ending) (w' : World) : Prop where
  out : ∃ b, e = .returned (.pointer (some ⟨b, 0, none⟩)) ∧ Sep w' (.blk b (pcells p) 68 :: F)
set_option maxHeartbeats 4000000 in
theorem new_any (s : ByteArray) (x y : Int) (F : List Res) (w : World) (hs : Sep w F) (hl : s.size ≤ 1000000) : Calls Tryd.prog 8 #[.string s, .int .i64 x, .int .i64 y] w (NewP F (newF s x y)) := by
  have HS := Lib.hid hs
  clear hs
  go_enter Tryd.func8, Tryd.ntmps8
  go_wp2_with (first | (go_at_call 16; refine (clone_s _ (cut30 s) _ (cut_eq s) (cut_le s)).mono ?_; rintro e w1 ⟨rfl, hb1⟩) | (go_at_call 17; refine (ends_any x y _).mono ?_; rintro e w2 ⟨rfl, hb2⟩))
  go_ret
  exact ⟨⟨_, rfl, ((HS.out.below hb1).below hb2).alloc rfl (new_cells _ _ _)⟩⟩
end Go.Proofs.YtjlamnioknbcaaaDoor.P5
