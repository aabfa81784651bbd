/- contracts of chart's Map, Known, New, wide, Next -/
import Derived.Test.YtgbnpdgaalpkcaaK1
import Derived.Test.YtgbnpdgaalpkcaaK3
import Derived.Test.YtgbnpdgaalpkcaaProg
namespace Go.Proofs.Ytgbnpdgaalpkcaa.M1
set_option linter.unusedVariables false
set_option linter.unusedSimpArgs false
open Go.RowKit K1 K3
attribute [local go_sem] cell_pastA froz_pastA

theorem known_any (s : Int) (w : World) :
    Calls Try.prog 24 #[.int .u8 s] w fun e w' => e = .returned (.bool (s == 66 || s == 65 || s == 48)) ∧ w = w' := by
  go_enter Try.func24, Try.ntmps24
  go_wp2
  all_goals
    go_ret
    exact ⟨by simp_all, rfl⟩
theorem rknown_any (s : Int) (w : World) :
    Calls Try.prog 25 #[.int .u8 s] w fun e w' => e = .returned (.bool (s == 66 || s == 65 || s == 48)) ∧ w = w' := by
  go_enter Try.func25, Try.ntmps25
  go_wp2
  all_goals
    go_ret
    exact ⟨by simp_all, rfl⟩
/-- the runes of lines, from the backquote on -/
def lineRunes : List Int := [0x25c6, 0x2592, 0x2409, 0x240c, 0x240d, 0x240a, 0xb0, 0xb1, 0x2424, 0x240b, 0x2518, 0x2510, 0x250c, 0x2514, 0x253c,
    0x23ba, 0x23bb, 0x2500, 0x23bc, 0x23bd, 0x251c, 0x2524, 0x2534, 0x252c, 0x2502, 0x2264, 0x2265, 0x3c0, 0x2260, 0xa3, 0xb7]
def lineVals : Array Value := (lineRunes.map (Value.int .i32)).toArray
theorem ix0 (w : World) : (Instr.index 106 (.agg lineVals) (.int .i32 0)).run Try.prog w = .ok (.int .i32 (lineRunes.getD 0 0)) w := by kernel_rfl
theorem ix1 (w : World) : (Instr.index 106 (.agg lineVals) (.int .i32 1)).run Try.prog w = .ok (.int .i32 (lineRunes.getD 1 0)) w := by kernel_rfl
theorem ix2 (w : World) : (Instr.index 106 (.agg lineVals) (.int .i32 2)).run Try.prog w = .ok (.int .i32 (lineRunes.getD 2 0)) w := by kernel_rfl
theorem ix3 (w : World) : (Instr.index 106 (.agg lineVals) (.int .i32 3)).run Try.prog w = .ok (.int .i32 (lineRunes.getD 3 0)) w := by kernel_rfl
theorem ix4 (w : World) : (Instr.index 106 (.agg lineVals) (.int .i32 4)).run Try.prog w = .ok (.int .i32 (lineRunes.getD 4 0)) w := by kernel_rfl
theorem ix5 (w : World) : (Instr.index 106 (.agg lineVals) (.int .i32 5)).run Try.prog w = .ok (.int .i32 (lineRunes.getD 5 0)) w := by kernel_rfl
theorem ix6 (w : World) : (Instr.index 106 (.agg lineVals) (.int .i32 6)).run Try.prog w = .ok (.int .i32 (lineRunes.getD 6 0)) w := by kernel_rfl
theorem ix7 (w : World) : (Instr.index 106 (.agg lineVals) (.int .i32 7)).run Try.prog w = .ok (.int .i32 (lineRunes.getD 7 0)) w := by kernel_rfl
theorem ix8 (w : World) : (Instr.index 106 (.agg lineVals) (.int .i32 8)).run Try.prog w = .ok (.int .i32 (lineRunes.getD 8 0)) w := by kernel_rfl
theorem ix9 (w : World) : (Instr.index 106 (.agg lineVals) (.int .i32 9)).run Try.prog w = .ok (.int .i32 (lineRunes.getD 9 0)) w := by kernel_rfl
theorem ix10 (w : World) : (Instr.index 106 (.agg lineVals) (.int .i32 10)).run Try.prog w = .ok (.int .i32 (lineRunes.getD 10 0)) w := by kernel_rfl
theorem ix11 (w : World) : (Instr.index 106 (.agg lineVals) (.int .i32 11)).run Try.prog w = .ok (.int .i32 (lineRunes.getD 11 0)) w := by kernel_rfl
theorem ix12 (w : World) : (Instr.index 106 (.agg lineVals) (.int .i32 12)).run Try.prog w = .ok (.int .i32 (lineRunes.getD 12 0)) w := by kernel_rfl
theorem ix13 (w : World) : (Instr.index 106 (.agg lineVals) (.int .i32 13)).run Try.prog w = .ok (.int .i32 (lineRunes.getD 13 0)) w := by kernel_rfl
theorem ix14 (w : World) : (Instr.index 106 (.agg lineVals) (.int .i32 14)).run Try.prog w = .ok (.int .i32 (lineRunes.getD 14 0)) w := by kernel_rfl
theorem ix15 (w : World) : (Instr.index 106 (.agg lineVals) (.int .i32 15)).run Try.prog w = .ok (.int .i32 (lineRunes.getD 15 0)) w := by kernel_rfl
theorem ix16 (w : World) : (Instr.index 106 (.agg lineVals) (.int .i32 16)).run Try.prog w = .ok (.int .i32 (lineRunes.getD 16 0)) w := by kernel_rfl
theorem ix17 (w : World) : (Instr.index 106 (.agg lineVals) (.int .i32 17)).run Try.prog w = .ok (.int .i32 (lineRunes.getD 17 0)) w := by kernel_rfl
theorem ix18 (w : World) : (Instr.index 106 (.agg lineVals) (.int .i32 18)).run Try.prog w = .ok (.int .i32 (lineRunes.getD 18 0)) w := by kernel_rfl
theorem ix19 (w : World) : (Instr.index 106 (.agg lineVals) (.int .i32 19)).run Try.prog w = .ok (.int .i32 (lineRunes.getD 19 0)) w := by kernel_rfl
theorem ix20 (w : World) : (Instr.index 106 (.agg lineVals) (.int .i32 20)).run Try.prog w = .ok (.int .i32 (lineRunes.getD 20 0)) w := by kernel_rfl
theorem ix21 (w : World) : (Instr.index 106 (.agg lineVals) (.int .i32 21)).run Try.prog w = .ok (.int .i32 (lineRunes.getD 21 0)) w := by kernel_rfl
theorem ix22 (w : World) : (Instr.index 106 (.agg lineVals) (.int .i32 22)).run Try.prog w = .ok (.int .i32 (lineRunes.getD 22 0)) w := by kernel_rfl
theorem ix23 (w : World) : (Instr.index 106 (.agg lineVals) (.int .i32 23)).run Try.prog w = .ok (.int .i32 (lineRunes.getD 23 0)) w := by kernel_rfl
theorem ix24 (w : World) : (Instr.index 106 (.agg lineVals) (.int .i32 24)).run Try.prog w = .ok (.int .i32 (lineRunes.getD 24 0)) w := by kernel_rfl
theorem ix25 (w : World) : (Instr.index 106 (.agg lineVals) (.int .i32 25)).run Try.prog w = .ok (.int .i32 (lineRunes.getD 25 0)) w := by kernel_rfl
theorem ix26 (w : World) : (Instr.index 106 (.agg lineVals) (.int .i32 26)).run Try.prog w = .ok (.int .i32 (lineRunes.getD 26 0)) w := by kernel_rfl
theorem ix27 (w : World) : (Instr.index 106 (.agg lineVals) (.int .i32 27)).run Try.prog w = .ok (.int .i32 (lineRunes.getD 27 0)) w := by kernel_rfl
theorem ix28 (w : World) : (Instr.index 106 (.agg lineVals) (.int .i32 28)).run Try.prog w = .ok (.int .i32 (lineRunes.getD 28 0)) w := by kernel_rfl
theorem ix29 (w : World) : (Instr.index 106 (.agg lineVals) (.int .i32 29)).run Try.prog w = .ok (.int .i32 (lineRunes.getD 29 0)) w := by kernel_rfl
theorem ix30 (w : World) : (Instr.index 106 (.agg lineVals) (.int .i32 30)).run Try.prog w = .ok (.int .i32 (lineRunes.getD 30 0)) w := by kernel_rfl
theorem index_lines (k : Nat) (hk : k < 31) (w : World) : (Instr.index 106 (.agg lineVals) (.int .i32 (k : Int))).run Try.prog w = .ok (.int .i32 (lineRunes.getD k 0)) w := by
  have h : k = 0 ∨ k = 1 ∨ k = 2 ∨ k = 3 ∨ k = 4 ∨ k = 5 ∨ k = 6 ∨ k = 7 ∨ k = 8 ∨ k = 9 ∨ k = 10 ∨ k = 11 ∨ k = 12 ∨ k = 13 ∨ k = 14 ∨ k = 15 ∨ k = 16 ∨ k = 17 ∨ k = 18 ∨ k = 19 ∨ k = 20 ∨ k = 21 ∨ k = 22 ∨ k = 23 ∨ k = 24 ∨ k = 25 ∨ k = 26 ∨ k = 27 ∨ k = 28 ∨ k = 29 ∨ k = 30 := by omega
  rcases h with rfl | rfl | rfl | rfl | rfl | rfl | rfl | rfl | rfl | rfl | rfl | rfl | rfl | rfl | rfl | rfl | rfl | rfl | rfl | rfl | rfl | rfl | rfl | rfl | rfl | rfl | rfl | rfl | rfl | rfl | rfl
  · exact ix0 w
  · exact ix1 w
  · exact ix2 w
  · exact ix3 w
  · exact ix4 w
  · exact ix5 w
  · exact ix6 w
  · exact ix7 w
  · exact ix8 w
  · exact ix9 w
  · exact ix10 w
  · exact ix11 w
  · exact ix12 w
  · exact ix13 w
  · exact ix14 w
  · exact ix15 w
  · exact ix16 w
  · exact ix17 w
  · exact ix18 w
  · exact ix19 w
  · exact ix20 w
  · exact ix21 w
  · exact ix22 w
  · exact ix23 w
  · exact ix24 w
  · exact ix25 w
  · exact ix26 w
  · exact ix27 w
  · exact ix28 w
  · exact ix29 w
  · exact ix30 w
def mapF (s r : Int) : Int := if s = 65 ∧ r = 35 then 163 else if s = 48 ∧ r = 95 then 32 else if s = 48 ∧ 96 ≤ r ∧ r ≤ 126 then lineRunes.getD (r - 96).toNat 0 else r
set_option maxRecDepth 100000 in
theorem lines_any (w : World) :
    Calls Try.prog 51 #[] w fun e w' => e = .returned (.agg lineVals) ∧ Below w.heap.size w w' := by
  go_enter Try.func51, Try.ntmps51
  go_wp2_with (first | (refine wpList_build rfl 106 _ rfl (by kernel_rfl) ?_; go_outline; refine wpList_store_row rfl 106 _ _ rfl w.heap.size lineVals (by kernel_rfl) (by kernel_rfl) 106 _ (heap_alloc_new _ _) (by kernel_rfl) (by kernel_rfl) (by kernel_rfl) ?_))
  have hg := setRow_heap (w.alloc (Obj.cells (Array.replicate 31 (Value.int .i32 0)) 106)) w.heap.size _ lineVals 106 (0, 0) (heap_alloc_new _ _)
  refine bodyPost_ret (results_cell_row rfl _ _ w.heap.size 106 lineVals (0, 0) _ rfl hg Try.underlying106 rfl (by kernel_rfl)) rfl ⟨rfl, ?_⟩
  exact below_setRow ((Below.refl _ _).alloc (Nat.le_refl _) _) (Nat.le_refl _) _
set_option maxRecDepth 100000 in
theorem map_in (r : Int) (w : World) (h1 : 96 ≤ r) (h2 : r ≤ 126) :
    Calls Try.prog 22 #[.int .u8 48, .int .i32 r] w fun e w' => e = .returned (.int .i32 (mapF 48 r)) ∧ Below w.heap.size w w' := by
  have h5 : ¬ r = 95 := by omega
  have h6 : ¬ r = 35 := by omega
  obtain ⟨k, rfl⟩ : ∃ k : Nat, r = (k : Int) + 96 := ⟨(r - 96).toNat, by omega⟩
  have hi := fun W => index_lines k (by omega) W
  have hm : mapF 48 ((k : Int) + 96) = lineRunes.getD k 0 := by
    unfold mapF
    rw [if_neg (by omega), if_neg (by omega), if_pos (by omega)]
    congr 1
    omega
  rw [hm]
  clear hm
  go_enter Try.func22, Try.ntmps22
  go_wp2_with (first | (go_at_call 51; refine (lines_any _).mono ?_; rintro e w1 ⟨rfl, hb1⟩))
  go_ret
  exact ⟨rfl, hb1⟩
set_option maxHeartbeats 4000000 in
set_option maxRecDepth 100000 in
theorem map_any (s r : Int) (w : World) :
    Calls Try.prog 22 #[.int .u8 s, .int .i32 r] w fun e w' => e = .returned (.int .i32 (mapF s r)) ∧ Below w.heap.size w w' := by
  by_cases h2 : s = 48
  · subst h2
    by_cases h3 : 96 ≤ r ∧ r ≤ 126
    · exact map_in r w h3.1 h3.2
    · have hm : mapF 48 r = if r = 95 then 32 else r := by
        unfold mapF
        rw [if_neg (by omega)]
        by_cases h : r = 95
        · rw [if_pos ⟨rfl, h⟩, if_pos h]
        · rw [if_neg (by omega), if_neg (by omega), if_neg h]
      rw [hm]
      clear hm
      by_cases h : r = 95
      · subst h
        go_enter Try.func22, Try.ntmps22
        go_wp2_with fail
        go_ret
        exact ⟨rfl, Below.refl _ _⟩
      · have hb : (r == 95) = false := by simpa using h
        rw [if_neg h]
        by_cases h4 : 96 ≤ r
        · have h5 : ¬ r ≤ 126 := fun h5 => h3 ⟨h4, h5⟩
          have h6 : decide (r ≤ 126) = false := by simpa using h5
          go_enter Try.func22, Try.ntmps22
          go_wp2_with fail
          go_ret
          exact ⟨rfl, Below.refl _ _⟩
        · have h6 : decide (96 ≤ r) = false := by simpa using h4
          go_enter Try.func22, Try.ntmps22
          go_wp2_with fail
          go_ret
          exact ⟨rfl, Below.refl _ _⟩
  · have hs : (s == 48) = false := by simpa using h2
    have hm : mapF s r = if s = 65 ∧ r = 35 then 163 else r := by
      unfold mapF
      by_cases h : s = 65 ∧ r = 35
      · rw [if_pos h, if_pos h]
      · rw [if_neg h, if_neg h, if_neg (by omega), if_neg (by omega)]
    rw [hm]
    clear hm
    by_cases h : s = 65
    · subst h
      go_enter Try.func22, Try.ntmps22
      go_wp2_with fail
      all_goals
        go_ret
        exact ⟨by simp_all, Below.refl _ _⟩
    · have hb : (s == 65) = false := by simpa using h
      go_enter Try.func22, Try.ntmps22
      go_wp2_with fail
      go_ret
      exact ⟨by simp [h], Below.refl _ _⟩
end Go.Proofs.Ytgbnpdgaalpkcaa.M1
