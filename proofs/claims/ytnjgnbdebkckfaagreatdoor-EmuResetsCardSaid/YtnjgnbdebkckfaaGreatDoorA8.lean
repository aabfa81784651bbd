/- S1, S2 -/
import Derived.Test.YtnjgnbdebkckfaaGreatDoorA1
import Derived.Test.YtnjgnbdebkckfaaGreatDoorProg
import Derived.Lib.Hide
import Derived.Laws.Tables
set_option linter.unusedVariables false
set_option linter.unusedSimpArgs false
set_option linter.unnecessarySimpa false
namespace Go.Proofs.YtnjgnbdebkckfaaGreatDoor.S1
open Go.RowKit K1 K3
attribute [local go_sem] cell_pastA froz_pastA
theorem known_any (s : Int) (w : World) :
    Calls Tryz.prog 107 #[.int .u8 s] w fun e w' => e = .returned (.bool (s == 66 || s == 65 || s == 48)) ∧ w = w' := by
  go_enter Tryz.func107, Tryz.ntmps107
  go_wp2
  all_goals
    go_ret
    exact ⟨by simp_all, rfl⟩
def lineRunes : List Int := [0x25c6, 0x2592, 0x2409, 0x240c, 0x240d, 0x240a, 0xb0, 0xb1, 0x2424, 0x240b, 0x2518, 0x2510, 0x250c, 0x2514, 0x253c,
    0x23ba, 0x23bb, 0x2500, 0x23bc, 0x23bd, 0x251c, 0x2524, 0x2534, 0x252c, 0x2502, 0x2264, 0x2265, 0x3c0, 0x2260, 0xa3, 0xb7]
def lineVals : Array Value := (lineRunes.map (Value.int .i32)).toArray
theorem ix0 (w : World) : (Instr.index 153 (.agg lineVals) (.int .i32 0)).run Tryz.prog w = .ok (.int .i32 (lineRunes.getD 0 0)) w := by kernel_rfl
theorem ix1 (w : World) : (Instr.index 153 (.agg lineVals) (.int .i32 1)).run Tryz.prog w = .ok (.int .i32 (lineRunes.getD 1 0)) w := by kernel_rfl
theorem ix2 (w : World) : (Instr.index 153 (.agg lineVals) (.int .i32 2)).run Tryz.prog w = .ok (.int .i32 (lineRunes.getD 2 0)) w := by kernel_rfl
theorem ix3 (w : World) : (Instr.index 153 (.agg lineVals) (.int .i32 3)).run Tryz.prog w = .ok (.int .i32 (lineRunes.getD 3 0)) w := by kernel_rfl
theorem ix4 (w : World) : (Instr.index 153 (.agg lineVals) (.int .i32 4)).run Tryz.prog w = .ok (.int .i32 (lineRunes.getD 4 0)) w := by kernel_rfl
theorem ix5 (w : World) : (Instr.index 153 (.agg lineVals) (.int .i32 5)).run Tryz.prog w = .ok (.int .i32 (lineRunes.getD 5 0)) w := by kernel_rfl
theorem ix6 (w : World) : (Instr.index 153 (.agg lineVals) (.int .i32 6)).run Tryz.prog w = .ok (.int .i32 (lineRunes.getD 6 0)) w := by kernel_rfl
theorem ix7 (w : World) : (Instr.index 153 (.agg lineVals) (.int .i32 7)).run Tryz.prog w = .ok (.int .i32 (lineRunes.getD 7 0)) w := by kernel_rfl
theorem ix8 (w : World) : (Instr.index 153 (.agg lineVals) (.int .i32 8)).run Tryz.prog w = .ok (.int .i32 (lineRunes.getD 8 0)) w := by kernel_rfl
theorem ix9 (w : World) : (Instr.index 153 (.agg lineVals) (.int .i32 9)).run Tryz.prog w = .ok (.int .i32 (lineRunes.getD 9 0)) w := by kernel_rfl
theorem ix10 (w : World) : (Instr.index 153 (.agg lineVals) (.int .i32 10)).run Tryz.prog w = .ok (.int .i32 (lineRunes.getD 10 0)) w := by kernel_rfl
theorem ix11 (w : World) : (Instr.index 153 (.agg lineVals) (.int .i32 11)).run Tryz.prog w = .ok (.int .i32 (lineRunes.getD 11 0)) w := by kernel_rfl
theorem ix12 (w : World) : (Instr.index 153 (.agg lineVals) (.int .i32 12)).run Tryz.prog w = .ok (.int .i32 (lineRunes.getD 12 0)) w := by kernel_rfl
theorem ix13 (w : World) : (Instr.index 153 (.agg lineVals) (.int .i32 13)).run Tryz.prog w = .ok (.int .i32 (lineRunes.getD 13 0)) w := by kernel_rfl
theorem ix14 (w : World) : (Instr.index 153 (.agg lineVals) (.int .i32 14)).run Tryz.prog w = .ok (.int .i32 (lineRunes.getD 14 0)) w := by kernel_rfl
theorem ix15 (w : World) : (Instr.index 153 (.agg lineVals) (.int .i32 15)).run Tryz.prog w = .ok (.int .i32 (lineRunes.getD 15 0)) w := by kernel_rfl
theorem ix16 (w : World) : (Instr.index 153 (.agg lineVals) (.int .i32 16)).run Tryz.prog w = .ok (.int .i32 (lineRunes.getD 16 0)) w := by kernel_rfl
theorem ix17 (w : World) : (Instr.index 153 (.agg lineVals) (.int .i32 17)).run Tryz.prog w = .ok (.int .i32 (lineRunes.getD 17 0)) w := by kernel_rfl
theorem ix18 (w : World) : (Instr.index 153 (.agg lineVals) (.int .i32 18)).run Tryz.prog w = .ok (.int .i32 (lineRunes.getD 18 0)) w := by kernel_rfl
theorem ix19 (w : World) : (Instr.index 153 (.agg lineVals) (.int .i32 19)).run Tryz.prog w = .ok (.int .i32 (lineRunes.getD 19 0)) w := by kernel_rfl
theorem ix20 (w : World) : (Instr.index 153 (.agg lineVals) (.int .i32 20)).run Tryz.prog w = .ok (.int .i32 (lineRunes.getD 20 0)) w := by kernel_rfl
theorem ix21 (w : World) : (Instr.index 153 (.agg lineVals) (.int .i32 21)).run Tryz.prog w = .ok (.int .i32 (lineRunes.getD 21 0)) w := by kernel_rfl
theorem ix22 (w : World) : (Instr.index 153 (.agg lineVals) (.int .i32 22)).run Tryz.prog w = .ok (.int .i32 (lineRunes.getD 22 0)) w := by kernel_rfl
theorem ix23 (w : World) : (Instr.index 153 (.agg lineVals) (.int .i32 23)).run Tryz.prog w = .ok (.int .i32 (lineRunes.getD 23 0)) w := by kernel_rfl
theorem ix24 (w : World) : (Instr.index 153 (.agg lineVals) (.int .i32 24)).run Tryz.prog w = .ok (.int .i32 (lineRunes.getD 24 0)) w := by kernel_rfl
theorem ix25 (w : World) : (Instr.index 153 (.agg lineVals) (.int .i32 25)).run Tryz.prog w = .ok (.int .i32 (lineRunes.getD 25 0)) w := by kernel_rfl
theorem ix26 (w : World) : (Instr.index 153 (.agg lineVals) (.int .i32 26)).run Tryz.prog w = .ok (.int .i32 (lineRunes.getD 26 0)) w := by kernel_rfl
theorem ix27 (w : World) : (Instr.index 153 (.agg lineVals) (.int .i32 27)).run Tryz.prog w = .ok (.int .i32 (lineRunes.getD 27 0)) w := by kernel_rfl
theorem ix28 (w : World) : (Instr.index 153 (.agg lineVals) (.int .i32 28)).run Tryz.prog w = .ok (.int .i32 (lineRunes.getD 28 0)) w := by kernel_rfl
theorem ix29 (w : World) : (Instr.index 153 (.agg lineVals) (.int .i32 29)).run Tryz.prog w = .ok (.int .i32 (lineRunes.getD 29 0)) w := by kernel_rfl
theorem ix30 (w : World) : (Instr.index 153 (.agg lineVals) (.int .i32 30)).run Tryz.prog w = .ok (.int .i32 (lineRunes.getD 30 0)) w := by kernel_rfl
theorem index_lines (k : Nat) (hk : k < 31) (w : World) : (Instr.index 153 (.agg lineVals) (.int .i32 (k : Int))).run Tryz.prog w = .ok (.int .i32 (lineRunes.getD k 0)) w := by
  have h : k = 0 ∨ k = 1 ∨ k = 2 ∨ k = 3 ∨ k = 4 ∨ k = 5 ∨ k = 6 ∨ k = 7 ∨ k = 8 ∨ k = 9 ∨ k = 10 ∨ k = 11 ∨ k = 12 ∨ k = 13 ∨ k = 14 ∨ k = 15 ∨ k = 16 ∨ k = 17 ∨ k = 18 ∨ k = 19 ∨ k = 20 ∨ k = 21 ∨ k = 22 ∨ k = 23 ∨ k = 24 ∨ k = 25 ∨ k = 26 ∨ k = 27 ∨ k = 28 ∨ k = 29 ∨ k = 30 := by omega
  rcases h with rfl | rfl | rfl | rfl | rfl | rfl | rfl | rfl | rfl | rfl | rfl | rfl | rfl | rfl | rfl | rfl | rfl | rfl | rfl | rfl | rfl | rfl | rfl | rfl | rfl | rfl | rfl | rfl | rfl | rfl | rfl
  · exact ix0 w
  · exact ix1 w
  · exact ix2 w
  · exact ix3 w
  · exact ix4 w
  · exact ix5 w
  · exact ix6 w
  · exact ix7 w
  · exact ix8 w
  · exact ix9 w
  · exact ix10 w
  · exact ix11 w
  · exact ix12 w
  · exact ix13 w
  · exact ix14 w
  · exact ix15 w
  · exact ix16 w
  · exact ix17 w
  · exact ix18 w
  · exact ix19 w
  · exact ix20 w
  · exact ix21 w
  · exact ix22 w
  · exact ix23 w
  · exact ix24 w
  · exact ix25 w
  · exact ix26 w
  · exact ix27 w
  · exact ix28 w
  · exact ix29 w
  · exact ix30 w
def mapF (s r : Int) : Int := if s = 65 ∧ r = 35 then 163 else if s = 48 ∧ r = 95 then 32 else if s = 48 ∧ 96 ≤ r ∧ r ≤ 126 then lineRunes.getD (r - 96).toNat 0 else r
set_option maxRecDepth 100000 in
theorem lines_any (w : World) :
    Calls Tryz.prog 99 #[] w fun e w' => e = .returned (.agg lineVals) ∧ Below w.heap.size w w' := by
  go_enter Tryz.func99, Tryz.ntmps99
  go_wp2_with (first | (refine wpList_build rfl 153 _ rfl (by kernel_rfl) ?_; go_outline; refine wpList_store_row rfl 153 _ _ rfl w.heap.size lineVals (by kernel_rfl) (by kernel_rfl) 153 _ (heap_alloc_new _ _) (by kernel_rfl) (by kernel_rfl) (by kernel_rfl) ?_))
  have hg := setRow_heap (w.alloc (Obj.cells (Array.replicate 31 (Value.int .i32 0)) 153)) w.heap.size _ lineVals 153 (0, 0) (heap_alloc_new _ _)
  refine bodyPost_ret (results_cell_row rfl _ _ w.heap.size 153 lineVals (0, 0) _ rfl hg Tryz.underlying153 rfl (by kernel_rfl)) rfl ⟨rfl, ?_⟩
  exact below_setRow ((Below.refl _ _).alloc (Nat.le_refl _) _) (Nat.le_refl _) _
set_option maxRecDepth 100000 in
theorem map_in (r : Int) (w : World) (h1 : 96 ≤ r) (h2 : r ≤ 126) :
    Calls Tryz.prog 78 #[.int .u8 48, .int .i32 r] w fun e w' => e = .returned (.int .i32 (mapF 48 r)) ∧ Below w.heap.size w w' := by
  have h5 : ¬ r = 95 := by omega
  have h6 : ¬ r = 35 := by omega
  obtain ⟨k, rfl⟩ : ∃ k : Nat, r = (k : Int) + 96 := ⟨(r - 96).toNat, by omega⟩
  have hi := fun W => index_lines k (by omega) W
  have hm : mapF 48 ((k : Int) + 96) = lineRunes.getD k 0 := by
    unfold mapF
    rw [if_neg (by omega), if_neg (by omega), if_pos (by omega)]
    congr 1
    omega
  rw [hm]
  clear hm
  go_enter Tryz.func78, Tryz.ntmps78
  go_wp2_with (first | (go_at_call 99; refine (lines_any _).mono ?_; rintro e w1 ⟨rfl, hb1⟩))
  go_ret
  exact ⟨rfl, hb1⟩
set_option maxHeartbeats 4000000 in
set_option maxRecDepth 100000 in
theorem map_any (s r : Int) (w : World) :
    Calls Tryz.prog 78 #[.int .u8 s, .int .i32 r] w fun e w' => e = .returned (.int .i32 (mapF s r)) ∧ Below w.heap.size w w' := by
  by_cases h2 : s = 48
  · subst h2
    by_cases h3 : 96 ≤ r ∧ r ≤ 126
    · exact map_in r w h3.1 h3.2
    · have hm : mapF 48 r = if r = 95 then 32 else r := by
        unfold mapF
        rw [if_neg (by omega)]
        by_cases h : r = 95
        · rw [if_pos ⟨rfl, h⟩, if_pos h]
        · rw [if_neg (by omega), if_neg (by omega), if_neg h]
      rw [hm]
      clear hm
      by_cases h : r = 95
      · subst h
        go_enter Tryz.func78, Tryz.ntmps78
        go_wp2_with fail
        go_ret
        exact ⟨rfl, Below.refl _ _⟩
      · have hb : (r == 95) = false := by simpa using h
        rw [if_neg h]
        by_cases h4 : 96 ≤ r
        · have h5 : ¬ r ≤ 126 := fun h5 => h3 ⟨h4, h5⟩
          have h6 : decide (r ≤ 126) = false := by simpa using h5
          go_enter Tryz.func78, Tryz.ntmps78
          go_wp2_with fail
          go_ret
          exact ⟨rfl, Below.refl _ _⟩
        · have h6 : decide (96 ≤ r) = false := by simpa using h4
          go_enter Tryz.func78, Tryz.ntmps78
          go_wp2_with fail
          go_ret
          exact ⟨rfl, Below.refl _ _⟩
  · have hs : (s == 48) = false := by simpa using h2
    have hm : mapF s r = if s = 65 ∧ r = 35 then 163 else r := by
      unfold mapF
      by_cases h : s = 65 ∧ r = 35
      · rw [if_pos h, if_pos h]
      · rw [if_neg h, if_neg h, if_neg (by omega), if_neg (by omega)]
    rw [hm]
    clear hm
    by_cases h : s = 65
    · subst h
      go_enter Tryz.func78, Tryz.ntmps78
      go_wp2_with fail
      all_goals
        go_ret
        exact ⟨by simp_all, Below.refl _ _⟩
    · have hb : (s == 65) = false := by simpa using h
      go_enter Tryz.func78, Tryz.ntmps78
      go_wp2_with fail
      go_ret
      exact ⟨by simp [h], Below.refl _ _⟩
end Go.Proofs.YtnjgnbdebkckfaaGreatDoor.S1
namespace Go.Proofs.YtnjgnbdebkckfaaGreatDoor.S2
open Go.RowKit K1 K3 K5
attribute [local go_sem] cell_pastA froz_pastA
def stopsArr (c : Int) (f : Nat → Bool) : Array Value := (Value.int .i64 c :: (List.range 40).map (fun i => Value.bool (f i))).toArray
def upd (f : Nat → Bool) (k : Nat) (v : Bool) : Nat → Bool := fun i => if i = k then v else f i
structure Stops (w : World) (b : Nat) (c : Int) (f : Nat → Bool) : Prop where
  blk : w.heap[b]? = some (.cells (stopsArr c f) 126 (0, 0))
  lo : 0 ≤ c
  hi : c ≤ 40
theorem arr0 (c : Int) (f : Nat → Bool) : (stopsArr c f)[0]? = some (.int .i64 c) := by simp [stopsArr]
theorem arrK (c : Int) (f : Nat → Bool) (k : Nat) (hk : k < 40) : (stopsArr c f)[1 + k]? = some (.bool (f k)) := by
  simp [stopsArr, Nat.add_comm 1 k, hk]
theorem arr_set (c : Int) (f : Nat → Bool) (k : Nat) (v : Bool) (hk : k < 40) : (stopsArr c f).setIfInBounds (1 + k) (.bool v) = stopsArr c (upd f k v) := by
  apply Array.ext
  · simp [stopsArr]
  · intro i h1 h2
    simp only [stopsArr, Array.size_setIfInBounds, List.size_toArray, List.length_cons, List.length_map, List.length_range] at h1
    rcases i with _ | i
    · simp [stopsArr, Nat.add_comm 1 k]
    · simp only [stopsArr, Nat.add_comm 1 k, List.setIfInBounds_toArray, List.set_cons_succ, List.getElem_toArray, List.getElem_cons_succ, List.getElem_set, List.getElem_map, List.getElem_range, upd]
      by_cases h : k = i
      · subst h; simp
      · simp [h, Ne.symm h]
theorem Stops.lt {w : World} {b : Nat} {c : Int} {f : Nat → Bool} (h : Stops w b c f) : b < w.heap.size := heap_lt h.blk
theorem Stops.cell0 {w : World} {b : Nat} {c : Int} {f : Nat → Bool} (h : Stops w b c f) : w.cell? ⟨b, 0, none⟩ = some (.int .i64 c) := (cell_of_row w b 0 _ _ _ h.blk).trans (arr0 c f)
theorem Stops.cellK {w : World} {b : Nat} {c : Int} {f : Nat → Bool} (h : Stops w b c f) (k : Nat) (hk : k < 40) : w.cell? ⟨b, 1 + k, none⟩ = some (.bool (f k)) := (cell_of_row w b _ _ _ _ h.blk).trans (arrK c f k hk)
theorem Stops.froz {w : World} {b : Nat} {c : Int} {f : Nat → Bool} (h : Stops w b c f) (o : Nat) : w.frozen? ⟨b, o, none⟩ = false := frozen_of_row w b o _ _ h.blk
theorem Stops.set {w : World} {b : Nat} {c : Int} {f : Nat → Bool} (h : Stops w b c f) (k : Nat) (hk : k < 40) (v : Bool) : Stops (w.setCell ⟨b, 1 + k, none⟩ (.bool v)) b c (upd f k v) :=
  ⟨by rw [heap_setCell_at h.blk, arr_set c f k v hk], h.lo, h.hi⟩
theorem Stops.keep {w w' : World} {b : Nat} {c : Int} {f : Nat → Bool} (h : Stops w b c f) (he : w'.heap[b]? = w.heap[b]?) : Stops w' b c f := ⟨he.trans h.blk, h.lo, h.hi⟩
theorem wide_any {w : World} {b : Nat} {c : Int} {f : Nat → Bool} (h : Stops w b c f) :
    Calls Tryz.prog 101 #[.pointer (some ⟨b, 0, none⟩)] w fun e w' => e = .returned (.int .i64 c) ∧ w = w' := by
  have hc := h.cell0
  go_enter Tryz.func101, Tryz.ntmps101
  go_wp2
  go_ret
  exact ⟨rfl, rfl⟩
theorem wide_nil (w : World) :
    Calls Tryz.prog 101 #[.pointer none] w fun e w' => e = .returned (.int .i64 0) ∧ w = w' := by
  go_enter Tryz.func101, Tryz.ntmps101
  go_wp2
  go_ret
  exact ⟨rfl, rfl⟩
/-- the first stop from place k on that lies beyond x -/
def nextK (f : Nat → Bool) (x : Int) (k : Nat) : Nat → Int
  | 0 => max ((k : Int) - 1) 0
  | d + 1 => if x < (k : Int) ∧ f k = true then k else nextK f x (k + 1) d
def nextF (c : Nat) (f : Nat → Bool) (x : Int) : Int := nextK f x 0 c
theorem nextK_skip {f : Nat → Bool} {x : Int} {k C : Nat} (hk : k < C) (h : ¬ (x < (k : Int) ∧ f k = true)) : nextK f x k (C - k) = nextK f x (k + 1) (C - (k + 1)) := by
  obtain ⟨d, hd⟩ : ∃ d, C - k = d + 1 := ⟨C - k - 1, by omega⟩
  rw [hd, nextK, if_neg h, show C - (k + 1) = d by omega]
theorem nextK_hit {f : Nat → Bool} {x : Int} {k C : Nat} (hk : k < C) (h1 : x < (k : Int)) (h2 : f k = true) : nextK f x k (C - k) = k := by
  obtain ⟨d, hd⟩ : ∃ d, C - k = d + 1 := ⟨C - k - 1, by omega⟩
  rw [hd, nextK, if_pos ⟨h1, h2⟩]
theorem ret_int {k : IntKind} {a b : Int} (h : a = b) : Ending.returned (.int k a) = .returned (.int k b) := by rw [h]
set_option maxHeartbeats 2000000 in
theorem next_any {w : World} {b C : Nat} {f : Nat → Bool} (x : Int) (h : Stops w b (C : Int) f) :
    Calls Tryz.prog 81 #[.pointer (some ⟨b, 0, none⟩), .int .i64 x] w fun e w' => e = .returned (.int .i64 (nextF C f x)) ∧ w = w' := by
  have hc := h.cell0
  have hl := h.hi
  go_enter Tryz.func81, Tryz.ntmps81
  go_wp2_with (go_at_call 101; refine (wide_any h).mono ?_; rintro e w' ⟨rfl, rfl⟩)
  go_loop [8] (fun i => ∃ k : Nat, k ≤ C ∧ i = .int .i64 k ∧ nextF C f x = nextK f x k (C - k)) (fun i => C - (intOf i).toNat)
  case atStart => exact ⟨0, by omega, rfl, by simp [nextF]⟩
  case round =>
    obtain ⟨k, hk, rfl, hn⟩ := hrel
    have HN : Hid (nextF C f x = nextK f x k (C - k)) := hn
    clear hn
    by_cases hlt : k < C
    · have hck := h.cellK k (by omega)
      cases hf : f k
      · rw [hf] at hck
        have H2 : Hid (nextF C f x = nextK f x (k + 1) (C - (k + 1))) := HN.out.trans (nextK_skip hlt (by simp [hf]))
        clear HN hf
        go_wp2
        all_goals
          go_round
          case rel => exact ⟨k + 1, by omega, by go_num, H2.out⟩
          case measure => simp [intOf]; omega
      · rw [hf] at hck
        by_cases hx : x < (k : Int)
        · have H2 : Hid (nextF C f x = k) := HN.out.trans (nextK_hit hlt hx hf)
          clear HN hf
          go_wp2
          go_ret
          exact ⟨ret_int H2.out.symm, rfl⟩
        · have H2 : Hid (nextF C f x = nextK f x (k + 1) (C - (k + 1))) := HN.out.trans (nextK_skip hlt (by simp [hx]))
          clear HN hf
          go_wp2
          go_round
          case rel => exact ⟨k + 1, by omega, by go_num, H2.out⟩
          case measure => simp [intOf]; omega
    · obtain rfl : k = C := by omega
      have H2 : Hid (nextF k f x = max ((k : Int) - 1) 0) := by
        show nextF k f x = max ((k : Int) - 1) 0
        have := HN.out
        simpa [nextK] using this
      clear HN
      go_wp2_with (go_at_call 101; refine (wide_any h).mono ?_; rintro e w' ⟨rfl, rfl⟩)
      all_goals
        go_ret
        exact ⟨ret_int (by rw [H2.out]; omega), rfl⟩
/-- the stops of a new one -/
def newF (c : Int) : Nat → Bool := fun i => decide (8 ≤ i) && decide ((i : Int) < c) && decide (i % 8 = 0)
def newC (n : Int) : Int := min (max n 0) 40
theorem newF_upd (c : Int) (k : Nat) (f : Nat → Bool) (hf : ∀ i, i < k → f i = newF c i) (hz : ∀ i, k ≤ i → f i = false) (h8 : k % 8 = 0) (hk8 : 8 ≤ k) (hkc : (k : Int) < c) : ∀ i, i < k + 8 → (upd f k true) i = newF c i := by
  intro i hi
  unfold upd
  by_cases h : i = k
  · subst h; simp [newF, h8, hk8, hkc]
  · rw [if_neg h]
    by_cases hlt : i < k
    · exact hf i hlt
    · rw [hz i (by omega)]
      have : ¬ i % 8 = 0 := by omega
      simp [newF, this]
set_option maxHeartbeats 4000000 in
set_option maxRecDepth 100000 in
theorem new_c (n : Int) (C : Nat) (w : World) (hC : newC n = C) :
    Calls Tryz.prog 46 #[.int .i64 n] w fun e w' => e = .returned (.pointer (some ⟨w.heap.size, 0, none⟩)) ∧ Stops w' w.heap.size C (newF C) ∧ Below w.heap.size w w' := by
  have hr : (n < 0 ∧ C = 0) ∨ (n = 0 ∧ C = 0) ∨ (0 < n ∧ n ≤ 40 ∧ n = C) ∨ (40 < n ∧ C = 40) := by unfold newC at hC; omega
  have hC40 : C ≤ 40 := by omega
  clear hC
  rcases hr with ⟨h1, rfl⟩ | ⟨rfl, rfl⟩ | ⟨h1, h2, rfl⟩ | ⟨h1, rfl⟩
  · go_enter Tryz.func46, Tryz.ntmps46
    go_wp2
    go_loopw [4] (fun i wr => ∃ (k : Nat) (f : Nat → Bool), i = .int .i64 k ∧ k % 8 = 0 ∧ 8 ≤ k ∧ k ≤ 47 ∧ Stops wr w.heap.size ((0 : Nat) : Int) f ∧ (∀ i, i < k → f i = newF ((0 : Nat) : Int) i) ∧ (∀ i, k ≤ i → f i = false) ∧ Below w.heap.size w wr) (fun i _ => 48 - (intOf i).toNat)
    case atStart =>
      refine ⟨8, fun _ => false, rfl, rfl, by omega, by omega, ⟨heap_alloc_new _ _, by omega, by omega⟩, fun i hi => ?_, fun _ _ => rfl, (Below.refl _ _).alloc (Nat.le_refl _) _⟩
      have : ¬ 8 ≤ i := by omega
      simp [newF, this]
    case round =>
      obtain ⟨k, f, rfl, h8, hk8, hk47, hS, hf, hz, hB⟩ := hrel
      have hc0 := hS.cell0
      have H1 := Lib.hid h8
      clear h8
      by_cases hlt : (k : Int) < ((0 : Nat) : Int)
      · exact absurd hlt (by omega)
      · have hS2 := Lib.hid hS
        have hB2 := Lib.hid hB
        have hfe : Hid (f = newF ((0 : Nat) : Int)) := Lib.hid (by
          funext i
          by_cases h : i < k
          · exact hf i h
          · rw [hz i (by omega)]
            have : ¬ ((i : Int) < ((0 : Nat) : Int)) := by omega
            rw [newF, decide_eq_false this]
            simp)
        clear hf hz hS hB
        go_wp2
        go_ret
        refine ⟨rfl, ?_, hB2.out⟩
        have := hS2.out
        rw [hfe.out] at this
        exact this
  · go_enter Tryz.func46, Tryz.ntmps46
    go_wp2
    go_loopw [4] (fun i wr => ∃ (k : Nat) (f : Nat → Bool), i = .int .i64 k ∧ k % 8 = 0 ∧ 8 ≤ k ∧ k ≤ 47 ∧ Stops wr w.heap.size ((0 : Nat) : Int) f ∧ (∀ i, i < k → f i = newF ((0 : Nat) : Int) i) ∧ (∀ i, k ≤ i → f i = false) ∧ Below w.heap.size w wr) (fun i _ => 48 - (intOf i).toNat)
    case atStart =>
      refine ⟨8, fun _ => false, rfl, rfl, by omega, by omega, ⟨heap_alloc_new _ _, by omega, by omega⟩, fun i hi => ?_, fun _ _ => rfl, (Below.refl _ _).alloc (Nat.le_refl _) _⟩
      have : ¬ 8 ≤ i := by omega
      simp [newF, this]
    case round =>
      obtain ⟨k, f, rfl, h8, hk8, hk47, hS, hf, hz, hB⟩ := hrel
      have hc0 := hS.cell0
      have H1 := Lib.hid h8
      clear h8
      by_cases hlt : (k : Int) < ((0 : Nat) : Int)
      · exact absurd hlt (by omega)
      · have hS2 := Lib.hid hS
        have hB2 := Lib.hid hB
        have hfe : Hid (f = newF ((0 : Nat) : Int)) := Lib.hid (by
          funext i
          by_cases h : i < k
          · exact hf i h
          · rw [hz i (by omega)]
            have : ¬ ((i : Int) < ((0 : Nat) : Int)) := by omega
            rw [newF, decide_eq_false this]
            simp)
        clear hf hz hS hB
        go_wp2
        go_ret
        refine ⟨rfl, ?_, hB2.out⟩
        have := hS2.out
        rw [hfe.out] at this
        exact this
  · go_enter Tryz.func46, Tryz.ntmps46
    go_wp2
    go_loopw [4] (fun i wr => ∃ (k : Nat) (f : Nat → Bool), i = .int .i64 k ∧ k % 8 = 0 ∧ 8 ≤ k ∧ k ≤ 47 ∧ Stops wr w.heap.size (C : Int) f ∧ (∀ i, i < k → f i = newF (C : Int) i) ∧ (∀ i, k ≤ i → f i = false) ∧ Below w.heap.size w wr) (fun i _ => 48 - (intOf i).toNat)
    case atStart =>
      refine ⟨8, fun _ => false, rfl, rfl, by omega, by omega, ⟨heap_alloc_new _ _, by omega, by omega⟩, fun i hi => ?_, fun _ _ => rfl, (Below.refl _ _).alloc (Nat.le_refl _) _⟩
      have : ¬ 8 ≤ i := by omega
      simp [newF, this]
    case round =>
      obtain ⟨k, f, rfl, h8, hk8, hk47, hS, hf, hz, hB⟩ := hrel
      have hc0 := hS.cell0
      have H1 := Lib.hid h8
      clear h8
      by_cases hlt : (k : Int) < (C : Int)
      · have hck := hS.cellK k (by omega)
        have hfr := hS.froz (1 + k)
        have hS2 := Lib.hid (hS.set k (by omega) true)
        have hf2 := Lib.hid (newF_upd _ k f hf hz H1.out hk8 hlt)
        have hz2 := Lib.hid hz
        have hB2 := Lib.hid hB
        clear hf hz hS hB
        go_wp2
        go_roundw
        case rel => exact ⟨k + 8, _, by go_num, by have := H1.out; omega, by omega, by omega, hS2.out, hf2.out, fun i hi => by (unfold upd; rw [if_neg (by omega)]; exact hz2.out i (by omega)), hB2.out.setCell (Nat.le_refl _) _⟩
        case measure => simp [intOf]; omega
      · have hS2 := Lib.hid hS
        have hB2 := Lib.hid hB
        have hfe : Hid (f = newF (C : Int)) := Lib.hid (by
          funext i
          by_cases h : i < k
          · exact hf i h
          · rw [hz i (by omega)]
            have : ¬ ((i : Int) < (C : Int)) := by omega
            rw [newF, decide_eq_false this]
            simp)
        clear hf hz hS hB
        go_wp2
        go_ret
        refine ⟨rfl, ?_, hB2.out⟩
        have := hS2.out
        rw [hfe.out] at this
        exact this
  · go_enter Tryz.func46, Tryz.ntmps46
    go_wp2
    go_loopw [4] (fun i wr => ∃ (k : Nat) (f : Nat → Bool), i = .int .i64 k ∧ k % 8 = 0 ∧ 8 ≤ k ∧ k ≤ 47 ∧ Stops wr w.heap.size ((40 : Nat) : Int) f ∧ (∀ i, i < k → f i = newF ((40 : Nat) : Int) i) ∧ (∀ i, k ≤ i → f i = false) ∧ Below w.heap.size w wr) (fun i _ => 48 - (intOf i).toNat)
    case atStart =>
      refine ⟨8, fun _ => false, rfl, rfl, by omega, by omega, ⟨heap_alloc_new _ _, by omega, by omega⟩, fun i hi => ?_, fun _ _ => rfl, (Below.refl _ _).alloc (Nat.le_refl _) _⟩
      have : ¬ 8 ≤ i := by omega
      simp [newF, this]
    case round =>
      obtain ⟨k, f, rfl, h8, hk8, hk47, hS, hf, hz, hB⟩ := hrel
      have hc0 := hS.cell0
      have H1 := Lib.hid h8
      clear h8
      by_cases hlt : (k : Int) < ((40 : Nat) : Int)
      · have hck := hS.cellK k (by omega)
        have hfr := hS.froz (1 + k)
        have hS2 := Lib.hid (hS.set k (by omega) true)
        have hf2 := Lib.hid (newF_upd _ k f hf hz H1.out hk8 hlt)
        have hz2 := Lib.hid hz
        have hB2 := Lib.hid hB
        clear hf hz hS hB
        go_wp2
        go_roundw
        case rel => exact ⟨k + 8, _, by go_num, by have := H1.out; omega, by omega, by omega, hS2.out, hf2.out, fun i hi => by (unfold upd; rw [if_neg (by omega)]; exact hz2.out i (by omega)), hB2.out.setCell (Nat.le_refl _) _⟩
        case measure => simp [intOf]; omega
      · have hS2 := Lib.hid hS
        have hB2 := Lib.hid hB
        have hfe : Hid (f = newF ((40 : Nat) : Int)) := Lib.hid (by
          funext i
          by_cases h : i < k
          · exact hf i h
          · rw [hz i (by omega)]
            have : ¬ ((i : Int) < ((40 : Nat) : Int)) := by omega
            rw [newF, decide_eq_false this]
            simp)
        clear hf hz hS hB
        go_wp2
        go_ret
        refine ⟨rfl, ?_, hB2.out⟩
        have := hS2.out
        rw [hfe.out] at this
        exact this
theorem new_any (n : Int) (w : World) :
    Calls Tryz.prog 46 #[.int .i64 n] w fun e w' => e = .returned (.pointer (some ⟨w.heap.size, 0, none⟩)) ∧ Stops w' w.heap.size (newC n).toNat (newF (newC n).toNat) ∧ Below w.heap.size w w' :=
  new_c n _ w (by unfold newC; omega)
theorem size111 : (Tryz.prog.info? 126).map (·.size) = some 41 := by kernel_rfl
set_option maxRecDepth 100000 in
theorem copy_any {w : World} {b : Nat} {c : Int} {f : Nat → Bool} (h : Stops w b c f) :
    Calls Tryz.prog 57 #[.pointer (some ⟨b, 0, none⟩)] w fun e w' => e = .returned (.pointer (some ⟨w.heap.size, 0, none⟩)) ∧ Stops w' w.heap.size c f ∧ Below w.heap.size w w' := by
  have hsz : (Tryz.prog.info? 126).map (·.size) = some (stopsArr c f).size := by
    rw [size111]
    simp [stopsArr]
  have hone : (stopsArr c f).all (·.oneCell') = true := by
    simp only [Array.all_eq_true]
    intro i hi
    rcases i with _ | i
    · rfl
    · simp [stopsArr, Value.oneCell']
  go_enter Tryz.func57, Tryz.ntmps57
  go_wp2_with (first | (refine wpList_load_row rfl 126 _ rfl b rfl 126 _ _ _ h.blk Tryz.underlying126 rfl hsz ?_) | (refine wpList_store_row rfl 126 _ _ rfl w.heap.size (stopsArr c f) rfl rfl 126 _ (heap_alloc_new _ _) hsz (by simp [stopsArr]) hone ?_))
  go_ret
  exact ⟨rfl, ⟨setRow_heap _ _ _ _ _ _ (heap_alloc_new _ _), h.lo, h.hi⟩, below_setRow ((Below.refl _ _).alloc (Nat.le_refl _) _) (Nat.le_refl _) _⟩
/-- the stops behind k of the columns L -/
def putF (c : Int) (v : Bool) (L : Nat → Int) (f : Nat → Bool) : Nat → (Nat → Bool)
  | 0 => f
  | k + 1 => if 0 ≤ L k ∧ L k < c then upd (putF c v L f k) (L k).toNat v else putF c v L f k
set_option maxHeartbeats 2000000 in
theorem put_any {w : World} {b : Nat} {c : Int} {f : Nat → Bool} (h : Stops w b c f) (v : Bool) (ao : Option Addr) (sb off N cap : Nat) (L : Nat → Int) (hao : ao = some ⟨sb, off, none⟩ ∨ N = 0) (hne : sb ≠ b) (hcap : N ≤ cap) (hN : N ≤ 4611686018427387904)
    (hc : ∀ k, k < N → w.cell? ⟨sb, off + k, none⟩ = some (.int .i64 (L k))) :
    Calls Tryz.prog 140 #[.pointer (some ⟨b, 0, none⟩), .slice ao N cap, .bool v] w fun e w' => e = .returned (.tuple #[]) ∧ Stops w' b c (putF c v L f N) ∧ Fr w.heap.size [b] w w' := by
  go_enter Tryz.func140, Tryz.ntmps140
  go_wp2_with fail
  go_loopw [10] (fun i wr => ∃ k : Nat, k ≤ N ∧ i = .int .i64 k ∧ Stops wr b c (putF c v L f k) ∧ Fr w.heap.size [b] w wr) (fun i _ => N - (intOf i).toNat)
  case atStart => exact ⟨0, by omega, rfl, h, Fr.refl _ _ _⟩
  case round =>
    obtain ⟨k, hk, rfl, hS, hF⟩ := hrel
    by_cases hlt : k < N
    · obtain rfl : ao = some ⟨sb, off, none⟩ := by rcases hao with h | h; exact h; omega
      have hcell := hc k hlt
      have hsb := World.block_lt_of_cell? w _ hcell
      have hcr : wr.cell? ⟨sb, off + k, none⟩ = some (.int .i64 (L k)) := (World.cell?_of_block (hF.block sb hsb (by simpa using hne))).trans hcell
      have hc0 := hS.cell0
      have hhi := hS.hi
      have H1 : Hid (putF c v L f (k + 1) = if 0 ≤ L k ∧ L k < c then upd (putF c v L f k) (L k).toNat v else putF c v L f k) := Lib.hid rfl
      have H2 := Lib.hid hF
      clear hc hcell hF h
      generalize L k = z at *
      by_cases hz : 0 ≤ z ∧ z < c
      · obtain ⟨hz0, hzc⟩ := hz
        obtain ⟨m, rfl⟩ := Int.eq_ofNat_of_zero_le hz0
        have hcm := hS.cellK m (by omega)
        have hfm := hS.froz (1 + m)
        have hst := Lib.hid (hS.set m (by omega) v)
        have HS := Lib.hid hS
        clear hS
        go_wp2_with (go_at_call 101; refine (wide_any HS.out).mono ?_; rintro e w' ⟨rfl, rfl⟩)
        go_roundw
        case rel =>
          refine ⟨k + 1, by omega, by go_num, ?_, H2.out.setCell (.inl (by simp)) _⟩
          rw [H1.out, if_pos ⟨hz0, hzc⟩]
          exact hst.out
        case measure => simp [intOf]; omega
      · have HS := Lib.hid hS
        clear hS
        by_cases hz0 : 0 ≤ z
        · have hzc : c ≤ z := by omega
          go_wp2_with (go_at_call 101; refine (wide_any HS.out).mono ?_; rintro e w' ⟨rfl, rfl⟩)
          go_roundw
          case rel =>
            refine ⟨k + 1, by omega, by go_num, ?_, H2.out⟩
            rw [H1.out, if_neg hz]
            exact HS.out
          case measure => simp [intOf]; omega
        · have hzd : decide (0 ≤ z) = false := by simpa using hz0
          go_wp2_with (go_at_call 101; refine (wide_any HS.out).mono ?_; rintro e w' ⟨rfl, rfl⟩)
          go_roundw
          case rel =>
            refine ⟨k + 1, by omega, by go_num, ?_, H2.out⟩
            rw [H1.out, if_neg hz]
            exact HS.out
          case measure => simp [intOf]; omega
    · obtain rfl : k = N := by omega
      have HS := Lib.hid hS
      have HF := Lib.hid hF
      clear hS hF h hc
      go_wp2_with fail
      go_end0
      exact ⟨rfl, HS.out, HF.out⟩
theorem set_any {w : World} {b : Nat} {c : Int} {f : Nat → Bool} (h : Stops w b c f) (ao : Option Addr) (sb off N cap : Nat) (L : Nat → Int) (hao : ao = some ⟨sb, off, none⟩ ∨ N = 0) (hne : sb ≠ b) (hcap : N ≤ cap) (hN : N ≤ 4611686018427387904)
    (hc : ∀ k, k < N → w.cell? ⟨sb, off + k, none⟩ = some (.int .i64 (L k))) :
    Calls Tryz.prog 104 #[.pointer (some ⟨b, 0, none⟩), .slice ao N cap] w fun e w' => e = .returned (.tuple #[]) ∧ Stops w' b c (putF c true L f N) ∧ Fr w.heap.size [b] w w' := by
  have H := Lib.hid (put_any h true ao sb off N cap L hao hne hcap hN hc)
  clear hc
  go_enter Tryz.func104, Tryz.ntmps104
  go_wp2_with (go_at_call 140; refine H.out.mono ?_; rintro e w' ⟨rfl, hS, hF⟩)
  go_end0
  exact ⟨rfl, hS, hF⟩
theorem clear_any {w : World} {b : Nat} {c : Int} {f : Nat → Bool} (h : Stops w b c f) (ao : Option Addr) (sb off N cap : Nat) (L : Nat → Int) (hao : ao = some ⟨sb, off, none⟩ ∨ N = 0) (hne : sb ≠ b) (hcap : N ≤ cap) (hN : N ≤ 4611686018427387904)
    (hc : ∀ k, k < N → w.cell? ⟨sb, off + k, none⟩ = some (.int .i64 (L k))) :
    Calls Tryz.prog 117 #[.pointer (some ⟨b, 0, none⟩), .slice ao N cap] w fun e w' => e = .returned (.tuple #[]) ∧ Stops w' b c (putF c false L f N) ∧ Fr w.heap.size [b] w w' := by
  have H := Lib.hid (put_any h false ao sb off N cap L hao hne hcap hN hc)
  clear hc
  go_enter Tryz.func117, Tryz.ntmps117
  go_wp2_with (go_at_call 140; refine H.out.mono ?_; rintro e w' ⟨rfl, hS, hF⟩)
  go_end0
  exact ⟨rfl, hS, hF⟩
/-- the stops among the first k columns -/
def allL (f : Nat → Bool) (k : Nat) : List Nat := (List.range k).filter f
theorem allL_le (f : Nat → Bool) (k : Nat) : (allL f k).length ≤ k := by
  have := List.length_filter_le f (List.range k)
  simpa [allL] using this
theorem allL_succ (f : Nat → Bool) (k : Nat) : allL f (k + 1) = if f k then allL f k ++ [k] else allL f k := by
  unfold allL
  rw [List.range_succ, List.filter_append]
  cases h : f k <;> simp [h]
def ints (l : List Nat) : List Value := l.map fun i : Nat => Value.int .i64 (i : Int)
theorem ints_snoc (l : List Nat) (k : Nat) : ints (l ++ [k]) = ints l ++ [.int .i64 k] := by simp [ints]
theorem info3 : (Tryz.prog.info? 3).map (fun i => (i.zero, i.size, i.bytes)) = some (some (.int .i64 0), 1, 8) := by kernel_rfl
set_option maxHeartbeats 2000000 in
theorem all_any {w : World} {b C : Nat} {f : Nat → Bool} (h : Stops w b (C : Int) f) :
    Calls Tryz.prog 141 #[.pointer (some ⟨b, 0, none⟩)] w fun e w' => ∃ v, e = .returned v ∧ w'.ownsRow w.heap.size 3 1 v (allL f C).length (ints (allL f C)) ∧ Below w.heap.size w w' := by
  obtain ⟨i0, hi, hz0, hz1, hz2⟩ := info_parts info3
  have hC := h.hi
  go_enter Tryz.func141, Tryz.ntmps141
  go_wp2_with (go_at_call 101; refine (wide_any h).mono ?_; rintro e w' ⟨rfl, rfl⟩)
  go_loopw [3, 7] (fun v i wr => ∃ k : Nat, k ≤ C ∧ i = .int .i64 k ∧ wr.ownsRow w.heap.size 3 1 v (allL f k).length (ints (allL f k)) ∧ Below w.heap.size w wr) (fun _ i _ => C - (intOf i).toNat)
  case atStart => exact ⟨0, by omega, rfl, World.ownsRow_nil _ _ _ _, Below.refl _ _⟩
  case round =>
    obtain ⟨k, hk, rfl, hown, hB⟩ := hrel
    by_cases hlt : k < C
    · have hck : wr.cell? ⟨b, 1 + k, none⟩ = some (.bool (f k)) := (hB.cell (p := ⟨b, 1 + k, none⟩) h.lt).trans (h.cellK k (by omega))
      have hle := allL_le f k
      have H1 := Lib.hid (allL_succ f k)
      have HB := Lib.hid hB
      have hzb := hB.size
      clear hB
      cases hf : f k
      · rw [hf] at hck
        have HO : Hid (wr.ownsRow w.heap.size 3 1 u3 (allL f (k + 1)).length (ints (allL f (k + 1)))) := by
          show wr.ownsRow _ _ _ _ _ _
          rw [H1.out, hf]
          exact hown
        clear hown hf H1
        go_wp2
        go_roundw
        case rel => exact ⟨k + 1, by omega, by go_num, HO.out, HB.out⟩
        case measure => simp [intOf]; omega
      · rw [hf] at hck
        have H2 : Hid (allL f (k + 1) = allL f k ++ [k]) := by
          show allL f (k + 1) = _
          rw [H1.out, hf]; rfl
        clear hf H1
        have HN : Hid (wr.ownsRow w.heap.size 3 1 u3 (allL f k).length (ints (allL f k))) := hown
        clear hown
        go_wp2_with (at_builtin; refine wpList_append_own _ rfl _ _ 42 rfl w.heap.size 3 i0 (.int .i64 0) 1 8 Tryz.underlying42 hi hz0 hz1 hz2 rfl (by decide) _ _ _ rfl (HN.out.alloc _) ⟨wr.heap.size, 0, none⟩ 1 1 [.int .i64 k] rfl rfl ?c1 ?c2 ?c3 ?c4 ?c5 ?_)
        case c1 => exact cell_one_new _ _ _
        case c2 => intro u hu; simp at hu; subst hu; rfl
        case c3 => unfold maxLen; omega
        case c4 => omega
        case c5 => simp; omega
        intro v' w1 hown' hgrow _
        have H3 : Hid (w1.ownsRow w.heap.size 3 1 v' (allL f (k + 1)).length (ints (allL f (k + 1)))) := by
          show w1.ownsRow _ _ _ _ _ _
          rw [H2.out, ints_snoc]
          simpa using hown'
        have H4 := Lib.hid ((HB.out.alloc hzb _).grown hgrow (by simp; omega) (fun q hq => (HN.out.lt q hq).1))
        clear hown' hgrow HN
        go_wp2
        go_roundw
        case rel => exact ⟨k + 1, by omega, by go_num, H3.out, H4.out⟩
        case measure => simp [intOf]; omega
    · obtain rfl : k = C := by omega
      have HN := Lib.hid hown
      have HB := Lib.hid hB
      clear hown hB h
      go_wp2
      go_ret
      exact ⟨_, rfl, HN.out, HB.out⟩
end Go.Proofs.YtnjgnbdebkckfaaGreatDoor.S2
