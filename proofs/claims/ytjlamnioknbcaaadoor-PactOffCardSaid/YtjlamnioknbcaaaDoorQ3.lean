/- PactOff, all of it -/
import Derived.Test.YtjlamnioknbcaaaDoorQ2
import Derived.Lib.Hide
namespace Go.Proofs.YtjlamnioknbcaaaDoor.Q3
set_option linter.unusedVariables false
set_option linter.unusedSimpArgs false
set_option linter.unnecessarySimpa false
set_option maxRecDepth 100000
open Go.RowKit K1 K3 K5 K11 K12 K14 K20 K21 K22 K25 W0 V1 V2 V3 Y1 Y2 Y3 Y4 P1 P2 P3 P4 P5 P6 P7 P8 P9 P10 Q1 Q2

attribute [local go_sem] cell_pastA froz_pastA
theorem off_out (o n : Int) (w : World) (hg : Glob w) (h : n < 0 ∨ 30 < n) : Calls Tryd.prog 5 #[.int .i64 o, .int .i64 n] w fun e w' => e = .returned (.bool true) ∧ Below w.heap.size w w' := by
  have HG := Lib.hid hg
  have hd : decide (n < 0) = true ∨ (decide (n < 0) = false ∧ decide (30 < n) = true) := by simp only [decide_eq_true_eq, decide_eq_false_iff_not]; omega
  clear h hg
  rcases hd with d1 | ⟨d1, d2⟩
  all_goals
    go_enter Tryd.func5, Tryd.ntmps5
    go_wp2_with fail
    refine (alive_any _ HG.out).mono ?_
    rintro e wa ⟨rfl, hba⟩
    go_wp2_with fail
    go_ret
    exact ⟨rfl, hba⟩
theorem tmod_cases (o : Int) : (o.tmod 4 + 4).tmod 4 = 0 ∨ (o.tmod 4 + 4).tmod 4 = 1 ∨ (o.tmod 4 + 4).tmod 4 = 2 ∨ (o.tmod 4 + 4).tmod 4 = 3 := by
  have h1 := Int.tmod_lt_of_pos o (show (0 : Int) < 4 by decide)
  have h2 := Int.lt_tmod_of_pos o (show (0 : Int) < 4 by decide)
  rw [Int.tmod_eq_emod_of_nonneg (a := o.tmod 4 + 4) (by omega)]
  omega
theorem off_any (o n : Int) (w : World) (hg : Glob w) : Calls Tryd.prog 5 #[.int .i64 o, .int .i64 n] w fun e w' => e = .returned (.bool true) ∧ Below w.heap.size w w' := by
  by_cases h : n < 0 ∨ 30 < n
  · exact off_out o n w hg h
  · rcases tmod_cases o with hm | hm | hm | hm
    · exact off_0 o n w hg (by omega) (by omega) hm
    · exact off_1 o n w hg (by omega) (by omega) hm
    · exact off_2 o n w hg (by omega) (by omega) hm
    · exact off_3 o n w hg (by omega) (by omega) hm
end Go.Proofs.YtjlamnioknbcaaaDoor.Q3
