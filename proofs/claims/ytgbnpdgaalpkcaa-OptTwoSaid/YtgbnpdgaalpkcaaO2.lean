/- laws of opt: rheard -/
import Derived.Test.YtgbnpdgaalpkcaaO1
import Derived.Test.YtgbnpdgaalpkcaaK1
namespace Go.Proofs.Ytgbnpdgaalpkcaa.O2
set_option linter.unusedVariables false
set_option linter.unusedSimpArgs false
open Go.RowKit O1 K1
attribute [local go_sem] cell_pastA froz_pastA

set_option maxHeartbeats 1000000 in
theorem alive_any (w : World) :
    Calls Try.prog 13 #[] w fun e w' => e = .returned (.bool true) ∧ Below w.heap.size w w' := by
  have e1 : askF 0 false true = ((3, false), 1) := by decide
  have e2 : heardF 3 false false true = ((0, false), 0) := by decide
  go_enter Try.func13, Try.ntmps13
  go_wp2_with (first | (go_at_call 14; refine (ask_any _ _ _ _).mono ?_; rintro e w1 ⟨rfl, hb⟩; obtain ⟨hc1, hf1, hz1⟩ := aft hb; try simp only [World.size_alloc] at hz1) | (go_at_call 15; refine (heard_any _ _ _ _ _).mono ?_; rintro e w2 ⟨rfl, hb2⟩; obtain ⟨hc2, hf2, hz2⟩ := aft hb2; try simp only [World.size_alloc] at hz2))
  go_ret
  refine ⟨rfl, ?_⟩
  exact ((hb.alloc hz1 _).trans (hb2.mono (by simp; omega))).alloc (by omega) _
set_option maxHeartbeats 1000000 in
theorem rheard_any (s : Int) (o on agree : Bool) (w : World) :
    Calls Try.prog 17 #[.agg #[.int .i64 s, .bool o], .bool on, .bool agree] w fun e w' => e = .returned (out (heardF s o on agree)) ∧ Below w.heap.size w w' := by
  cases hv : valid s o
  · cases on
    all_goals
      go_enter Try.func17, Try.ntmps17
      go_wp2_with (first | (go_at_call 19; refine (rvalid_any _ _ _).mono ?_; rintro e w1 ⟨rfl, rfl⟩))
      refine bodyPost_ret (v := out (heardF s o _ agree)) (by simp [results, Try.results17, go_sem]; simp_all [heardF]; done) rfl ⟨rfl, ?_⟩
      repeat' (first | exact Below.refl _ _ | exact Nat.le_refl _ | apply Below.alloc | apply Below.setCell | omega | (simp; omega) | (simp; done))
  · rcases (show (s = 0 ∧ o = false) ∨ (s = 1 ∧ o = false) ∨ s = 2 ∨ s = 3 by simp [valid] at hv; cases o <;> simp at hv ⊢ <;> omega) with ⟨rfl, rfl⟩ | ⟨rfl, rfl⟩ | rfl | rfl
    all_goals
      try cases o
    all_goals
      cases on
    all_goals
      · go_enter Try.func17, Try.ntmps17
        go_wp2_with (first | (go_at_call 19; refine (rvalid_any _ _ _).mono ?_; rintro e w1 ⟨rfl, rfl⟩))
        all_goals try go_region
        all_goals try go_wp2
        all_goals
          refine bodyPost_ret (v := out (heardF _ _ _ agree)) (by simp [results, Try.results17, go_sem]; simp_all [heardF, onF, offF, valid]; done) rfl ⟨rfl, ?_⟩
          repeat' (first | exact Below.refl _ _ | exact Nat.le_refl _ | apply Below.alloc | apply Below.drew | apply Below.setCell | omega | (simp; omega) | (simp; done))
end Go.Proofs.Ytgbnpdgaalpkcaa.O2
