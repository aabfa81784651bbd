/- contracts of opt -/
import Derived.Test.YtjlamnioknbcaaaDoorProg
import Derived.WalkKit
import Derived.WalkLawsBesides
import Derived.Outline
namespace Go.Proofs.YtjlamnioknbcaaaDoor.Y3
set_option linter.unusedVariables false
set_option linter.unusedSimpArgs false
open Go.RowKit

def valid (s : Int) (o : Bool) : Bool := decide (0 ≤ s) && decide (s ≤ 3) && (!o || decide (2 ≤ s))
def askF (s : Int) (o want : Bool) : (Int × Bool) × Int :=
  if valid s o = false then ((s, o), 0)
  else if s = 0 ∧ want = true then ((3, false), 1) else if s = 1 ∧ want = false then ((2, false), -1)
  else if s = 2 then ((s, want), 0) else if s = 3 then ((s, !want), 0) else ((s, o), 0)
def onF (s : Int) (o agree : Bool) : (Int × Bool) × Int :=
  if s = 0 ∧ agree = true then ((1, false), 1) else if s = 0 then ((0, false), -1)
  else if s = 2 ∧ o = false then ((0, false), 0) else if s = 3 ∧ o = true then ((2, false), -1) else ((1, false), 0)
def offF (s : Int) (o : Bool) : (Int × Bool) × Int :=
  if s = 1 then ((0, false), -1) else if s = 2 ∧ o = true then ((3, false), 1) else ((0, false), 0)
def heardF (s : Int) (o on agree : Bool) : (Int × Bool) × Int :=
  if valid s o = false then ((s, o), 0) else if on then onF s o agree else offF s o
abbrev out (r : (Int × Bool) × Int) : Value := .tuple #[.agg #[.int .i64 r.1.1, .bool r.1.2], .int .i64 r.2]


theorem bcell {W w1 : World} (hb : Below W.heap.size W w1) : (∀ b o, b < W.heap.size → w1.cell? ⟨b, o, none⟩ = W.cell? ⟨b, o, none⟩) ∧ (∀ b o, b < W.heap.size → w1.frozen? ⟨b, o, none⟩ = W.frozen? ⟨b, o, none⟩) :=
  ⟨fun b o h => hb.cell (p := ⟨b, o, none⟩) h, fun b o h => hb.frozen (p := ⟨b, o, none⟩) h⟩
theorem valid_any (s : Int) (o : Bool) (w : World) :
    Calls Tryd.prog 36 #[.agg #[.int .i64 s, .bool o]] w fun e w' => e = .returned (.bool (valid s o)) ∧ w.alloc (.cells #[.int .i64 s, .bool o] 46) = w' := by
  go_enter Tryd.func36, Tryd.ntmps36
  go_wp2
  all_goals
    go_ret
    exact ⟨by simp only [valid]; simp_all <;> omega, by simp_all⟩

set_option maxHeartbeats 4000000 in
theorem ask_any (s : Int) (o want : Bool) (w : World) :
    Calls Tryd.prog 24 #[.agg #[.int .i64 s, .bool o], .bool want] w fun e w' => e = .returned (out (askF s o want)) ∧ Below w.heap.size w w' := by
  cases hv : valid s o
  all_goals
    go_enter Tryd.func24, Tryd.ntmps24
    go_wp2_with (first | (go_at_call 36; refine (valid_any _ _ _).mono ?_; rintro e w1 ⟨rfl, rfl⟩))
    all_goals
      refine bodyPost_ret (v := out (askF s o want)) (by simp [results, Tryd.results24, go_sem]; simp_all [askF, onF, offF]; done) rfl ⟨rfl, ?_⟩
      repeat' (first | exact Below.refl _ _ | exact Nat.le_refl _ | apply Below.alloc | apply Below.setCell | omega | (simp; omega) | (simp; done) | (refine Below.trans ?_ (Below.mono (by assumption) (by simp; omega))))

set_option maxHeartbeats 4000000 in
theorem on_any (s : Int) (o agree : Bool) (w : World) :
    Calls Tryd.prog 40 #[.agg #[.int .i64 s, .bool o], .bool agree] w fun e w' => e = .returned (out (onF s o agree)) ∧ Below w.heap.size w w' := by
  cases hv : valid s o
  all_goals
    go_enter Tryd.func40, Tryd.ntmps40
    go_wp2_with (first | (go_at_call 36; refine (valid_any _ _ _).mono ?_; rintro e w1 ⟨rfl, rfl⟩))
    all_goals
      refine bodyPost_ret (v := out (onF s o agree)) (by simp [results, Tryd.results40, go_sem]; simp_all [askF, onF, offF]; done) rfl ⟨rfl, ?_⟩
      repeat' (first | exact Below.refl _ _ | exact Nat.le_refl _ | apply Below.alloc | apply Below.setCell | omega | (simp; omega) | (simp; done) | (refine Below.trans ?_ (Below.mono (by assumption) (by simp; omega))))

set_option maxHeartbeats 4000000 in
theorem off_any (s : Int) (o  : Bool) (w : World) :
    Calls Tryd.prog 41 #[.agg #[.int .i64 s, .bool o]] w fun e w' => e = .returned (out (offF s o )) ∧ Below w.heap.size w w' := by
  cases hv : valid s o
  all_goals
    go_enter Tryd.func41, Tryd.ntmps41
    go_wp2_with (first | (go_at_call 36; refine (valid_any _ _ _).mono ?_; rintro e w1 ⟨rfl, rfl⟩))
    all_goals
      refine bodyPost_ret (v := out (offF s o )) (by simp [results, Tryd.results41, go_sem]; simp_all [askF, onF, offF]; done) rfl ⟨rfl, ?_⟩
      repeat' (first | exact Below.refl _ _ | exact Nat.le_refl _ | apply Below.alloc | apply Below.setCell | omega | (simp; omega) | (simp; done) | (refine Below.trans ?_ (Below.mono (by assumption) (by simp; omega))))

set_option maxHeartbeats 4000000 in
theorem heard_any (s : Int) (o on agree : Bool) (w : World) :
    Calls Tryd.prog 28 #[.agg #[.int .i64 s, .bool o], .bool on, .bool agree] w fun e w' => e = .returned (out (heardF s o on agree)) ∧ Below w.heap.size w w' := by
  cases hv : valid s o <;> cases on
  all_goals
      go_enter Tryd.func28, Tryd.ntmps28
      go_wp2_with (first | (go_at_call 36; refine (valid_any _ _ _).mono ?_; rintro e w1 ⟨rfl, rfl⟩) | (go_at_call 40; refine (on_any _ _ _ _).mono ?_; rintro e w1 ⟨rfl, hb⟩; obtain ⟨hc1, hf1⟩ := bcell hb; have hz := hb.size; simp at hz) | (go_at_call 41; refine (off_any _ _ _).mono ?_; rintro e w1 ⟨rfl, hb⟩; obtain ⟨hc1, hf1⟩ := bcell hb; have hz := hb.size; simp at hz))
      all_goals
       refine bodyPost_ret (v := out (heardF s o _ agree)) (by simp [results, Tryd.results28, go_sem, *]; try simp_all [heardF]; done) rfl ⟨rfl, ?_⟩
       repeat' (first | exact Below.refl _ _ | exact Nat.le_refl _ | apply Below.alloc | apply Below.setCell | omega | (simp; omega) | (simp; done) | (refine Below.trans ?_ (Below.mono (by assumption) (by simp; omega))))
theorem ison_any (s : Int) (o : Bool) (w : World) :
    Calls Tryd.prog 19 #[.agg #[.int .i64 s, .bool o]] w fun e w' => e = .returned (.bool (s == 1)) ∧ Below w.heap.size w w' := by
  go_enter Tryd.func19, Tryd.ntmps19
  go_wp2
  all_goals
    go_ret
    exact ⟨by simp, (Below.refl _ _).alloc (Nat.le_refl _) _⟩
end Go.Proofs.YtjlamnioknbcaaaDoor.Y3
