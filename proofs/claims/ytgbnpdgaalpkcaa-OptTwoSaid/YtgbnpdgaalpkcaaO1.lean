/- contracts of opt -/
import Derived.Test.YtgbnpdgaalpkcaaProg
import Derived.WalkKit
import Derived.WalkLawsBesides
import Derived.Outline
namespace Go.Proofs.Ytgbnpdgaalpkcaa.O1
set_option linter.unusedVariables false
set_option linter.unusedSimpArgs false
open Go.RowKit

def valid (s : Int) (o : Bool) : Bool := decide (0 ≤ s) && decide (s ≤ 3) && (!o || decide (2 ≤ s))
def askF (s : Int) (o want : Bool) : (Int × Bool) × Int :=
  if valid s o = false then ((s, o), 0)
  else if s = 0 ∧ want = true then ((3, false), 1) else if s = 1 ∧ want = false then ((2, false), -1)
  else if s = 2 then ((s, want), 0) else if s = 3 then ((s, !want), 0) else ((s, o), 0)
def onF (s : Int) (o agree : Bool) : (Int × Bool) × Int :=
  if s = 0 ∧ agree = true then ((1, false), 1) else if s = 0 then ((0, false), -1)
  else if s = 2 ∧ o = false then ((0, false), 0) else if s = 3 ∧ o = true then ((2, false), -1) else ((1, false), 0)
def offF (s : Int) (o : Bool) : (Int × Bool) × Int :=
  if s = 1 then ((0, false), -1) else if s = 2 ∧ o = true then ((3, false), 1) else ((0, false), 0)
def heardF (s : Int) (o on agree : Bool) : (Int × Bool) × Int :=
  if valid s o = false then ((s, o), 0) else if on then onF s o agree else offF s o
abbrev out (r : (Int × Bool) × Int) : Value := .tuple #[.agg #[.int .i64 r.1.1, .bool r.1.2], .int .i64 r.2]


theorem bcell {W w1 : World} (hb : Below W.heap.size W w1) : (∀ b o, b < W.heap.size → w1.cell? ⟨b, o, none⟩ = W.cell? ⟨b, o, none⟩) ∧ (∀ b o, b < W.heap.size → w1.frozen? ⟨b, o, none⟩ = W.frozen? ⟨b, o, none⟩) :=
  ⟨fun b o h => hb.cell (p := ⟨b, o, none⟩) h, fun b o h => hb.frozen (p := ⟨b, o, none⟩) h⟩
theorem valid_any (s : Int) (o : Bool) (w : World) :
    Calls Try.prog 16 #[.agg #[.int .i64 s, .bool o]] w fun e w' => e = .returned (.bool (valid s o)) ∧ w.alloc (.cells #[.int .i64 s, .bool o] 25) = w' := by
  go_enter Try.func16, Try.ntmps16
  go_wp2
  all_goals
    go_ret
    exact ⟨by simp only [valid]; simp_all <;> omega, by simp_all⟩
theorem rvalid_any (s : Int) (o : Bool) (w : World) :
    Calls Try.prog 19 #[.agg #[.int .i64 s, .bool o]] w fun e w' => e = .returned (.bool (valid s o)) ∧ w.alloc (.cells #[.int .i64 s, .bool o] 33) = w' := by
  go_enter Try.func19, Try.ntmps19
  go_wp2
  all_goals
    go_ret
    exact ⟨by simp only [valid]; simp_all <;> omega, by simp_all⟩

set_option maxHeartbeats 4000000 in
theorem ask_any (s : Int) (o want : Bool) (w : World) :
    Calls Try.prog 14 #[.agg #[.int .i64 s, .bool o], .bool want] w fun e w' => e = .returned (out (askF s o want)) ∧ Below w.heap.size w w' := by
  cases hv : valid s o
  all_goals
    go_enter Try.func14, Try.ntmps14
    go_wp2_with (first | (go_at_call 16; refine (valid_any _ _ _).mono ?_; rintro e w1 ⟨rfl, rfl⟩))
    all_goals
      refine bodyPost_ret (v := out (askF s o want)) (by simp [results, Try.results14, go_sem]; simp_all [askF, onF, offF]; done) rfl ⟨rfl, ?_⟩
      repeat' (first | exact Below.refl _ _ | exact Nat.le_refl _ | apply Below.alloc | apply Below.setCell | omega | (simp; omega) | (simp; done) | (refine Below.trans ?_ (Below.mono (by assumption) (by simp; omega))))

set_option maxHeartbeats 4000000 in
theorem rask_any (s : Int) (o want : Bool) (w : World) :
    Calls Try.prog 18 #[.agg #[.int .i64 s, .bool o], .bool want] w fun e w' => e = .returned (out (askF s o want)) ∧ Below w.heap.size w w' := by
  cases hv : valid s o
  all_goals
    go_enter Try.func18, Try.ntmps18
    go_wp2_with (first | (go_at_call 19; refine (rvalid_any _ _ _).mono ?_; rintro e w1 ⟨rfl, rfl⟩))
    all_goals
      refine bodyPost_ret (v := out (askF s o want)) (by simp [results, Try.results18, go_sem]; simp_all [askF, onF, offF]; done) rfl ⟨rfl, ?_⟩
      repeat' (first | exact Below.refl _ _ | exact Nat.le_refl _ | apply Below.alloc | apply Below.setCell | omega | (simp; omega) | (simp; done) | (refine Below.trans ?_ (Below.mono (by assumption) (by simp; omega))))

set_option maxHeartbeats 4000000 in
theorem on_any (s : Int) (o agree : Bool) (w : World) :
    Calls Try.prog 49 #[.agg #[.int .i64 s, .bool o], .bool agree] w fun e w' => e = .returned (out (onF s o agree)) ∧ Below w.heap.size w w' := by
  cases hv : valid s o
  all_goals
    go_enter Try.func49, Try.ntmps49
    go_wp2_with (first | (go_at_call 16; refine (valid_any _ _ _).mono ?_; rintro e w1 ⟨rfl, rfl⟩))
    all_goals
      refine bodyPost_ret (v := out (onF s o agree)) (by simp [results, Try.results49, go_sem]; simp_all [askF, onF, offF]; done) rfl ⟨rfl, ?_⟩
      repeat' (first | exact Below.refl _ _ | exact Nat.le_refl _ | apply Below.alloc | apply Below.setCell | omega | (simp; omega) | (simp; done) | (refine Below.trans ?_ (Below.mono (by assumption) (by simp; omega))))

set_option maxHeartbeats 4000000 in
theorem off_any (s : Int) (o  : Bool) (w : World) :
    Calls Try.prog 50 #[.agg #[.int .i64 s, .bool o]] w fun e w' => e = .returned (out (offF s o )) ∧ Below w.heap.size w w' := by
  cases hv : valid s o
  all_goals
    go_enter Try.func50, Try.ntmps50
    go_wp2_with (first | (go_at_call 16; refine (valid_any _ _ _).mono ?_; rintro e w1 ⟨rfl, rfl⟩))
    all_goals
      refine bodyPost_ret (v := out (offF s o )) (by simp [results, Try.results50, go_sem]; simp_all [askF, onF, offF]; done) rfl ⟨rfl, ?_⟩
      repeat' (first | exact Below.refl _ _ | exact Nat.le_refl _ | apply Below.alloc | apply Below.setCell | omega | (simp; omega) | (simp; done) | (refine Below.trans ?_ (Below.mono (by assumption) (by simp; omega))))

set_option maxHeartbeats 4000000 in
theorem heard_any (s : Int) (o on agree : Bool) (w : World) :
    Calls Try.prog 15 #[.agg #[.int .i64 s, .bool o], .bool on, .bool agree] w fun e w' => e = .returned (out (heardF s o on agree)) ∧ Below w.heap.size w w' := by
  cases hv : valid s o <;> cases on
  all_goals
      go_enter Try.func15, Try.ntmps15
      go_wp2_with (first | (go_at_call 16; refine (valid_any _ _ _).mono ?_; rintro e w1 ⟨rfl, rfl⟩) | (go_at_call 49; refine (on_any _ _ _ _).mono ?_; rintro e w1 ⟨rfl, hb⟩; obtain ⟨hc1, hf1⟩ := bcell hb; have hz := hb.size; simp at hz) | (go_at_call 50; refine (off_any _ _ _).mono ?_; rintro e w1 ⟨rfl, hb⟩; obtain ⟨hc1, hf1⟩ := bcell hb; have hz := hb.size; simp at hz))
      all_goals
       refine bodyPost_ret (v := out (heardF s o _ agree)) (by simp [results, Try.results15, go_sem, *]; try simp_all [heardF]; done) rfl ⟨rfl, ?_⟩
       repeat' (first | exact Below.refl _ _ | exact Nat.le_refl _ | apply Below.alloc | apply Below.setCell | omega | (simp; omega) | (simp; done) | (refine Below.trans ?_ (Below.mono (by assumption) (by simp; omega))))

theorem ison_any (s : Int) (o : Bool) (w : World) :
    Calls Try.prog 20 #[.agg #[.int .i64 s, .bool o]] w fun e w' => e = .returned (.bool (s == 1)) ∧ Below w.heap.size w w' := by
  go_enter Try.func20, Try.ntmps20
  go_wp2
  all_goals
    go_ret
    exact ⟨by simp, (Below.refl _ _).alloc (Nat.le_refl _) _⟩
end Go.Proofs.Ytgbnpdgaalpkcaa.O1
