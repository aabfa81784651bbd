/- C2, C3, C4 -/
import Derived.Test.YtnjgnbdebkckfaaGreatDoorA2
import Derived.Test.YtnjgnbdebkckfaaGreatDoorA3
import Derived.Lib.Hide
set_option linter.unusedVariables false
set_option linter.unusedSimpArgs false
set_option linter.unnecessarySimpa false
namespace Go.Proofs.YtnjgnbdebkckfaaGreatDoor.C2
set_option maxRecDepth 100000
open Go.RowKit K1 K3 K5 K11 K12 K14 K20 K21 K22 K25 K30 K31 M0 C1
attribute [local go_sem] cell_pastA froz_pastA
set_option maxHeartbeats 4000000 in
theorem one_any (a : At) (n : Int) (w : World) (h0 : -1 ≤ n) (h1 : n ≤ 100000) : Calls Tryz.prog 143 #[atA a, .int .i64 n] w fun e w' => e = .returned (atA (oneF a n)) ∧ Below w.heap.size w w' := by
  obtain ⟨r1, e1⟩ : ∃ r, r = colorF n 30 := ⟨_, rfl⟩
  obtain ⟨r2, e2⟩ : ∃ r, r = colorF n 40 := ⟨_, rfl⟩
  have hu : oneF a n = (if r1.2 = true then { a with fg := r1.1 } else if r2.2 = true then { a with bg := r2.1 }
    else if n = -1 ∨ n = 0 then At.zero
    else if n = 1 then { a with bold := true } else if n = 22 then { a with bold := false }
    else if n = 4 then { a with under := true } else if n = 24 then { a with under := false }
    else if n = 7 then { a with inv := true } else if n = 27 then { a with inv := false } else a) := by rw [e1, e2]; rfl
  have C30 := fun w => color_any n 30 w h0 h1 (by decide) (by decide)
  have C40 := fun w => color_any n 40 w h0 h1 (by decide) (by decide)
  rw [← e1] at C30
  rw [← e2] at C40
  rw [hu]
  have H1 := Lib.hid C30
  have H2 := Lib.hid C40
  clear hu e1 e2 C30 C40
  obtain ⟨c1, i1⟩ := r1
  obtain ⟨c2, i2⟩ := r2
  cases i1
  · cases i2
    · simp only [Bool.false_eq_true, if_false]
      by_cases x1 : n = -1
      · subst x1
        go_enter Tryz.func143, Tryz.ntmps143
        go_wp2_with (first | (go_at_call 154; (with_reducible refine (H1.out _).mono ?_); rintro e w' ⟨rfl, rfl⟩) | (go_at_call 154; (with_reducible refine (H2.out _).mono ?_); rintro e w' ⟨rfl, rfl⟩))
        refine bodyPost_ret (v := atA At.zero) (by simp [results, Tryz.results143, go_sem, At.zero]) rfl ⟨rfl, ?_⟩
        repeat' (first | with_reducible assumption | with_reducible exact Below.refl _ _ | with_reducible apply Below.alloc | with_reducible apply Below.setCell | with_reducible apply Below.drew | (refine Below.trans ?_ (Below.mono (by with_reducible assumption) ?_)) | omega | (simp; omega) | (simp; done))
      by_cases x2 : n = 0
      · subst x2
        go_enter Tryz.func143, Tryz.ntmps143
        go_wp2_with (first | (go_at_call 154; (with_reducible refine (H1.out _).mono ?_); rintro e w' ⟨rfl, rfl⟩) | (go_at_call 154; (with_reducible refine (H2.out _).mono ?_); rintro e w' ⟨rfl, rfl⟩))
        refine bodyPost_ret (v := atA At.zero) (by simp [results, Tryz.results143, go_sem, At.zero]) rfl ⟨rfl, ?_⟩
        repeat' (first | with_reducible assumption | with_reducible exact Below.refl _ _ | with_reducible apply Below.alloc | with_reducible apply Below.setCell | with_reducible apply Below.drew | (refine Below.trans ?_ (Below.mono (by with_reducible assumption) ?_)) | omega | (simp; omega) | (simp; done))
      rw [if_neg (by omega)]
      by_cases y0 : n = 1
      · subst y0
        rw [if_pos rfl]
        go_enter Tryz.func143, Tryz.ntmps143
        go_wp2_with (first | (go_at_call 154; (with_reducible refine (H1.out _).mono ?_); rintro e w' ⟨rfl, rfl⟩) | (go_at_call 154; (with_reducible refine (H2.out _).mono ?_); rintro e w' ⟨rfl, rfl⟩))
        refine bodyPost_ret (v := atA { a with bold := true }) (by simp [results, Tryz.results143, go_sem, At.zero]) rfl ⟨rfl, ?_⟩
        repeat' (first | with_reducible assumption | with_reducible exact Below.refl _ _ | with_reducible apply Below.alloc | with_reducible apply Below.setCell | with_reducible apply Below.drew | (refine Below.trans ?_ (Below.mono (by with_reducible assumption) ?_)) | omega | (simp; omega) | (simp; done))
      rw [if_neg y0]
      by_cases y1 : n = 22
      · subst y1
        rw [if_pos rfl]
        go_enter Tryz.func143, Tryz.ntmps143
        go_wp2_with (first | (go_at_call 154; (with_reducible refine (H1.out _).mono ?_); rintro e w' ⟨rfl, rfl⟩) | (go_at_call 154; (with_reducible refine (H2.out _).mono ?_); rintro e w' ⟨rfl, rfl⟩))
        refine bodyPost_ret (v := atA { a with bold := false }) (by simp [results, Tryz.results143, go_sem, At.zero]) rfl ⟨rfl, ?_⟩
        repeat' (first | with_reducible assumption | with_reducible exact Below.refl _ _ | with_reducible apply Below.alloc | with_reducible apply Below.setCell | with_reducible apply Below.drew | (refine Below.trans ?_ (Below.mono (by with_reducible assumption) ?_)) | omega | (simp; omega) | (simp; done))
      rw [if_neg y1]
      by_cases y2 : n = 4
      · subst y2
        rw [if_pos rfl]
        go_enter Tryz.func143, Tryz.ntmps143
        go_wp2_with (first | (go_at_call 154; (with_reducible refine (H1.out _).mono ?_); rintro e w' ⟨rfl, rfl⟩) | (go_at_call 154; (with_reducible refine (H2.out _).mono ?_); rintro e w' ⟨rfl, rfl⟩))
        refine bodyPost_ret (v := atA { a with under := true }) (by simp [results, Tryz.results143, go_sem, At.zero]) rfl ⟨rfl, ?_⟩
        repeat' (first | with_reducible assumption | with_reducible exact Below.refl _ _ | with_reducible apply Below.alloc | with_reducible apply Below.setCell | with_reducible apply Below.drew | (refine Below.trans ?_ (Below.mono (by with_reducible assumption) ?_)) | omega | (simp; omega) | (simp; done))
      rw [if_neg y2]
      by_cases y3 : n = 24
      · subst y3
        rw [if_pos rfl]
        go_enter Tryz.func143, Tryz.ntmps143
        go_wp2_with (first | (go_at_call 154; (with_reducible refine (H1.out _).mono ?_); rintro e w' ⟨rfl, rfl⟩) | (go_at_call 154; (with_reducible refine (H2.out _).mono ?_); rintro e w' ⟨rfl, rfl⟩))
        refine bodyPost_ret (v := atA { a with under := false }) (by simp [results, Tryz.results143, go_sem, At.zero]) rfl ⟨rfl, ?_⟩
        repeat' (first | with_reducible assumption | with_reducible exact Below.refl _ _ | with_reducible apply Below.alloc | with_reducible apply Below.setCell | with_reducible apply Below.drew | (refine Below.trans ?_ (Below.mono (by with_reducible assumption) ?_)) | omega | (simp; omega) | (simp; done))
      rw [if_neg y3]
      by_cases y4 : n = 7
      · subst y4
        rw [if_pos rfl]
        go_enter Tryz.func143, Tryz.ntmps143
        go_wp2_with (first | (go_at_call 154; (with_reducible refine (H1.out _).mono ?_); rintro e w' ⟨rfl, rfl⟩) | (go_at_call 154; (with_reducible refine (H2.out _).mono ?_); rintro e w' ⟨rfl, rfl⟩))
        refine bodyPost_ret (v := atA { a with inv := true }) (by simp [results, Tryz.results143, go_sem, At.zero]) rfl ⟨rfl, ?_⟩
        repeat' (first | with_reducible assumption | with_reducible exact Below.refl _ _ | with_reducible apply Below.alloc | with_reducible apply Below.setCell | with_reducible apply Below.drew | (refine Below.trans ?_ (Below.mono (by with_reducible assumption) ?_)) | omega | (simp; omega) | (simp; done))
      rw [if_neg y4]
      by_cases y5 : n = 27
      · subst y5
        rw [if_pos rfl]
        go_enter Tryz.func143, Tryz.ntmps143
        go_wp2_with (first | (go_at_call 154; (with_reducible refine (H1.out _).mono ?_); rintro e w' ⟨rfl, rfl⟩) | (go_at_call 154; (with_reducible refine (H2.out _).mono ?_); rintro e w' ⟨rfl, rfl⟩))
        refine bodyPost_ret (v := atA { a with inv := false }) (by simp [results, Tryz.results143, go_sem, At.zero]) rfl ⟨rfl, ?_⟩
        repeat' (first | with_reducible assumption | with_reducible exact Below.refl _ _ | with_reducible apply Below.alloc | with_reducible apply Below.setCell | with_reducible apply Below.drew | (refine Below.trans ?_ (Below.mono (by with_reducible assumption) ?_)) | omega | (simp; omega) | (simp; done))
      rw [if_neg y5]
      have z1 : (n == -1) = false := by simpa using x1
      have z2 : (n == 0) = false := by simpa using x2
      have z3 : (n == 1) = false := by simpa using y0
      have z4 : (n == 22) = false := by simpa using y1
      have z5 : (n == 4) = false := by simpa using y2
      have z6 : (n == 24) = false := by simpa using y3
      have z7 : (n == 7) = false := by simpa using y4
      have z8 : (n == 27) = false := by simpa using y5
      clear x1 x2 y0 y1 y2 y3 y4 y5
      go_enter Tryz.func143, Tryz.ntmps143
      go_wp2_with (first | (go_at_call 154; (with_reducible refine (H1.out _).mono ?_); rintro e w' ⟨rfl, rfl⟩) | (go_at_call 154; (with_reducible refine (H2.out _).mono ?_); rintro e w' ⟨rfl, rfl⟩))
      refine bodyPost_ret (v := atA a) (by simp [results, Tryz.results143, go_sem, At.zero]) rfl ⟨rfl, ?_⟩
      repeat' (first | with_reducible assumption | with_reducible exact Below.refl _ _ | with_reducible apply Below.alloc | with_reducible apply Below.setCell | with_reducible apply Below.drew | (refine Below.trans ?_ (Below.mono (by with_reducible assumption) ?_)) | omega | (simp; omega) | (simp; done))
    · rw [if_neg (by simp), if_pos rfl]
      go_enter Tryz.func143, Tryz.ntmps143
      go_wp2_with (first | (go_at_call 154; (with_reducible refine (H1.out _).mono ?_); rintro e w' ⟨rfl, rfl⟩) | (go_at_call 154; (with_reducible refine (H2.out _).mono ?_); rintro e w' ⟨rfl, rfl⟩))
      refine bodyPost_ret (v := atA { a with bg := c2 }) (by simp [results, Tryz.results143, go_sem, At.zero]) rfl ⟨rfl, ?_⟩
      repeat' (first | with_reducible assumption | with_reducible exact Below.refl _ _ | with_reducible apply Below.alloc | with_reducible apply Below.setCell | with_reducible apply Below.drew | (refine Below.trans ?_ (Below.mono (by with_reducible assumption) ?_)) | omega | (simp; omega) | (simp; done))
  · rw [if_pos rfl]
    go_enter Tryz.func143, Tryz.ntmps143
    go_wp2_with (first | (go_at_call 154; (with_reducible refine (H1.out _).mono ?_); rintro e w' ⟨rfl, rfl⟩) | (go_at_call 154; (with_reducible refine (H2.out _).mono ?_); rintro e w' ⟨rfl, rfl⟩))
    refine bodyPost_ret (v := atA { a with fg := c1 }) (by simp [results, Tryz.results143, go_sem, At.zero]) rfl ⟨rfl, ?_⟩
    repeat' (first | with_reducible assumption | with_reducible exact Below.refl _ _ | with_reducible apply Below.alloc | with_reducible apply Below.setCell | with_reducible apply Below.drew | (refine Below.trans ?_ (Below.mono (by with_reducible assumption) ?_)) | omega | (simp; omega) | (simp; done))
end Go.Proofs.YtnjgnbdebkckfaaGreatDoor.C2
namespace Go.Proofs.YtnjgnbdebkckfaaGreatDoor.C3
set_option maxRecDepth 100000
open Go.RowKit K1 K3 K5 K11 K12 K14 K20 K21 K22 K25 K30 K31 M0 C1 C2
attribute [local go_sem] cell_pastA froz_pastA
structure WideP (a : At) (l : List Int) (w : World) (e : Ending) (w' : World) : Prop where
  out : e = .returned (.tuple #[atA (wideF a l).1, .int .i64 (wideF a l).2]) ∧ Below w.heap.size w w'
set_option maxHeartbeats 4000000 in
theorem wide1 (a : At) (x : Int) (v : Option Addr) (cap : Nat) (w : World) : Calls Tryz.prog 142 #[atA a, .slice v 1 cap] w (WideP a [x] w) := by
  suffices h : Calls Tryz.prog 142 #[atA a, .slice v 1 cap] w fun e w' => e = .returned (.tuple #[atA a, .int .i64 1]) ∧ Below w.heap.size w w' from h.mono fun e w' h => ⟨h⟩
  go_enter Tryz.func142, Tryz.ntmps142
  go_wp2_with fail
  refine bodyPost_ret (v := .tuple #[atA a, .int .i64 1]) (by simp [results, Tryz.results142, go_sem]) rfl ⟨rfl, ?_⟩
  repeat' (first | with_reducible assumption | with_reducible exact Below.refl _ _ | with_reducible apply Below.alloc | with_reducible apply Below.setCell | with_reducible apply Below.drew | (refine Below.trans ?_ (Below.mono (by with_reducible assumption) ?_)) | omega | (simp; omega) | (simp; done))
set_option maxHeartbeats 4000000 in
theorem wide2 (a : At) (b o cap : Nat) (x y : Int) (w : World) (hb : b < w.heap.size) (c1 : w.cell? ⟨b, o + 1, none⟩ = some (.int .i64 y)) : Calls Tryz.prog 142 #[atA a, .slice (some ⟨b, o, none⟩) 2 cap] w (WideP a [x, y] w) := by
  by_cases y2 : y = 2
  · subst y2
    suffices h : Calls Tryz.prog 142 #[atA a, .slice (some ⟨b, o, none⟩) 2 cap] w fun e w' => e = .returned (.tuple #[atA a, .int .i64 5]) ∧ Below w.heap.size w w' from h.mono fun e w' h => ⟨by unfold wideF; simpa using h⟩
    go_enter Tryz.func142, Tryz.ntmps142
    go_wp2_with fail
    refine bodyPost_ret (v := .tuple #[atA a, .int .i64 5]) (by simp [results, Tryz.results142, go_sem]) rfl ⟨rfl, ?_⟩
    repeat' (first | with_reducible assumption | with_reducible exact Below.refl _ _ | with_reducible apply Below.alloc | with_reducible apply Below.setCell | with_reducible apply Below.drew | (refine Below.trans ?_ (Below.mono (by with_reducible assumption) ?_)) | omega | (simp; omega) | (simp; done))
  · by_cases y5 : y = 5
    · subst y5
      suffices h : Calls Tryz.prog 142 #[atA a, .slice (some ⟨b, o, none⟩) 2 cap] w fun e w' => e = .returned (.tuple #[atA a, .int .i64 3]) ∧ Below w.heap.size w w' from h.mono fun e w' h => ⟨by unfold wideF; simpa using h⟩
      go_enter Tryz.func142, Tryz.ntmps142
      go_wp2_with fail
      refine bodyPost_ret (v := .tuple #[atA a, .int .i64 3]) (by simp [results, Tryz.results142, go_sem]) rfl ⟨rfl, ?_⟩
      repeat' (first | with_reducible assumption | with_reducible exact Below.refl _ _ | with_reducible apply Below.alloc | with_reducible apply Below.setCell | with_reducible apply Below.drew | (refine Below.trans ?_ (Below.mono (by with_reducible assumption) ?_)) | omega | (simp; omega) | (simp; done))
    · suffices h : Calls Tryz.prog 142 #[atA a, .slice (some ⟨b, o, none⟩) 2 cap] w fun e w' => e = .returned (.tuple #[atA a, .int .i64 1]) ∧ Below w.heap.size w w' from h.mono fun e w' h => ⟨by unfold wideF; simpa [y2, y5] using h⟩
      have z2 : (y == 2) = false := by simpa using y2
      have z5 : (y == 5) = false := by simpa using y5
      clear y2 y5
      go_enter Tryz.func142, Tryz.ntmps142
      go_wp2_with fail
      refine bodyPost_ret (v := .tuple #[atA a, .int .i64 1]) (by simp [results, Tryz.results142, go_sem]) rfl ⟨rfl, ?_⟩
      repeat' (first | with_reducible assumption | with_reducible exact Below.refl _ _ | with_reducible apply Below.alloc | with_reducible apply Below.setCell | with_reducible apply Below.drew | (refine Below.trans ?_ (Below.mono (by with_reducible assumption) ?_)) | omega | (simp; omega) | (simp; done))
set_option maxHeartbeats 4000000 in
theorem wide3 (a : At) (b o cap n : Nat) (x y z : Int) (l : List Int) (w : World) (hn : l.length = n) (hn2 : n ≤ 1000000) (hb : b < w.heap.size) (c0 : w.cell? ⟨b, o, none⟩ = some (.int .i64 x)) (c1 : w.cell? ⟨b, o + 1, none⟩ = some (.int .i64 y)) (c2 : w.cell? ⟨b, o + 2, none⟩ = some (.int .i64 z)) (hz : z ≤ 100000) : Calls Tryz.prog 142 #[atA a, .slice (some ⟨b, o, none⟩) (n + 3) cap] w (WideP a (x :: y :: z :: l) w) := by
  have hu : wideF a (x :: y :: z :: l) = (if y = 2 then (a, 5) else if y ≠ 5 then (a, 1) else if 0 ≤ z ∧ z < 16 then (if x = 38 then { a with fg := z + 1 } else { a with bg := z + 1 }, 3) else (a, 3)) := by
    unfold wideF
    rw [if_neg (by simp)]
    simp
  have HU := Lib.hid hu
  clear hu hn
  by_cases y2 : y = 2
  · subst y2
    suffices h : Calls Tryz.prog 142 #[atA a, .slice (some ⟨b, o, none⟩) (n + 3) cap] w fun e w' => e = .returned (.tuple #[atA a, .int .i64 5]) ∧ Below w.heap.size w w' from h.mono fun e w' h => ⟨by rw [HU.out]; simpa using h⟩
    go_enter Tryz.func142, Tryz.ntmps142
    go_wp2_with fail
    refine bodyPost_ret (v := .tuple #[atA a, .int .i64 5]) (by simp [results, Tryz.results142, go_sem]) rfl ⟨rfl, ?_⟩
    repeat' (first | with_reducible assumption | with_reducible exact Below.refl _ _ | with_reducible apply Below.alloc | with_reducible apply Below.setCell | with_reducible apply Below.drew | (refine Below.trans ?_ (Below.mono (by with_reducible assumption) ?_)) | omega | (simp; omega) | (simp; done))
  · by_cases y5 : y = 5
    · subst y5
      by_cases z0 : 0 ≤ z
      · by_cases z1 : z < 16
        · by_cases x8 : x = 38
          · subst x8
            suffices h : Calls Tryz.prog 142 #[atA a, .slice (some ⟨b, o, none⟩) (n + 3) cap] w fun e w' => e = .returned (.tuple #[atA { a with fg := z + 1 }, .int .i64 3]) ∧ Below w.heap.size w w' from h.mono fun e w' h => ⟨by rw [HU.out]; simpa [z0, z1] using h⟩
            go_enter Tryz.func142, Tryz.ntmps142
            go_wp2_with fail
            refine bodyPost_ret (v := .tuple #[atA { a with fg := z + 1 }, .int .i64 3]) (by simp [results, Tryz.results142, go_sem]) rfl ⟨rfl, ?_⟩
            repeat' (first | with_reducible assumption | with_reducible exact Below.refl _ _ | with_reducible apply Below.alloc | with_reducible apply Below.setCell | with_reducible apply Below.drew | (refine Below.trans ?_ (Below.mono (by with_reducible assumption) ?_)) | omega | (simp; omega) | (simp; done))
          · suffices h : Calls Tryz.prog 142 #[atA a, .slice (some ⟨b, o, none⟩) (n + 3) cap] w fun e w' => e = .returned (.tuple #[atA { a with bg := z + 1 }, .int .i64 3]) ∧ Below w.heap.size w w' from h.mono fun e w' h => ⟨by rw [HU.out]; simpa [z0, z1, x8] using h⟩
            have x9 : (x == 38) = false := by simpa using x8
            clear x8
            go_enter Tryz.func142, Tryz.ntmps142
            go_wp2_with fail
            refine bodyPost_ret (v := .tuple #[atA { a with bg := z + 1 }, .int .i64 3]) (by simp [results, Tryz.results142, go_sem]) rfl ⟨rfl, ?_⟩
            repeat' (first | with_reducible assumption | with_reducible exact Below.refl _ _ | with_reducible apply Below.alloc | with_reducible apply Below.setCell | with_reducible apply Below.drew | (refine Below.trans ?_ (Below.mono (by with_reducible assumption) ?_)) | omega | (simp; omega) | (simp; done))
        · suffices h : Calls Tryz.prog 142 #[atA a, .slice (some ⟨b, o, none⟩) (n + 3) cap] w fun e w' => e = .returned (.tuple #[atA a, .int .i64 3]) ∧ Below w.heap.size w w' from h.mono fun e w' h => ⟨by rw [HU.out]; simpa [z0, z1] using h⟩
          go_enter Tryz.func142, Tryz.ntmps142
          go_wp2_with fail
          refine bodyPost_ret (v := .tuple #[atA a, .int .i64 3]) (by simp [results, Tryz.results142, go_sem]) rfl ⟨rfl, ?_⟩
          repeat' (first | with_reducible assumption | with_reducible exact Below.refl _ _ | with_reducible apply Below.alloc | with_reducible apply Below.setCell | with_reducible apply Below.drew | (refine Below.trans ?_ (Below.mono (by with_reducible assumption) ?_)) | omega | (simp; omega) | (simp; done))
      · suffices h : Calls Tryz.prog 142 #[atA a, .slice (some ⟨b, o, none⟩) (n + 3) cap] w fun e w' => e = .returned (.tuple #[atA a, .int .i64 3]) ∧ Below w.heap.size w w' from h.mono fun e w' h => ⟨by rw [HU.out]; simpa [z0] using h⟩
        go_enter Tryz.func142, Tryz.ntmps142
        go_wp2_with fail
        refine bodyPost_ret (v := .tuple #[atA a, .int .i64 3]) (by simp [results, Tryz.results142, go_sem]) rfl ⟨rfl, ?_⟩
        repeat' (first | with_reducible assumption | with_reducible exact Below.refl _ _ | with_reducible apply Below.alloc | with_reducible apply Below.setCell | with_reducible apply Below.drew | (refine Below.trans ?_ (Below.mono (by with_reducible assumption) ?_)) | omega | (simp; omega) | (simp; done))
    · suffices h : Calls Tryz.prog 142 #[atA a, .slice (some ⟨b, o, none⟩) (n + 3) cap] w fun e w' => e = .returned (.tuple #[atA a, .int .i64 1]) ∧ Below w.heap.size w w' from h.mono fun e w' h => ⟨by rw [HU.out]; simpa [y2, y5] using h⟩
      have y6 : (y == 2) = false := by simpa using y2
      have y7 : (y == 5) = false := by simpa using y5
      clear y2 y5
      go_enter Tryz.func142, Tryz.ntmps142
      go_wp2_with fail
      refine bodyPost_ret (v := .tuple #[atA a, .int .i64 1]) (by simp [results, Tryz.results142, go_sem]) rfl ⟨rfl, ?_⟩
      repeat' (first | with_reducible assumption | with_reducible exact Below.refl _ _ | with_reducible apply Below.alloc | with_reducible apply Below.setCell | with_reducible apply Below.drew | (refine Below.trans ?_ (Below.mono (by with_reducible assumption) ?_)) | omega | (simp; omega) | (simp; done))
end Go.Proofs.YtnjgnbdebkckfaaGreatDoor.C3
namespace Go.Proofs.YtnjgnbdebkckfaaGreatDoor.C4
set_option maxRecDepth 100000
open Go.RowKit K1 K3 K5 K11 K12 K14 K20 K21 K22 K25 K30 K31 M0 C1 C2 C3
attribute [local go_sem] cell_pastA froz_pastA
attribute [local go_sem] atV
theorem wide_rng (a : At) (l : List Int) : 1 ≤ (wideF a l).2 ∧ (wideF a l).2 ≤ 5 := by
  unfold wideF; split <;> (try split) <;> (try split) <;> (try split) <;> (try split) <;> exact ⟨by simp, by simp⟩
theorem sgr_fuel : ∀ (n : Nat) (k : Nat) (a : At) (l : List Int), l.length ≤ n → l.length ≤ k → sgrG k a l = sgrG l.length a l := by
  intro n
  induction n with
  | zero =>
    intro k a l h _
    obtain rfl : l = [] := List.length_eq_zero_iff.1 (by omega)
    cases k <;> rfl
  | succ n ih =>
    intro k a l h hk
    cases l with
    | nil => cases k <;> rfl
    | cons x l =>
      cases k with
      | zero => simp at hk
      | succ k =>
        have hl : l.length ≤ n := by simpa using h
        have hk' : l.length ≤ k := by simpa using hk
        show sgrG (k + 1) a (x :: l) = sgrG (l.length + 1) a (x :: l)
        unfold sgrG
        split
        · have hd : ((x :: l).drop (wideF a (x :: l)).2).length ≤ l.length := by
            have := (wide_rng a (x :: l)).1
            rw [List.length_drop, List.length_cons]
            omega
          rw [ih k _ _ (by omega) (by omega), ih l.length _ _ (by omega) hd]
        · rw [ih k _ _ hl hk', ih l.length _ _ hl (Nat.le_refl _)]
/-- numbers that are read from a place on -/
structure Nums (w : World) (v : Value) (l : List Int) : Prop where
  out : ∃ ad cap, v = .slice ad l.length cap ∧ l.length ≤ cap ∧ cap ≤ 9223372036854775807 ∧ (l = [] ∨ ∃ b o, ad = some ⟨b, o, none⟩ ∧ b < w.heap.size ∧ ∀ k x, l[k]? = some x → w.cell? ⟨b, o + k, none⟩ = some (.int .i64 x))
theorem Nums.drop {w : World} {b o cap : Nat} {l : List Int} (hc : l.length ≤ cap) (hm : cap ≤ 9223372036854775807) (hb : b < w.heap.size) (h : ∀ k x, l[k]? = some x → w.cell? ⟨b, o + k, none⟩ = some (.int .i64 x)) (m : Nat) (hl : m ≤ l.length) (o' : Nat) (ho : o' = o + m ∨ cap = m) {n c : Nat} (hn : n = l.length - m) (hcc : c = cap - m) : Nums w (.slice (some ⟨b, o', none⟩) n c) (l.drop m) := by
  subst hn hcc
  refine ⟨_, _, by rw [List.length_drop], by rw [List.length_drop]; omega, by omega, ?_⟩
  by_cases e : l.drop m = []
  · exact .inl e
  · refine .inr ⟨b, o', rfl, hb, fun k x hx => ?_⟩
    have hlt : m < l.length := by
      have := List.length_pos_iff.2 e
      rw [List.length_drop] at this
      omega
    obtain rfl : o' = o + m := by omega
    rw [List.getElem?_drop] at hx
    rw [Nat.add_assoc]
    exact h _ _ hx
def slen : Value → Nat
  | .slice _ n _ => n
  | _ => 0
theorem sgr_step (a : At) (x : Int) (l : List Int) (k : Nat) (h : (x :: l).length ≤ k) : sgrG k a (x :: l) = if x = 38 ∨ x = 48 then sgrG (k - 1) (wideF a (x :: l)).1 ((x :: l).drop (wideF a (x :: l)).2) else sgrG (k - 1) (oneF a x) l := by
  obtain ⟨j, rfl⟩ : ∃ j, k = j + 1 := ⟨k - 1, by simp at h; omega⟩
  rfl
theorem drop_min {α : Type} (l : List α) (k : Nat) : l.drop k = l.drop (min k l.length) := by
  by_cases h : k ≤ l.length
  · rw [Nat.min_eq_left h]
  · rw [Nat.min_eq_right (by omega), List.drop_of_length_le (by omega), List.drop_length]
/-- wide, whatever numbers -/
theorem wide_any (a : At) (b o cap n : Nat) (x : Int) (l : List Int) (w : World) (hn : (x :: l).length = n) (hb : b < w.heap.size) (hc : ∀ k y, (x :: l)[k]? = some y → w.cell? ⟨b, o + k, none⟩ = some (.int .i64 y)) (hr : ∀ y ∈ x :: l, -1 ≤ y ∧ y ≤ 100000) (hl : n ≤ 1000000) : Calls Tryz.prog 142 #[atA a, .slice (some ⟨b, o, none⟩) n cap] w (WideP a (x :: l) w) := by
  subst hn
  match l with
  | [] => exact wide1 a x _ cap w
  | [y] => exact wide2 a b o cap x y w hb (hc 1 y rfl)
  | y :: z :: l => exact wide3 a b o cap l.length x y z l w rfl (by simp at hl; omega) hb (hc 0 x rfl) (hc 1 y rfl) (hc 2 z rfl) (hr z (by simp)).2
theorem wide_w (a : At) (b o cap n : Nat) (x : Int) (l : List Int) (w : World) (W : At × Nat) (hW : wideF a (x :: l) = W) (hn : (x :: l).length = n) (hb : b < w.heap.size) (hc : ∀ k y, (x :: l)[k]? = some y → w.cell? ⟨b, o + k, none⟩ = some (.int .i64 y)) (hr : ∀ y ∈ x :: l, -1 ≤ y ∧ y ≤ 100000) (hl : n ≤ 1000000) : Calls Tryz.prog 142 #[atA a, .slice (some ⟨b, o, none⟩) n cap] w fun e w' => e = .returned (.tuple #[atA W.1, .int .i64 W.2]) ∧ Below w.heap.size w w' := by
  subst hW
  exact (wide_any a b o cap n x l w hn hb hc hr hl).mono fun e w' h => h.out
set_option maxHeartbeats 4000000 in
theorem sgr_nil (a : At) (ad : Option Addr) (cap : Nat) (w : World) : Calls Tryz.prog 120 #[atA a, .slice ad 0 cap] w fun e w' => e = .returned (atA At.zero) ∧ Below w.heap.size w w' := by
  go_enter Tryz.func120, Tryz.ntmps120
  go_wp2_with fail
  refine bodyPost_ret (v := atA At.zero) (by simp [results, Tryz.results120, go_sem, At.zero]) rfl ⟨rfl, ?_⟩
  repeat' (first | with_reducible assumption | with_reducible exact Below.refl _ _ | with_reducible apply Below.alloc | with_reducible apply Below.setCell | with_reducible apply Below.drew | (refine Below.trans ?_ (Below.mono (by with_reducible assumption) ?_)) | omega | (simp; omega) | (simp; done))
theorem Nums.low {w w' : World} {v : Value} {l : List Int} (h : Nums w v l) (hb : Below w.heap.size w w') : Nums w' v l := by
  obtain ⟨ad, cap, h1, h2, h3, h4⟩ := h
  refine ⟨ad, cap, h1, h2, h3, h4.imp id ?_⟩
  rintro ⟨b, o, h5, h6, h7⟩
  exact ⟨b, o, h5, Nat.lt_of_lt_of_le h6 hb.size, fun k x hx => (World.cell?_of_block (hb.block b h6)).trans (h7 k x hx)⟩
structure SgrI (w : World) (R : At) (v : Value) (wr : World) : Prop where
  out : ∃ (a : At) (l : List Int) (k : Nat), Nums w v l ∧ l.length ≤ k ∧ sgrG k a l = R ∧ (∀ y ∈ l, -1 ≤ y ∧ y ≤ 100000) ∧ l.length ≤ 1000000 ∧ Sep wr (.blk (w.heap.size + 1) (atV At.zero) 55 :: .blk w.heap.size (atV a) 55 :: [.low w.heap.size w])
set_option maxHeartbeats 4000000 in
theorem sgr_go (a : At) (v : Value) (l : List Int) (w : World) (hv : Nums w v l) (h0 : l ≠ []) (hr : ∀ y ∈ l, -1 ≤ y ∧ y ≤ 100000) (hl : l.length ≤ 1000000) : Calls Tryz.prog 120 #[atA a, v] w fun e w' => e = .returned (atA (sgrG l.length a l)) ∧ Below w.heap.size w w' := by
  have HV := Lib.hid hv
  obtain ⟨ad, cap, rfl, hc, hm, h3⟩ := hv
  have HS := Lib.hid (Sep.start w)
  have hp : 0 < l.length := List.length_pos_iff.2 h0
  have hd : ((l.length : Int) == 0) = false := by simp; omega
  have HR := Lib.hid hr
  obtain ⟨R, hR⟩ : ∃ R, R = sgrG l.length a l := ⟨_, rfl⟩
  have HQ := Lib.hid hR
  rw [← hR]
  clear h3 hr hR h0
  go_enter Tryz.func120, Tryz.ntmps120
  go_wp2_with fail
  (with_reducible apply K30.wp_at)
  focus ((repeat' (first | (with_reducible exact HS.out) | (with_reducible exact K30.Upd.here) | (with_reducible apply K30.Upd.there) | (with_reducible apply Sep.drew) | (with_reducible apply Sep.allocT) | (with_reducible apply Sep.setU))); done)
  intro x0 hs
  simp only [World.size_alloc] at hs
  have HS0 := Lib.hid hs
  clear hs HS
  go_loopw [1] (fun v wr => SgrI w R v wr) (fun v _ => slen v)
  case atStart => exact ⟨a, l, l.length, HV.out, Nat.le_refl _, HQ.out.symm, HR.out, hl, HS0.out⟩
  case round =>
    obtain ⟨⟨a', l', k, hnv, hk, hg, hrr, hll, hs⟩⟩ := hrel
    have hnv2 := hnv.low (hs.lowAt 2 rfl)
    obtain ⟨ad, cap', rfl, hcc, hmm, h3⟩ := hnv
    (try clear hcB hzB hlB); (try clear hcC hzC hlC); obtain ⟨hcB, hzB, hlB⟩ := hs.here (b := w.heap.size) K32.rm; obtain ⟨hcC, hzC, hlC⟩ := hs.here (b := (w.heap.size + 1)) K32.rm
    have HS := Lib.hid hs
    have HRR := Lib.hid hrr
    have HG := Lib.hid hg
    clear hs hrr hg hc hm
    cases l' with
    | nil =>
      have hq : a' = R := by
        have := HG.out
        cases k <;> exact this
      subst hq
      clear h3 hk hll hcc
      go_wp2_with fail
      refine bodyPost_ret (v := atA a') (by simp [results, Tryz.results120, go_sem, hcB, hcC, atV]) rfl ⟨rfl, ?_⟩
      ((with_reducible apply K30.low_end); exact K32.fnd; (repeat (first | exact K30.Rm.here | apply K30.Rm.there)))
    | cons x l' =>
      have hx := HRR.out x (by simp)
      obtain ⟨hx0, hx1⟩ := hx
      obtain ⟨b, o, rfl, hb, hcl⟩ := h3.resolve_left (by simp)
      have hst := sgr_step a' x l' k hk
      have hl0 := hcl 0 x rfl
      have hbl := (HS.out.lowAt 2 rfl)
      have hl1 : wr.cell? ⟨b, o, none⟩ = some (.int .i64 x) := (World.cell?_of_block (hbl.block b hb)).trans hl0
      have hbw : b < wr.heap.size := Nat.lt_of_lt_of_le hb hbl.size
      have HB := Lib.hid hb
      have HL0 : Hid (w.cell? ⟨b, o, none⟩ = some (.int .i64 x)) := Lib.hid hl0
      have HCL := Lib.hid hcl
      have HST := Lib.hid hst
      clear hst hl0 hbl hcl hb h3
      by_cases h38 : x = 38 ∨ x = 48
      · have hd38 : (x == 38) = true ∨ ((x == 38) = false ∧ (x == 48) = true) := by
          by_cases e : x = 38
          · exact .inl (by simpa using e)
          · exact .inr ⟨by simpa using e, by simpa using h38.resolve_left e⟩
        have hW1 := wide_rng a' (x :: l')
        have hdm := drop_min (x :: l') (wideF a' (x :: l')).2
        obtain ⟨W, hW⟩ : ∃ W, wideF a' (x :: l') = W := ⟨_, rfl⟩
        have hst := HST.out
        rw [hW] at hW1 hst hdm
        have hq2 : sgrG (k - 1) W.1 ((x :: l').drop W.2) = R := by rw [← HG.out, hst, if_pos h38]
        obtain ⟨A1, kk⟩ := W
        obtain ⟨hW1, hW2⟩ := hW1
        simp only at hW1 hW2 hdm hq2
        rw [hdm] at hq2
        have HWE := Lib.hid hW
        obtain ⟨m, hm0⟩ : ∃ m, min kk (x :: l').length = m := ⟨_, rfl⟩
        rw [hm0] at hq2
        have hm1 : 1 ≤ m ∧ m ≤ (x :: l').length ∧ (m = kk ∨ m = l'.length + 1) := by simp at hm0 ⊢; omega
        obtain ⟨hm1, hm2, hm3⟩ := hm1
        have HQ2 := Lib.hid hq2
        have hmm2 : min (kk : Int) ((l'.length : Int) + 1) = m := by simp at hm0; omega
        have HMM := Lib.hid hmm2
        clear hq2 hst hdm hW h38 hm0 hmm2
        have hm4 : (kk ≤ l'.length + 1 ∧ kk ≤ m ∧ m ≤ kk) ∨ (l'.length + 1 < kk ∧ l'.length + 1 ≤ m) := by simp at hm2; have := HMM.out; omega
        have hcap : cap' ≤ m ∨ m < cap' := by omega
        have hcc2 : l'.length + 1 ≤ cap' := hcc
        have hm22 : m ≤ l'.length + 1 := hm2
        clear hm3
        rcases hd38 with d38 | ⟨d38, d48⟩ <;> rcases hm4 with ⟨hm4, hm5, hm6⟩ | ⟨hm4, hm5⟩ <;> rcases hcap with hcap | hcap
        all_goals
          go_wp2_with (go_at_call 142; refine K32.ca (fun xw hs => ?_); (try simp only [World.size_alloc, World.size_setCell, atV, List.set_cons_zero, List.set_cons_succ] at hs); (try clear hcB hzB hlB); (try clear hcC hzC hlC); obtain ⟨hcB, hzB, hlB⟩ := hs.here (b := w.heap.size) K32.rm; obtain ⟨hcC, hzC, hlC⟩ := hs.here (b := (w.heap.size + 1)) K32.rm; (try clear hl1 hbw); have hlo := hs.hereLow (B := w.heap.size) (w0 := w) K32.rm; have hl1 := (World.cell?_of_block (hlo.block b HB.out)).trans HL0.out; have hbw := Nat.lt_of_lt_of_le HB.out hlo.size; clear hlo; have hC := (wide_w a' b o cap' (l'.length + 1) x l' _ (A1, kk) HWE.out rfl hbw (fun k y hy => (World.cell?_of_block ((hs.hereLow (B := w.heap.size) (w0 := w) K32.rm).block b HB.out)).trans (HCL.out k y hy)) HRR.out hll); (with_reducible refine hC.mono ?_); clear hC; rintro e w1 ⟨rfl, hb⟩; have hs := hs.below hb; clear hb; (try clear hcB hzB hlB); (try clear hcC hzC hlC); obtain ⟨hcB, hzB, hlB⟩ := hs.here (b := w.heap.size) K32.rm; obtain ⟨hcC, hzC, hlC⟩ := hs.here (b := (w.heap.size + 1)) K32.rm; (try clear hl1 hbw); have hlo := hs.hereLow (B := w.heap.size) (w0 := w) K32.rm; have hl1 := (World.cell?_of_block (hlo.block b HB.out)).trans HL0.out; have hbw := Nat.lt_of_lt_of_le HB.out hlo.size; clear hlo; have HS := Lib.hid hs; clear hs)
          go_roundw
          case rel =>
            refine ⟨⟨A1, (x :: l').drop m, k - 1, Nums.drop (l := x :: l') (m := m) hcc hmm HB.out HCL.out hm2 _ (by first | (left; omega) | (right; omega)) (by rw [List.length_cons]; omega) (by omega), by rw [List.length_drop]; omega, HQ2.out, fun y hy => HRR.out y (List.mem_of_mem_drop hy), by rw [List.length_drop]; omega, ?_⟩⟩
            ((with_reducible apply K30.sep_end); exact K32.fnd; intro hs; (try simp only [World.size_alloc, World.size_setCell, atV, List.set_cons_zero, List.set_cons_succ] at hs); exact hs.end3 K32.rm K32.rm K32.rm K32.sub)
          case measure => first | (simp [slen]; done) | (simp [slen]; omega)
      · have d38 : (x == 38) = false := by simp; omega
        have d48 : (x == 48) = false := by simp; omega
        clear h38
        have hq2 : sgrG (k - 1) (oneF a' x) l' = R := by rw [← HG.out, HST.out, if_neg (by simp at d38 d48; omega)]
        have HQ2 := Lib.hid hq2
        clear hq2
        by_cases hcap : cap' = 1
        all_goals
          go_wp2_with (refine K32.atW 7 (fun xw hs => ?_); (try simp only [World.size_alloc, World.size_setCell, atV, List.set_cons_zero, List.set_cons_succ] at hs); (try clear hcB hzB hlB); (try clear hcC hzC hlC); obtain ⟨hcB, hzB, hlB⟩ := hs.here (b := w.heap.size) K32.rm; obtain ⟨hcC, hzC, hlC⟩ := hs.here (b := (w.heap.size + 1)) K32.rm; (try clear hl1 hbw); have hlo := hs.hereLow (B := w.heap.size) (w0 := w) K32.rm; have hl1 := (World.cell?_of_block (hlo.block b HB.out)).trans HL0.out; have hbw := Nat.lt_of_lt_of_le HB.out hlo.size; clear hlo; have HS := Lib.hid hs; clear hs; refine K32.reg0 (w := xw) [] [] 5 ?_; simp only [numbered, List.take_succ_cons, List.take_zero, List.drop_succ_cons, List.drop_zero, List.take_nil, List.drop_nil, Nat.reduceAdd]; (iterate 5 (refine K32.zc ?_; apply Exists.intro; refine ⟨fun bs hok wx hwx hL => ?_, ?_⟩; (focus ((have hwx : Below _ _ wx := hwx; have hcx := cellA hwx; have hfx := frozA hwx; have hzx := hwx.size; (try simp at hzx)); unfold zAt; (try simp [go_sem, K32.ev, ↓IntWalk.iteOmega, *]); (try simp (disch := omega) only [K32.unw]); (try simp only [zUpon]); (first | (refine ⟨rfl, ?_⟩; go_at_call 143; refine (one_any a' x _ hx0 hx1).mono ?_; rintro e wy ⟨rfl, hby⟩; exact ⟨_, rfl, rfl, hby⟩) | exact ⟨rfl, Below.refl _ _⟩))); (try go_simp))); refine wz_nil ?_; intro wq hbq hLq; clear hLq ; have hcwq := cellA hbq; have hfwq := frozA hbq; have hzwq := hbq.size; (try simp at hzwq); have hs := HS.out.below hbq; (try clear hcB hzB hlB); (try clear hcC hzC hlC); obtain ⟨hcB, hzB, hlB⟩ := hs.here (b := w.heap.size) K32.rm; obtain ⟨hcC, hzC, hlC⟩ := hs.here (b := (w.heap.size + 1)) K32.rm; (try clear hl1 hbw); have hlo := hs.hereLow (B := w.heap.size) (w0 := w) K32.rm; have hl1 := (World.cell?_of_block (hlo.block b HB.out)).trans HL0.out; have hbw := Nat.lt_of_lt_of_le HB.out hlo.size; clear hlo; have HS := Lib.hid hs; clear hs hcwq hfwq hzwq hbq)
          go_roundw
          case rel =>
            refine ⟨⟨oneF a' x, l', k - 1, Nums.drop (l := x :: l') (m := 1) hcc hmm HB.out HCL.out (by simp) _ (by first | (left; rfl) | (right; exact hcap)) (by simp) (by first | rfl | omega), by simp at hk; omega, HQ2.out, fun y hy => HRR.out y (by simp [hy]), by simp at hll; omega, ?_⟩⟩
            ((with_reducible apply K30.sep_end); exact K32.fnd; intro hs; (try simp only [World.size_alloc, World.size_setCell, atV, List.set_cons_zero, List.set_cons_succ] at hs); exact hs.end3 K32.rm K32.rm K32.rm K32.sub)
          case measure => simp [slen]
theorem sgr_any (a : At) (v : Value) (l : List Int) (w : World) (hv : Nums w v l) (hr : ∀ y ∈ l, -1 ≤ y ∧ y ≤ 100000) (hl : l.length ≤ 1000000) : Calls Tryz.prog 120 #[atA a, v] w fun e w' => e = .returned (atA (sgrF a l)) ∧ Below w.heap.size w w' := by
  unfold sgrF
  by_cases h : l = []
  · subst h
    obtain ⟨ad, cap, rfl, _⟩ := hv
    exact sgr_nil a ad cap w
  · rw [if_neg h]
    exact sgr_go a v l w hv h hr hl
end Go.Proofs.YtnjgnbdebkckfaaGreatDoor.C4
