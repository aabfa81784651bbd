/- walks of chart's laws: ChartMaps -/
import Derived.Test.YtgbnpdgaalpkcaaM1
import Derived.Test.YtgbnpdgaalpkcaaM2
namespace Go.Proofs.Ytgbnpdgaalpkcaa.M3
set_option linter.unusedVariables false
set_option linter.unusedSimpArgs false
open Go.RowKit K1 K3 K5 M1 M2
attribute [local go_sem] cell_pastA froz_pastA

theorem getV (L : List Int) (k : Nat) (hk : k < (L.map (Value.int .i32)).length) : (L.map (Value.int .i32))[k] = .int .i32 (L.getD k 0) := by
  have hl : k < L.length := by simpa using hk
  rw [List.getElem_map, List.getD, List.getElem?_eq_getElem hl]
  rfl
set_option maxRecDepth 100000 in
set_option maxHeartbeats 2000000 in
theorem rmap_any (s r : Int) (w : World) :
    Calls Try.prog 23 #[.int .u8 s, .int .i32 r] w fun e w' => e = .returned (.int .i32 (mapF s r)) ∧ Below w.heap.size w w' := by
  by_cases h2 : s = 48
  · subst h2
    by_cases h3 : 95 ≤ r ∧ r ≤ 126
    · obtain ⟨h3, h4⟩ := h3
      obtain ⟨k, rfl⟩ : ∃ k : Nat, r = (k : Int) + 95 := ⟨(r - 95).toNat, by omega⟩
      have hm : mapF 48 ((k : Int) + 95) = ((32 : Int) :: lineRunes).getD k 0 := by
        unfold mapF
        rw [if_neg (by omega)]
        rcases k with _ | k
        · rfl
        · rw [if_neg (by omega), if_pos (by omega), List.getD_cons_succ]
          congr 1
          omega
      rw [hm]
      have hk : k < 32 := by omega
      have hcell : (((32 : Int) :: lineRunes).map (Value.int .i32)).toArray[k]? = some (.int .i32 (((32 : Int) :: lineRunes).getD k 0)) := by
        have hl : k < ((32 : Int) :: lineRunes).length := by simpa [lineRunes] using hk
        rw [List.getElem?_toArray, List.getElem?_map, List.getElem?_eq_getElem hl, List.getD, List.getElem?_eq_getElem hl]
        rfl
      simp only [lineRunes, List.map_cons, List.map_nil] at hcell
      clear hm
      go_enter Try.func23, Try.ntmps23
      have hv := getV ((32 : Int) :: lineRunes) k (by simpa [lineRunes] using hk)
      simp only [lineRunes, List.map_cons, List.map_nil] at hv
      have HV := Lib.hid hv
      clear hv
      go_wp2_with fail
      go_ret
      exact ⟨congrArg Ending.returned HV.out, (Below.refl _ _).alloc (Nat.le_refl _) _⟩
    · have hm : mapF 48 r = r := by
        unfold mapF
        rw [if_neg (by omega), if_neg (by omega), if_neg (by omega)]
      rw [hm]
      clear hm
      by_cases h4 : r < 95
      · go_enter Try.func23, Try.ntmps23
        go_wp2_with fail
        go_ret
        exact ⟨rfl, Below.refl _ _⟩
      · have h5 : 126 < r := by omega
        have h4' : decide (r < 95) = false := by simpa using h4
        go_enter Try.func23, Try.ntmps23
        go_wp2_with fail
        go_ret
        exact ⟨rfl, Below.refl _ _⟩
  · have hs : (s == 48) = false := by simpa using h2
    have hs' : (s != 48) = true := by simpa using h2
    have hm : mapF s r = if s = 65 ∧ r = 35 then 163 else r := by
      unfold mapF
      by_cases h : s = 65 ∧ r = 35
      · rw [if_pos h, if_pos h]
      · rw [if_neg h, if_neg h, if_neg (by omega), if_neg (by omega)]
    rw [hm]
    clear hm
    by_cases h : s = 65
    · subst h
      go_enter Try.func23, Try.ntmps23
      go_wp2_with fail
      all_goals
        go_ret
        exact ⟨by simp_all, Below.refl _ _⟩
    · have hb : (s == 65) = false := by simpa using h
      go_enter Try.func23, Try.ntmps23
      go_wp2_with fail
      go_ret
      exact ⟨by simp [h], Below.refl _ _⟩

set_option maxHeartbeats 2000000 in
theorem alive_any (w : World) :
    Calls Try.prog 21 #[] w fun e w' => e = .returned (.bool true) ∧ Below w.heap.size w w' := by
  have e1 : nextF (newC 20).toNat (newF (newC 20).toNat) 0 = 8 := by decide
  have e2 : nextF (newC 20).toNat (newF (newC 20).toNat) 8 = 16 := by decide
  have e3 : nextF (newC 20).toNat (newF (newC 20).toNat) 16 = 19 := by decide
  have e4 : mapF 48 113 = 9472 := by decide
  go_enter Try.func21, Try.ntmps21
  go_wp2_with (first | (go_at_call 26; refine (new_any _ _).mono ?_; rintro e w1 ⟨rfl, hS, hb1⟩; have HS := Lib.hid hS; have hz1 := hb1.size; have hlt := hS.lt; clear hS) | (go_at_call 29; refine (next_any _ HS.out).mono ?_; rintro e wx ⟨rfl, rfl⟩) | (go_at_call 24; refine (known_any _ _).mono ?_; rintro e wx ⟨rfl, rfl⟩) | (go_at_call 22; refine (map_any _ _ _).mono ?_; rintro e w2 ⟨rfl, hb2⟩))
  go_ret
  exact ⟨rfl, by repeat' (first | assumption | exact Below.refl _ _ | apply Below.alloc | apply Below.setCell | apply Below.drew | (refine Below.trans ?_ (Below.mono (by assumption) ?_)) | omega | (simp; omega) | (simp; done))⟩
def known (s : Int) : Bool := s == 66 || s == 65 || s == 48
set_option maxHeartbeats 2000000 in
theorem maps_any (s r : Int) (w : World) :
    Calls Try.prog 7 #[.int .u8 s, .int .i32 r] w fun e w' => e = .returned (.bool true) ∧ Below w.heap.size w w' := by
  have e1 : mapF 66 r = r := by
    unfold mapF
    rw [if_neg (by omega), if_neg (by omega), if_neg (by omega)]
  go_enter Try.func7, Try.ntmps7
  go_wp2_with (first | (go_at_call 21; refine (alive_any _).mono ?_; rintro e w1 ⟨rfl, hb1⟩; obtain ⟨hc1, hf1, hz1⟩ := aft hb1; try simp at hz1) | (go_at_call 22; refine (map_any _ _ _).mono ?_; rintro e w2 ⟨rfl, hb2⟩; obtain ⟨hc2, hf2, hz2⟩ := aft hb2; try simp at hz2) | (go_at_call 23; refine (rmap_any _ _ _).mono ?_; rintro e w3 ⟨rfl, hb3⟩; obtain ⟨hc3, hf3, hz3⟩ := aft hb3; try simp at hz3) | (go_at_call 24; refine (known_any _ _).mono ?_; rintro e wx ⟨rfl, rfl⟩) | (go_at_call 25; refine (rknown_any _ _).mono ?_; rintro e wx ⟨rfl, rfl⟩))
  all_goals
    go_ret
    exact ⟨rfl, by repeat' (first | assumption | exact Below.refl _ _ | apply Below.alloc | apply Below.setCell | apply Below.drew | (refine Below.trans ?_ (Below.mono (by assumption) ?_)) | omega | (simp; omega) | (simp; done))⟩
end Go.Proofs.Ytgbnpdgaalpkcaa.M3
