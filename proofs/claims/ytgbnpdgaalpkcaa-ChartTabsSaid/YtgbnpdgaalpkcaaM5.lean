/- the walk of ChartTabs -/
import Derived.Test.YtgbnpdgaalpkcaaM3
import Derived.Test.YtgbnpdgaalpkcaaK6
namespace Go.Proofs.Ytgbnpdgaalpkcaa.M5
set_option linter.unusedVariables false
set_option linter.unusedSimpArgs false
open Go.RowKit K1 K3 K5 K6 M1 M2 M3
attribute [local go_sem] cell_pastA froz_pastA

theorem nextK_law (f : Nat → Bool) (x : Nat) (C : Nat) (hx : x + 1 < C) : ∀ (d k : Nat), C - k = d → k ≤ C → (x < k ∨ True) → (∀ i, x < i → i < k → f i = false) →
    ∃ y : Nat, nextK f x k d = y ∧ x < y ∧ y < C ∧ (f y = true ∨ y = C - 1)
  | 0, k, hd, hk, _, hf => ⟨C - 1, by (simp only [nextK]; omega), by omega, by omega, .inr rfl⟩
  | d + 1, k, hd, hk, _, hf => by
    unfold nextK
    by_cases h : (x : Int) < (k : Int) ∧ f k = true
    · rw [if_pos h]
      exact ⟨k, rfl, by omega, by omega, .inl h.2⟩
    · rw [if_neg h]
      refine nextK_law f x C hx d (k + 1) (by omega) (by omega) (.inr trivial) (fun i h1 h2 => ?_)
      by_cases hik : i = k
      · subst hik
        cases hh : f i
        · rfl
        · exact absurd ⟨by omega, hh⟩ h
      · exact hf i h1 (by omega)
theorem next_law (f : Nat → Bool) (x C : Nat) (hx : x + 1 < C) : ∃ y : Nat, nextF C f x = y ∧ x < y ∧ y < C ∧ (f y = true ∨ y = C - 1) :=
  nextK_law f x C hx C 0 (by omega) (by omega) (.inr trivial) (fun i _ h => by omega)
theorem mem_all {f : Nat → Bool} {C y : Nat} (h : y < C) (hf : f y = true) : y ∈ allL f C := by simp [allL, h, hf]
theorem zero4 : ∀ w, (zeroValue 4).run Try.prog w = .ok (.bool false) w := fun w => by kernel_rfl
theorem alloc_map {w : World} : SetM (w.alloc (.map #[] 0)) w.heap.size [] := ⟨#[], 0, heap_alloc_new _ _, rfl, by simp⟩

set_option maxHeartbeats 8000000 in
theorem tabs_any (n : Int) (ao : Option Addr) (sb off N cap : Nat) (L : Nat → Int) (w : World) (hao : ao = some ⟨sb, off, none⟩ ∨ N = 0) (hcap : N ≤ cap) (hNb : N ≤ 9223372036854775807)
    (hc : ∀ k, k < N → w.cell? ⟨sb, off + k, none⟩ = some (.int .i64 (L k))) (hsb : 0 < N → sb < w.heap.size) :
    Calls Try.prog 8 #[.int .i64 n, .slice ao N cap] w fun e w' => e = .returned (.bool true) ∧ Below w.heap.size w w' := by
  have hmm := @run_makeMap Try.prog
  by_cases hn : n < 1
  · go_enter Try.func8, Try.ntmps8
    go_wp2_with (first | (go_at_call 21; refine (alive_any _).mono ?_; rintro e w1 ⟨rfl, hb1⟩; obtain ⟨hc1, hf1, hz1⟩ := aft hb1; try simp at hz1))
    all_goals
      go_ret
      exact ⟨rfl, by repeat' (first | assumption | exact Below.refl _ _ | apply Below.alloc | apply Below.setCell | apply Below.drew | (refine Below.trans ?_ (Below.mono (by assumption) ?_)) | omega | (simp; omega) | (simp; done))⟩
  by_cases hn2 : 40 < n
  · have hnd : decide (n < 1) = false := by simpa using hn
    go_enter Try.func8, Try.ntmps8
    go_wp2_with (first | (go_at_call 21; refine (alive_any _).mono ?_; rintro e w1 ⟨rfl, hb1⟩; obtain ⟨hc1, hf1, hz1⟩ := aft hb1; try simp at hz1))
    all_goals
      go_ret
      exact ⟨rfl, by repeat' (first | assumption | exact Below.refl _ _ | apply Below.alloc | apply Below.setCell | apply Below.drew | (refine Below.trans ?_ (Below.mono (by assumption) ?_)) | omega | (simp; omega) | (simp; done))⟩
  by_cases hN : 20 < N
  · have hnd : decide (n < 1) = false := by simpa using hn
    have hnd2 : decide (40 < n) = false := by simpa using hn2
    go_enter Try.func8, Try.ntmps8
    go_wp2_with (first | (go_at_call 21; refine (alive_any _).mono ?_; rintro e w1 ⟨rfl, hb1⟩; obtain ⟨hc1, hf1, hz1⟩ := aft hb1; try simp at hz1))
    all_goals
      go_ret
      exact ⟨rfl, by repeat' (first | assumption | exact Below.refl _ _ | apply Below.alloc | apply Below.setCell | apply Below.drew | (refine Below.trans ?_ (Below.mono (by assumption) ?_)) | omega | (simp; omega) | (simp; done))⟩
  obtain ⟨C, rfl⟩ : ∃ C : Nat, n = C := ⟨n.toNat, by omega⟩
  have hC1 : 1 ≤ C := by omega
  have hC40 : C ≤ 40 := by omega
  have hnd : decide ((C : Int) < 1) = false := by simp; omega
  have hnd2 : decide (40 < (C : Int)) = false := by simp; omega
  have hnd3 : decide (20 < (N : Int)) = false := by simp; omega
  have hnew : newC C = C := by unfold newC; omega
  have HC := Lib.hid hc
  have HSB := Lib.hid hsb
  have HAO := Lib.hid hao
  have HNEW := Lib.hid hnew
  clear hc hsb hao hnew
  go_enter Try.func8, Try.ntmps8
  go_wp2_with (first | (go_at_call 21; refine (alive_any _).mono ?_; rintro e w1 ⟨rfl, hb1⟩; obtain ⟨hc1, hf1, hz1⟩ := aft hb1; try simp at hz1))
  refine (new_c _ _ _ HNEW.out).mono ?_
  rintro e w2 ⟨rfl, hS, hb2⟩
  have HB2 := Lib.hid (hb1.trans (hb2.mono hz1))
  have hz2 := hb2.size
  have hlt := hS.lt
  have HS := Lib.hid hS
  clear hS hb2 hc1 hf1
  go_wp2_with fail
  have hne : 0 < N → sb < w.heap.size := HSB.out
  have hC2 : ∀ k, k < N → w2.cell? ⟨sb, off + k, none⟩ = some (.int .i64 (L k)) := fun k hk => by
    have := hne (by omega)
    rw [HB2.out.cell (p := ⟨sb, off + k, none⟩) this]
    exact HC.out k hk
  obtain ⟨sb', off', hao', hne', hC'⟩ : ∃ sb' off', (ao = some ⟨sb', off', none⟩ ∨ N = 0) ∧ sb' ≠ w1.heap.size ∧ ∀ k, k < N → w2.cell? ⟨sb', off' + k, none⟩ = some (.int .i64 (L k)) := by
    by_cases hN0 : N = 0
    · exact ⟨w1.heap.size + 1, 0, .inr hN0, by omega, fun k hk => by omega⟩
    · exact ⟨sb, off, HAO.out, by have := hne (by omega); omega, hC2⟩
  refine (set_any HS.out ao sb' off' N cap L hao' hne' hcap (by omega) hC').mono ?_
  clear hne' hC' hao'
  clear hne hC2
  rintro e w3 ⟨rfl, hS3, hF3⟩
  have HB3 := Lib.hid (HB2.out.trans (hF3.below_of (C := w.heap.size) (by omega) (by simp; omega)))
  have hz3 := hF3.size
  have HS3 := Lib.hid hS3
  clear hS3 hF3 HS HB2 hb1
  go_wp2_with (refine wpList_setm Try.underlying47 Try.underlying3 rfl _ _ _ (.inr rfl) alloc_map rfl rfl rfl ?_; intro w4 hM4 hF4)
  have HM4 : Hid (SetM w4 w3.heap.size [(C : Int) - 1]) := hM4
  have HS4 := Lib.hid (HS3.out.keep ((hF4.block w1.heap.size (by simp; omega) (by simp; omega)).trans (Below.heap_alloc _ _ _ (by omega))))
  have hz4 := hF4.size
  simp only [World.size_alloc] at hz4
  have HB4 := Lib.hid ((HB3.out.alloc (by omega) (.map #[] 0)).trans (hF4.below_of (C := w.heap.size) (by simp; omega) (by simp; omega)))
  clear hM4 hF4 HS3 HB3
  go_wp2_with fail
  refine (all_any HS4.out).mono ?_
  rintro e w5 ⟨v, rfl, hown, hb5⟩
  obtain ⟨ag, g, gcap, rfl, hag, hgc, hgb, hcell⟩ := own_view hown
  have HCELL : Hid (∀ k u, (ints (allL (putF (C : Int) true L (newF (C : Int)) N) C))[k]? = some u → w5.cell? ⟨g, 0 + k, none⟩ = some u) := hcell
  have HGB := Lib.hid hgb
  have HAG := Lib.hid hag
  have hz5 := hb5.size
  have hlen := allL_le (putF (C : Int) true L (newF (C : Int)) N) C
  have HS5 := Lib.hid (HS4.out.keep (hb5.block w1.heap.size (by omega)))
  have HM5 := Lib.hid (HM4.out.keep (hb5.block w3.heap.size (by omega)))
  have HB5 := Lib.hid (HB4.out.trans (hb5.mono (by omega)))
  have HBA : Hid (∀ k, w4.heap.size ≤ k → w3.heap.size ≠ k) := fun k hk => by omega
  clear hown hcell hgb hag hb5 HS4 HM4 HB4
  go_wp2_with fail
  go_loopw [8] (fun i wr => ∃ (k : Nat) (Ls : List Int), k ≤ (allL (putF (C : Int) true L (newF (C : Int)) N) C).length ∧ i = .int .i64 k ∧ Stops wr w1.heap.size (C : Int) (putF (C : Int) true L (newF (C : Int)) N) ∧ SetM wr w3.heap.size Ls ∧ Below w.heap.size w wr ∧ Fr w5.heap.size [w3.heap.size] w5 wr ∧
      ((C : Int) - 1 ∈ Ls) ∧ ∀ j y, j < k → (allL (putF (C : Int) true L (newF (C : Int)) N) C)[j]? = some y → (y : Int) ∈ Ls) (fun i _ => (allL (putF (C : Int) true L (newF (C : Int)) N) C).length - (intOf i).toNat)
  case atStart => exact ⟨0, _, by omega, rfl, HS5.out, HM5.out, HB5.out, Fr.refl _ _ _, by simp, fun j y hj => by omega⟩
  case round =>
    obtain ⟨k, Ls, hk, rfl, hS, hM, hB, hF, hin, hall⟩ := hrel
    have HS := Lib.hid hS
    have HM := Lib.hid hM
    have HB := Lib.hid hB
    have HF := Lib.hid hF
    have HIN := Lib.hid hin
    have HALL := Lib.hid hall
    clear hS hM hB hF hin hall
    by_cases hlt : k < (allL (putF (C : Int) true L (newF (C : Int)) N) C).length
    · obtain rfl : ag = some ⟨g, 0, none⟩ := by rcases HAG.out with h | h; exact h; omega
      obtain ⟨y, hy⟩ : ∃ y, (allL (putF (C : Int) true L (newF (C : Int)) N) C)[k]? = some y := ⟨_, List.getElem?_eq_getElem hlt⟩
      have HY := Lib.hid hy
      have hgb := HGB.out (by omega)
      have hcell : wr.cell? ⟨g, 0 + k, none⟩ = some (.int .i64 (y : Int)) := by
        have h1 := HCELL.out k (.int .i64 (y : Int)) (by simp [ints, hy])
        exact (World.cell?_of_block (HF.out.block g hgb.2 (by simp; exact Ne.symm (HBA.out g hgb.1)))).trans h1
      simp only [Nat.zero_add] at hcell
      clear hy
      go_wp2_with (refine wpList_setm Try.underlying47 Try.underlying3 rfl _ _ _ (.inl rfl) HM.out rfl rfl rfl ?_; intro wm hMm hFm)
      have HSm := Lib.hid (HS.out.keep (hFm.block w1.heap.size (HS.out.lt) (by simp; omega)))
      have HMm := Lib.hid hMm
      have HBm := Lib.hid (HB.out.trans (hFm.below_of (C := w.heap.size) HB.out.size (by simp; omega)))
      have HFm := Lib.hid (HF.out.trans (hFm.mono HF.out.size (by simp)))
      clear hMm hFm
      go_wp2_with fail
      go_roundw
      case rel =>
        refine ⟨k + 1, _, by omega, by go_num, HSm.out, HMm.out, HBm.out, HFm.out, ?_, fun j z hj hz => ?_⟩
        · split
          · exact HIN.out
          · exact List.mem_append_left _ HIN.out
        · by_cases hjk : j = k
          · subst hjk
            rw [HY.out] at hz
            cases hz
            split
            · assumption
            · simp
          · have := HALL.out j z (by omega) hz
            split
            · exact this
            · exact List.mem_append_left _ this
      case measure => simp [intOf]; omega
    · obtain rfl : k = (allL (putF (C : Int) true L (newF (C : Int)) N) C).length := by omega
      have HMEM : Hid (∀ y : Nat, y < C → (putF (C : Int) true L (newF (C : Int)) N) y = true ∨ y = C - 1 → (y : Int) ∈ Ls) := by
        intro y hy hor
        rcases hor with h | h
        · have := mem_all hy h
          obtain ⟨j, hj, he⟩ := List.getElem_of_mem this
          exact HALL.out j y hj (by rw [List.getElem?_eq_getElem hj, he])
        · subst h
          have := HIN.out
          rwa [show ((C - 1 : Nat) : Int) = (C : Int) - 1 by omega]
      have hlook := fun y : Int => run_look Try.underlying47 Try.underlying3 zero4 HM.out y
      go_wp2_with fail
      go_loop [9, 10] (fun x i => ∃ (k x' : Nat), k ≤ 60 ∧ i = .int .i64 k ∧ x = .int .i64 x' ∧ x' + 1 ≤ C ∧ (k ≤ x' ∨ x' + 1 = C)) (fun _ i => 60 - (intOf i).toNat)
      case atStart => exact ⟨0, 0, by omega, rfl, rfl, by omega, by omega⟩
      case round =>
        obtain ⟨k, x, hk, rfl, rfl, hx, hkx⟩ := hrel
        by_cases hlast : x + 1 = C
        · have hd : decide ((x : Int) < (C : Int) - 1) = false := by simp; omega
          go_wp2_with fail
          all_goals
            go_ret
            exact ⟨by simp; omega, HB.out⟩
        · obtain ⟨y, hy, hxy, hyC, hor⟩ := next_law (putF (C : Int) true L (newF (C : Int)) N) x C (by omega)
          have hmem : decide ((y : Int) ∈ Ls) = true := by simpa using HMEM.out y hyC hor
          have HY := Lib.hid hy
          clear hy hor
          have hk60 : k < 60 := by omega
          go_wp2_with fail
          refine (next_any (x : Int) HS.out).mono ?_
          rw [HY.out]
          rintro e wx ⟨rfl, rfl⟩
          go_wp2_with fail
          go_round
          case rel => exact ⟨k + 1, y, by omega, by go_num, rfl, by omega, by omega⟩
          case measure => simp [intOf]; omega
end Go.Proofs.Ytgbnpdgaalpkcaa.M5
