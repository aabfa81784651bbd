/- more on slices that are read -/
import Derived.Test.YtjlamnioknbcaaaDoorK22
namespace Go.Proofs.YtjlamnioknbcaaaDoor.K25
set_option linter.unusedVariables false
set_option linter.unusedSimpArgs false
open Go.RowKit K1 K5 K12 K14 K20 K21
theorem Rd.news1 {α : Type} {enc : α → List Value} {f : α → Value} {w : World} {b o n c : Nat} {L : List α} (h : Rd 1 enc w (.slice (some ⟨b, o, none⟩) n c) L) (he : ∀ x, enc x = [f x]) : ∀ j u, (L.map f)[j]? = some u → w.cell? ((⟨b, o, none⟩ : Addr).add j) = some u := by
  intro j u hu
  rw [List.getElem?_map] at hu
  obtain ⟨x, hx, rfl⟩ := Option.map_eq_some_iff.1 hu
  obtain ⟨b', o', c', hv, _, hc⟩ := h.cell1 hx (he x)
  simp only [Value.slice.injEq, Option.some.injEq, Addr.mk.injEq, and_true] at hv
  obtain ⟨⟨rfl, rfl⟩, _, _⟩ := hv
  unfold Addr.add
  split
  · subst j; exact hc
  · exact hc
/-- the first elements of an owned row are read -/
theorem Rd.cut {α : Type} {enc : α → List Value} {f : α → Value} {w : World} {g m n c : Nat} {t : TypeId} {L M : List α} (h : w.ownsRow 0 t 1 (.slice (some ⟨g, 0, none⟩) m c) m ((L ++ M).map f)) (he : ∀ x, enc x = [f x]) (hn : n = L.length) : Rd 1 enc w (.slice (some ⟨g, 0, none⟩) n c) L := by
  subst hn
  have hl := h.1
  simp only [List.length_map, List.length_append, Nat.mul_one] at hl
  rcases h.2 with ⟨hh, _⟩ | ⟨g', cap, cur, hh, _, hg, hnc, _, _, _⟩
  · cases hh
  · simp only [Value.slice.injEq, Option.some.injEq, Addr.mk.injEq, and_true, true_and] at hh
    obtain ⟨rfl, rfl⟩ := hh
    refine ⟨_, c, rfl, by omega, .inr ⟨g, 0, rfl, blk_lt hg, fun k x hx j u hu => ?_⟩⟩
    rw [he x] at hu
    obtain rfl : j = 0 := by have := (List.getElem?_eq_some_iff.1 hu).1; simpa using this
    obtain rfl : f x = u := by simpa using hu
    have := h.cells rfl k (f x) (by rw [List.getElem?_map, List.getElem?_append_left (List.getElem?_eq_some_iff.1 hx).1, hx]; rfl)
    have hadd : (⟨g, 0, none⟩ : Addr).add k = ⟨g, k, none⟩ := by unfold Addr.add; split <;> simp_all
    rw [hadd] at this
    simpa using this
theorem own_cap {w : World} {g n c : Nat} {e : TypeId} {s : Nat} {xs : List Value} (h : w.ownsRow 0 e s (.slice (some ⟨g, 0, none⟩) n c) n xs) : n ≤ c ∧ c ≤ 9223372036854775807 := by
  rcases h.2 with ⟨hh, _⟩ | ⟨g', cap, cur, hh, hb, hg, hnc, hcm, hcs, ht⟩
  · cases hh
  · simp only [Value.slice.injEq, Option.some.injEq, Addr.mk.injEq, and_true, true_and] at hh
    obtain ⟨rfl, rfl⟩ := hh
    unfold maxLen at hcm
    exact ⟨hnc, hcm⟩
theorem own_at {w : World} {g n c : Nat} {e : TypeId} {s : Nat} {xs : List Value} (h : w.ownsRow 0 e s (.slice (some ⟨g, 0, none⟩) n c) n xs) {j : Nat} {u : Value} (hu : xs[j]? = some u) : w.cell? ⟨g, j, none⟩ = some u := by
  have := h.cells rfl j u hu
  have hadd : (⟨g, 0, none⟩ : Addr).add j = ⟨g, j, none⟩ := by unfold Addr.add; split <;> simp_all
  rwa [hadd] at this
theorem Rd.len {α : Type} {s : Nat} {enc : α → List Value} {w : World} {v : Value} {L : List α} (h : Rd s enc w v L) : ∃ a c, v = .slice a L.length c ∧ L.length ≤ c := by
  obtain ⟨a, c, h1, h2, _⟩ := h
  exact ⟨a, c, h1, h2⟩
end Go.Proofs.YtjlamnioknbcaaaDoor.K25
