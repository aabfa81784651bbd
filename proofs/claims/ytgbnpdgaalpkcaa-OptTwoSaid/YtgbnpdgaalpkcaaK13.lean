/- a slice of bools that came in, opened -/
import Derived.Deep.Grids
import Derived.Test.YtgbnpdgaalpkcaaK4
namespace Go.Proofs.Ytgbnpdgaalpkcaa.K13
set_option linter.unusedVariables false
set_option linter.unusedSimpArgs false
open Go.ChangeShapes Go.WideShapes Go.RowKit Go.Deep
theorem open_bools1 {H : Type} {enc : TypeId × Value → H} {P : Program} {W : World} {held : Bool} {t e : TypeId} {a0 : Option Addr} {len cap : Nat} {d : DataW H} {p : List MemPlace}
    (hu : P.underlying t = some (.slice e)) (he : P.underlying e = some .bool) (hce : P.cellsOf e = 1) (h0 : DataW.Trod enc P W 0 (fun _ => true) held t (.slice a0 len cap) d p) :
    ∃ (sb off : Nat) (L : Nat → Bool), (a0 = some ⟨sb, off, none⟩ ∨ len = 0) ∧ len ≤ cap ∧ len ≤ 9223372036854775807 ∧ (∀ k, k < len → W.cell? ⟨sb, off + k, none⟩ = some (.bool (L k))) ∧ (0 < len → sb < W.heap.size) := by
  obtain ⟨fuel, hf⟩ := h0
  rcases open_bools hu he hce hf with ⟨hcs, hx⟩ | ⟨a, len', cap', zs, hcs, _, hl, hm, hx, hcell⟩
  · simp [Value.cells] at hcs
    obtain ⟨rfl, rfl, rfl⟩ := hcs
    exact ⟨0, 0, fun _ => false, .inr rfl, Nat.le_refl _, by omega, fun k h => by omega, fun h => by omega⟩
  · simp [Value.cells] at hcs
    obtain ⟨rfl, rfl, rfl⟩ := hcs
    unfold maxLen at hm
    by_cases hz0 : len = 0
    · subst hz0
      exact ⟨0, 0, fun _ => false, .inr rfl, Nat.zero_le _, by omega, fun k h => by omega, fun h => by omega⟩
    · have h0 := hcell 0 (by omega)
      have ha : a.add 0 = a := by simp [Addr.add]
      rw [ha] at h0
      have hp := K4.addr_plain h0
      have hlt := World.block_lt_of_cell? W _ h0
      generalize a.block = b at *
      generalize a.off = o at *
      subst hp
      refine ⟨b, o, zs, .inl rfl, hl, by omega, fun k hk => ?_, fun _ => hlt⟩
      have := hcell k (by omega)
      rwa [K4.add_plain] at this
end Go.Proofs.Ytgbnpdgaalpkcaa.K13
