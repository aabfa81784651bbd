/- a slice of ints that came in, opened, with the ints' bounds -/
import Derived.ChangeSlices
import Derived.Test.YtjlamnioknbcaaaDoorK4
namespace Go.Proofs.YtjlamnioknbcaaaDoor.K15
set_option linter.unusedVariables false
set_option linter.unusedSimpArgs false
open Go.ChangeShapes Go.WideShapes Go.RowKit
theorem wf_i64 {n : Int} (h : (Lit.int .i64 n).wf = true) : -9223372036854775808 ≤ n ∧ n ≤ 9223372036854775807 := by
  simpa [Lit.wf, show IntKind.i64.min = -9223372036854775808 from by decide, show IntKind.i64.max = 9223372036854775807 from by decide] using h
theorem open_ints2 {H : Type} {enc : TypeId × Value → H} {P : Program} {W : World} {held : Bool} {t e : TypeId} {a0 : Option Addr} {len cap : Nat} {d : DataW H} {p : List MemPlace}
    (hu : P.underlying t = some (.slice e)) (he : P.underlying e = some (.int .i64)) (hce : P.cellsOf e = 1) (h0 : DataW.Trod enc P W 0 (fun _ => true) held t (.slice a0 len cap) d p) :
    ∃ (sb off : Nat) (L : Nat → Int), (a0 = some ⟨sb, off, none⟩ ∨ len = 0) ∧ len ≤ cap ∧ len ≤ 9223372036854775807 ∧ (∀ k, k < len → W.cell? ⟨sb, off + k, none⟩ = some (.int .i64 (L k))) ∧ (∀ k, k < len → -9223372036854775808 ≤ L k ∧ L k ≤ 9223372036854775807) ∧ (0 < len → sb < W.heap.size) := by
  obtain ⟨fuel, hf⟩ := h0
  rcases open_ints hu he hce hf with ⟨hcs, hx⟩ | ⟨a, len', cap', zs, hcs, _, hl, hm, hz, hx, hcell, hwz⟩
  · simp [Value.cells] at hcs
    obtain ⟨rfl, rfl, rfl⟩ := hcs
    exact ⟨0, 0, fun _ => 0, .inr rfl, Nat.le_refl _, by omega, fun k h => by omega, fun k h => by omega, fun h => by omega⟩
  · simp [Value.cells] at hcs
    obtain ⟨rfl, rfl, rfl⟩ := hcs
    unfold maxLen at hm
    by_cases hz0 : len = 0
    · subst hz0
      exact ⟨0, 0, fun _ => 0, .inr rfl, Nat.zero_le _, by omega, fun k h => by omega, fun k h => by omega, fun h => by omega⟩
    · simp only [if_true] at hz
      have h0 := hcell 0 (by omega)
      have ha : a.add 0 = a := by simp [Addr.add]
      rw [ha] at h0
      have hp := K4.addr_plain h0
      have hlt := World.block_lt_of_cell? W _ h0
      generalize a.block = b at *
      generalize a.off = o at *
      subst hp
      refine ⟨b, o, fun i => zs.getD i 0, .inl rfl, hl, by omega, fun k hk => ?_, fun k hk => ?_, fun _ => hlt⟩
      · have := hcell k (by omega)
        rwa [K4.add_plain] at this
      · refine wf_i64 (hwz _ ?_)
        show zs.getD k 0 ∈ zs
        rw [List.getD_eq_getElem?_getD, List.getElem?_eq_getElem (by omega)]
        exact List.getElem_mem _
end Go.Proofs.YtjlamnioknbcaaaDoor.K15
