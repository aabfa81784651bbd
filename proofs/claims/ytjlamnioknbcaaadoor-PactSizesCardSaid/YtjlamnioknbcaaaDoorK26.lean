/- a slice of pairs of ints that came in, opened -/
import Derived.OpenShut
import Derived.Test.YtjlamnioknbcaaaDoorK15
namespace Go.Proofs.YtjlamnioknbcaaaDoor.K26
set_option linter.unusedVariables false
set_option linter.unusedSimpArgs false
open Go.ChangeShapes Go.WideShapes Go.RowKit Go.Deep
theorem open_pairs {H : Type} {enc : TypeId × Value → H} {P : Program} {W : World} {held : Bool} {t e f : TypeId} {a0 : Option Addr} {len cap : Nat} {d : DataW H} {p : List MemPlace}
    (hu : P.underlying t = some (.slice e)) (he : P.underlying e = some (.array 2 f)) (hf : P.underlying f = some (.int .i64)) (hce : P.cellsOf e = 2) (hcf : P.cellsOf f = 1) (h0 : DataW.Trod enc P W 0 (fun _ => true) held t (.slice a0 len cap) d p) :
    ∃ (sb off : Nat) (L : Nat → Int × Int), (a0 = some ⟨sb, off, none⟩ ∨ len = 0) ∧ len ≤ cap ∧ len ≤ 9223372036854775807 ∧ (∀ k, k < len → W.cell? ⟨sb, off + k * 2, none⟩ = some (.int .i64 (L k).1) ∧ W.cell? ⟨sb, off + k * 2 + 1, none⟩ = some (.int .i64 (L k).2)) ∧
      (∀ k, k < len → (-9223372036854775808 ≤ (L k).1 ∧ (L k).1 ≤ 9223372036854775807) ∧ (-9223372036854775808 ≤ (L k).2 ∧ (L k).2 ≤ 9223372036854775807)) ∧ (0 < len → sb < W.heap.size) := by
  obtain ⟨fuel, hff⟩ := h0
  rcases open_slice hu hff with ⟨hcs, hx⟩ | ⟨a, len', cap', m, n, D, Pl, hcs, _, hl, hm, hmm, hx, hi⟩
  · simp [Value.cells] at hcs
    obtain ⟨rfl, rfl, rfl⟩ := hcs
    exact ⟨0, 0, fun _ => (0, 0), .inr rfl, Nat.le_refl _, by omega, fun k h => by omega, fun k h => by omega, fun h => by omega⟩
  · simp [Value.cells] at hcs
    obtain ⟨rfl, rfl, rfl⟩ := hcs
    unfold maxLen at hm
    by_cases hz0 : len = 0
    · subst hz0
      exact ⟨0, 0, fun _ => (0, 0), .inr rfl, Nat.zero_le _, by omega, fun k h => by omega, fun k h => by omega, fun h => by omega⟩
    · have hpart : ∀ i, i < len → ∃ x y : Int, W.cell? (a.add (i * 2)) = some (.int .i64 x) ∧ W.cell? (a.add (i * 2 + 1)) = some (.int .i64 y) ∧ (Lit.int .i64 x).wf = true ∧ (Lit.int .i64 y).wf = true := by
        intro i hil
        have him : i < m := by rw [hmm]; split <;> omega
        obtain ⟨cs', hc, ht'⟩ := hi i him
        rw [hce] at hc
        obtain ⟨xs, m', _, _, hcl, hxl, hat⟩ := DataW.trod_array he ht'
        obtain ⟨_, hlen, hcell⟩ := World.cells?_some hc
        match cs', hlen with
        | [u, v], _ =>
          have h1 := hat 0 (by omega)
          have h2 := hat 1 (by omega)
          rw [hcf] at h1 h2
          simp only [Nat.zero_mul, List.drop_zero, List.take_succ_cons, List.take_zero, Nat.one_mul, List.drop_succ_cons] at h1 h2
          rw [List.getElem?_eq_getElem (by omega)] at h1 h2
          obtain ⟨x, e1, _, w1⟩ := DataW.trod_int hf h1
          obtain ⟨y, e2, _, w2⟩ := DataW.trod_int hf h2
          simp only [List.cons.injEq, and_true] at e1 e2
          have c0 := hcell 0 (by omega)
          have c1 := hcell 1 (by omega)
          simp only [List.getElem?_cons_zero, List.getElem?_cons_succ] at c0 c1
          refine ⟨x, y, ?_, ?_, w1, w2⟩
          · rw [← e1, ← c0, Go.Deep.add_add, Nat.add_zero]
          · rw [← e2, ← c1, Go.Deep.add_add]
      have hp : a = ⟨a.block, a.off, none⟩ := by
        obtain ⟨x, y, h, _⟩ := hpart 0 (by omega)
        rw [Nat.zero_mul] at h
        have ha : a.add 0 = a := by simp [Addr.add]
        rw [ha] at h
        exact K4.addr_plain h
      have hlt : a.block < W.heap.size := by
        obtain ⟨x, y, h, _⟩ := hpart 0 (by omega)
        have := World.block_lt_of_cell? W _ h
        rw [hp] at this ⊢
        rwa [K4.add_plain] at this
      generalize a.block = b at *
      generalize a.off = o at *
      subst hp
      refine ⟨b, o, fun i => if h : i < len then ((hpart i h).choose, (hpart i h).choose_spec.choose) else (0, 0), .inl rfl, hl, by omega, fun k hk => ?_, fun k hk => ?_, fun _ => hlt⟩
      · have h := (hpart k hk).choose_spec.choose_spec
        simp only [dif_pos hk]
        exact ⟨(congrArg W.cell? (K4.add_plain b o (k * 2))).symm.trans h.1, (congrArg W.cell? (K4.add_plain b o (k * 2 + 1))).symm.trans h.2.1⟩
      · have h := (hpart k hk).choose_spec.choose_spec
        simp only [dif_pos hk]
        exact ⟨K15.wf_i64 h.2.2.1, K15.wf_i64 h.2.2.2⟩
end Go.Proofs.YtjlamnioknbcaaaDoor.K26
