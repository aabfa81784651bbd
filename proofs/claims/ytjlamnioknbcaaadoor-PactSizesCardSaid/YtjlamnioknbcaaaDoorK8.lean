/- a slice of strings that came in, opened as one list, with each string's reach -/
import Derived.SliceStrings
import Derived.SizedLaws
import Derived.Test.YtjlamnioknbcaaaDoorK4
namespace Go.Proofs.YtjlamnioknbcaaaDoor.K8
set_option linter.unusedVariables false
set_option linter.unusedSimpArgs false
open Go.ChangeShapes Go.WideShapes Go.RowKit

theorem all_mem {H : Type} {P : Program} {e : TypeId} {d : DataW H} : ∀ {l : List (DataW H)}, d ∈ l → ∀ n ∈ d.weights P e, n ∈ DataW.weightsAll P e l
  | d0 :: l, hd, n, hn => by
    simp only [DataW.weightsAll, List.mem_append]
    rcases List.mem_cons.1 hd with rfl | h
    · exact Or.inl hn
    · exact Or.inr (all_mem h n hn)
theorem sized_each {H : Type} {P : Program} {ts : List TypeId} {ds : List (DataW H)} (h : (DataW.weightsEach P ts ds).all (· ≤ reachBytes) = true) {j : Nat} {t e : TypeId} {elems spare : List (DataW H)} {bs : List UInt8}
    (ht : ts[j]? = some t) (hd : ds[j]? = some (.slice elems spare)) (hu : P.underlying t = some (.slice e)) (hx : DataW.lit (.string bs) ∈ elems) : bs.length ≤ reachBytes := by
  have := List.all_eq_true.1 h _ (DataW.weights_mem_each ht hd bs.length (by
    simp only [DataW.weights, hu, List.mem_cons, List.mem_append]
    exact Or.inr (Or.inl (all_mem hx _ (by simp [DataW.weights])))))
  simpa using this

theorem open_strs {H : Type} {enc : TypeId × Value → H} {P : Program} {W : World} {held : Bool} {t e : TypeId} {a0 : Option Addr} {len cap : Nat} {d : DataW H} {p : List MemPlace} {ts : List TypeId} {ds : List (DataW H)} {j : Nat}
    (hu : P.underlying t = some (.slice e)) (he : P.underlying e = some .string) (hce : P.cellsOf e = 1) (h0 : DataW.Trod enc P W 0 (fun _ => true) held t (.slice a0 len cap) d p)
    (hsz : (DataW.weightsEach P ts ds).all (· ≤ reachBytes) = true) (ht : ts[j]? = some t) (hd : ds[j]? = some d) :
    ∃ (sb off : Nat) (L : Nat → ByteArray), (a0 = some ⟨sb, off, none⟩ ∨ len = 0) ∧ len ≤ cap ∧ len ≤ 9223372036854775807 ∧ (∀ k, k < len → W.cell? ⟨sb, off + k, none⟩ = some (.string (L k))) ∧
      (∀ k, k < len → (L k).size ≤ 281474976710656) ∧ (0 < len → sb < W.heap.size) := by
  obtain ⟨fuel, hf⟩ := h0
  rcases open_strings hu he hce hf with ⟨hcs, hx⟩ | ⟨a, len', cap', ss, hcs, _, hl, hm, hz, hx, hcell, hwz⟩
  · simp [Value.cells] at hcs
    obtain ⟨rfl, rfl, rfl⟩ := hcs
    exact ⟨0, 0, fun _ => ⟨#[]⟩, .inr rfl, Nat.le_refl _, by omega, fun k h => by omega, fun k h => by omega, fun h => by omega⟩
  · simp [Value.cells] at hcs
    obtain ⟨rfl, rfl, rfl⟩ := hcs
    simp only [Prod.mk.injEq] at hx
    obtain ⟨rfl, rfl⟩ := hx
    unfold maxLen at hm
    by_cases hz0 : len = 0
    · subst hz0
      exact ⟨0, 0, fun _ => ⟨#[]⟩, .inr rfl, Nat.zero_le _, by omega, fun k h => by omega, fun k h => by omega, fun h => by omega⟩
    · simp only [if_true] at hz
      have h0 := hcell 0 (by omega)
      have ha : a.add 0 = a := by simp [Addr.add]
      rw [ha] at h0
      have hp := K4.addr_plain h0
      have hlt := World.block_lt_of_cell? W _ h0
      have hreach : ∀ k, k < len → (ss.getD k ByteArray.empty).size ≤ 281474976710656 := fun k hk => by
        have hk' : k < ss.length := by omega
        have := sized_each hsz ht hd hu (bs := (ss.getD k ByteArray.empty).data.toList) (by
          unfold strs
          refine List.mem_map.2 ⟨ss.getD k ByteArray.empty, ?_, rfl⟩
          rw [List.getD_eq_getElem?_getD, List.getElem?_eq_getElem hk', Option.getD_some]
          exact List.mem_take_iff_getElem.2 ⟨k, by omega, rfl⟩)
        have h2 := reachBytes_lt
        have h3 : (ss.getD k ByteArray.empty).data.toList.length = (ss.getD k ByteArray.empty).size := by simp
        omega
      generalize a.block = b at *
      generalize a.off = o at *
      subst hp
      refine ⟨b, o, fun i => ss.getD i ByteArray.empty, .inl rfl, hl, by omega, fun k hk => ?_, hreach, fun _ => hlt⟩
      have := hcell k (by omega)
      rwa [K4.add_plain] at this
end Go.Proofs.YtjlamnioknbcaaaDoor.K8
