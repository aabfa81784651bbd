/- a slice that is read: what its elements are -/
import Derived.Test.YtjlamnioknbcaaaDoorK20
namespace Go.Proofs.YtjlamnioknbcaaaDoor.K21
set_option linter.unusedVariables false
set_option linter.unusedSimpArgs false
open Go.RowKit K1 K5 K12 K14 K20
/-- v is a slice whose elements read as L; each takes s cells -/
def Rd {α : Type} (s : Nat) (enc : α → List Value) (w : World) (v : Value) (L : List α) : Prop :=
  ∃ a c, v = .slice a L.length c ∧ L.length ≤ c ∧ (L = [] ∨ ∃ b o, a = some ⟨b, o, none⟩ ∧ b < w.heap.size ∧ ∀ k x, L[k]? = some x → ∀ j u, (enc x)[j]? = some u → w.cell? ⟨b, o + k * s + j, none⟩ = some u)
section
variable {α : Type} {s : Nat} {enc : α → List Value} {w w' : World} {v : Value} {L : List α}
theorem Rd.below (h : Rd s enc w v L) (hb : Below w.heap.size w w') : Rd s enc w' v L := by
  obtain ⟨a, c, h1, h2, h3⟩ := h
  refine ⟨a, c, h1, h2, h3.imp id ?_⟩
  rintro ⟨b, o, h4, h5, h6⟩
  exact ⟨b, o, h4, Nat.lt_of_lt_of_le h5 hb.size, fun k x hx j u hu => (World.cell?_of_block (hb.block b h5)).trans (h6 k x hx j u hu)⟩
theorem Rd.drew (h : Rd s enc w v L) : Rd s enc w.drew v L := h.below (Below.refl _ _).drew
theorem Rd.nil (c : Nat) : Rd s enc w (.slice none 0 c) [] := ⟨none, c, rfl, Nat.zero_le _, .inl rfl⟩
theorem Rd.low {B : Nat} {w0 : World} (h : Rd s enc w0 v L) (hB : w0.heap.size ≤ B) (hb : Below B w0 w) : Rd s enc w v L := h.below (hb.mono hB)
/-- an owned slice is read -/
theorem Rd.of_own {base : Nat} {t : TypeId} (h : w.ownsRow base t s v L.length (L.flatMap enc)) (he : ∀ x ∈ L, (enc x).length = s) : Rd s enc w v L := by
  obtain ⟨h1, h2⟩ := h
  rcases h2 with ⟨rfl, hn⟩ | ⟨g, cap, cur, rfl, _, h4, h5, _, h7, h8⟩
  · have : L = [] := List.length_eq_zero_iff.1 hn
    subst this
    exact Rd.nil 0
  · refine ⟨_, cap, rfl, h5, .inr ⟨g, 0, rfl, blk_lt h4, fun k x hx j u hu => ?_⟩⟩
    rw [cell_blk h4]
    have hj : j < s := by
      have := (List.getElem?_eq_some_iff.1 hu).1
      rw [he x (List.mem_of_getElem? hx)] at this
      exact this
    have hk : k < L.length := (List.getElem?_eq_some_iff.1 hx).1
    have key : ∀ (l : List α) (k : Nat), (∀ x ∈ l, (enc x).length = s) → l[k]? = some x → (l.flatMap enc)[k * s + j]? = some u := by
      intro l
      induction l with
      | nil => intro k _ hx; simp at hx
      | cons y l ih =>
        intro k hl hx
        cases k with
        | zero =>
          simp only [List.getElem?_cons_zero, Option.some.injEq] at hx
          subst hx
          rw [List.flatMap_cons, Nat.zero_mul, Nat.zero_add, List.getElem?_append_left (by rw [hl y (by simp)]; exact hj)]
          exact hu
        | succ k =>
          rw [List.flatMap_cons, List.getElem?_append_right (by rw [hl y (by simp), Nat.succ_mul]; omega), hl y (by simp)]
          rw [show (k + 1) * s + j - s = k * s + j by rw [Nat.succ_mul]; omega]
          exact ih k (fun x hx => hl x (by simp [hx])) (by simpa using hx)
    have := key L k he hx
    rw [← h8, List.getElem?_take] at this
    simp only [Nat.zero_add]
    split at this
    · simpa using this
    · cases this
end
def strE (l : List UInt8) : List Value := [.string ⟨l.toArray⟩]
def intE (n : Int) : List Value := [.int .i64 n]
def boolE (b : Bool) : List Value := [.bool b]
def byteE (c : UInt8) : List Value := [.int .u8 c.toNat]
theorem Rd.cell1 {α : Type} {enc : α → List Value} {w : World} {v : Value} {L : List α} (h : Rd 1 enc w v L) {k : Nat} {x : α} (hx : L[k]? = some x) {u : Value} (hu : enc x = [u]) :
    ∃ b o c, v = .slice (some ⟨b, o, none⟩) L.length c ∧ b < w.heap.size ∧ w.cell? ⟨b, o + k, none⟩ = some u := by
  obtain ⟨a, c, h1, h2, h3⟩ := h
  rcases h3 with rfl | ⟨b, o, rfl, h4, h5⟩
  · simp at hx
  · have := h5 k x hx 0 u (by rw [hu]; rfl)
    rw [Nat.mul_one, Nat.add_zero] at this
    exact ⟨b, o, c, h1, h4, this⟩
/-- one element, boxed by the caller -/
theorem Rd.one {α : Type} {enc : α → List Value} {w : World} {b c : Nat} {x : α} {u : Value} (hu : enc x = [u]) (hc : 1 ≤ c) (hb : b < w.heap.size) (h : w.cell? ⟨b, 0, none⟩ = some u) : Rd 1 enc w (.slice (some ⟨b, 0, none⟩) 1 c) [x] := by
  refine ⟨_, c, rfl, hc, .inr ⟨b, 0, rfl, hb, fun k y hy j v hv => ?_⟩⟩
  obtain rfl : k = 0 := by have := (List.getElem?_eq_some_iff.1 hy).1; simpa using this
  obtain rfl : x = y := by simpa using hy
  rw [hu] at hv
  obtain rfl : j = 0 := by have := (List.getElem?_eq_some_iff.1 hv).1; simpa using this
  obtain rfl : u = v := by simpa using hv
  exact h
theorem Rd.list {α : Type} {enc : α → List Value} {w : World} {b o n c : Nat} {f : Nat → α} {u : Nat → Value} (hu : ∀ k, k < n → enc (f k) = [u k]) (hc : n ≤ c) (hb : b < w.heap.size) (h : ∀ k, k < n → w.cell? ⟨b, o + k, none⟩ = some (u k)) : Rd 1 enc w (.slice (some ⟨b, o, none⟩) n c) ((List.range n).map f) := by
  refine ⟨_, c, by simp, by simpa using hc, .inr ⟨b, o, rfl, hb, fun k y hy j v hv => ?_⟩⟩
  have hk : k < n := by have := (List.getElem?_eq_some_iff.1 hy).1; simpa using this
  rw [List.getElem?_map, List.getElem?_range hk] at hy
  simp only [Option.map_some, Option.some.injEq] at hy
  subst hy
  rw [hu k hk] at hv
  obtain rfl : j = 0 := by have := (List.getElem?_eq_some_iff.1 hv).1; simpa using this
  obtain rfl : u k = v := by simpa using hv
  simpa using h k hk
end Go.Proofs.YtjlamnioknbcaaaDoor.K21
