/- append of one bool to a slice of none -/
import Derived.Test.YtgbnpdgaalpkcaaO2
import Derived.Test.YtgbnpdgaalpkcaaK5
import Derived.ArgAppend
import Derived.Deep.RegionHeld
namespace Go.Proofs.Ytgbnpdgaalpkcaa.O9
set_option linter.unusedVariables false
set_option linter.unusedSimpArgs false
open Go.RowKit K1 K5

theorem info_bool : (Try.prog.info? 4).map (fun i => (i.zero, i.size, i.bytes)) = some (some (.bool false), 1, 1) := by kernel_rfl
/-- c cells at off, of a block from B on, that may be written -/
def Room (w : World) (B b off c : Nat) : Prop := B ≤ b ∧ b < w.heap.size ∧ ∀ j, j < c → (w.cell? ⟨b, off + j, none⟩).isSome = true ∧ w.frozen? ⟨b, off + j, none⟩ = false
/-- an empty slice -/
def None' (w : World) (B : Nat) (v : Value) : Prop := v = .slice none 0 0 ∨ ∃ b off c, v = .slice (some ⟨b, off, none⟩) 0 c ∧ Room w B b off c
/-- an empty slice that is not nil -/
def Nil' (w : World) (B : Nat) (v : Value) : Prop := ∃ b off c, v = .slice (some ⟨b, off, none⟩) 0 c ∧ Room w B b off c
/-- a slice of just one -/
def One (w : World) (B : Nat) (v : Value) (x : Bool) : Prop := ∃ b off c, v = .slice (some ⟨b, off, none⟩) 1 (c + 1) ∧ w.cell? ⟨b, off, none⟩ = some (.bool x) ∧ Room w B b (off + 1) c
def Keep (w w' : World) : Prop := w.heap.size ≤ w'.heap.size ∧ ∀ b o, b < w.heap.size → ((w.cell? ⟨b, o, none⟩).isSome = true → (w'.cell? ⟨b, o, none⟩).isSome = true) ∧ w'.frozen? ⟨b, o, none⟩ = w.frozen? ⟨b, o, none⟩
theorem Room.keep {w w' : World} {B b off c : Nat} (h : Room w B b off c) (hk : Keep w w') : Room w' B b off c :=
  ⟨h.1, Nat.lt_of_lt_of_le h.2.1 hk.1, fun j hj => ⟨(hk.2 b _ h.2.1).1 (h.2.2 j hj).1, (hk.2 b _ h.2.1).2.trans (h.2.2 j hj).2⟩⟩
theorem None'.keep {w w' : World} {B : Nat} {v : Value} (h : None' w B v) (hk : Keep w w') : None' w' B v := by
  rcases h with h | ⟨b, off, c, h1, h2⟩
  · exact .inl h
  · exact .inr ⟨b, off, c, h1, h2.keep hk⟩
theorem keep_below {w w' : World} (h : Below w.heap.size w w') : Keep w w' := ⟨h.size, fun b o hb => ⟨fun h1 => by rw [World.cell?_of_block (h.block b hb)]; exact h1, World.frozen?_of_block (h.block b hb)⟩⟩
theorem Keep.trans {a b c : World} (h : Keep a b) (k : Keep b c) : Keep a c := ⟨Nat.le_trans h.1 k.1, fun x o hx => ⟨fun h1 => (k.2 x o (by have := h.1; omega)).1 ((h.2 x o hx).1 h1), ((k.2 x o (by have := h.1; omega)).2).trans (h.2 x o hx).2⟩⟩
theorem keep_cell {w : World} {p : Addr} {u : Value} : Keep w (w.setCell p u) := ⟨by simp, fun b o hb => ⟨fun h1 => by
  by_cases hp : p = ⟨b, o, none⟩
  · subst hp
    rw [World.cell?_setCell_same' _ _ _ h1]
    rfl
  · rw [World.cell?_setCell_other (h := hp)]
    exact h1, by simp⟩⟩
theorem One.below {w w' : World} {B : Nat} {v : Value} {x : Bool} (h : One w B v x) (hb : Below w.heap.size w w') : One w' B v x := by
  obtain ⟨b, off, c, h1, h2, h3⟩ := h
  exact ⟨b, off, c, h1, by rw [hb.cell (p := ⟨b, off, none⟩) h3.2.1]; exact h2, h3.keep (keep_below hb)⟩
theorem One.keep_apart {w : World} {B : Nat} {v : Value} {x : Bool} {p : Addr} {u : Value} (h : One w B v x) (hp : p.block < B) : One (w.setCell p u) B v x := by
  obtain ⟨b, off, c, h1, h2, h3⟩ := h
  refine ⟨b, off, c, h1, ?_, h3.keep keep_cell⟩
  have := h3.1
  rw [World.cell?_setCell_far _ _ _ _ (by simp; omega)]
  exact h2

theorem app1 (ty : TypeId) (w : World) (B g : Nat) (v : Value) (x : Bool) (hv : None' w B v) (hB : B ≤ w.heap.size) (hg : w.cell? ⟨g, 0, none⟩ = some (.bool x)) :
    ∃ v' w', (Builtin.append_ #[38, 38] ty #[v, .slice (some ⟨g, 0, none⟩) 1 1]).run Try.prog w = .ok v' w' ∧ One w' B v' x ∧ Keep w w' ∧ Below B w w' := by
  obtain ⟨i0, hi, hz0, hz1, hz2⟩ := info_parts info_bool
  have hnews : ∀ (j : Nat) (u : Value), [Value.bool x][j]? = some u → w.cell? ((⟨g, 0, none⟩ : Addr).add j) = some u := fun j u hu => by
    cases j with
    | zero => simp at hu; subst hu; simpa [Addr.add] using hg
    | succ j => simp at hu
  have grown : ∀ (bs : Array Value) (n : Nat) (hn : 0 < n), One (w.drew.alloc (.cells (#[Value.bool x] ++ Builtin.zeroCells (Value.bool false).cells (n - 1)) 4)) B (.slice (some ⟨w.heap.size, 0, none⟩) 1 n) x ∧ Keep w (w.drew.alloc (.cells (#[Value.bool x] ++ Builtin.zeroCells (Value.bool false).cells (n - 1)) 4)) ∧ Below B w (w.drew.alloc (.cells (#[Value.bool x] ++ Builtin.zeroCells (Value.bool false).cells (n - 1)) 4)) := by
    intro bs n hn
    have hb : ∀ C ≤ w.heap.size, Below C w (w.drew.alloc (.cells (#[Value.bool x] ++ Builtin.zeroCells (Value.bool false).cells (n - 1)) 4)) := fun C hC => (Below.refl _ _).drew.alloc (by simpa using hC) _
    refine ⟨⟨w.heap.size, 0, n - 1, by simp; omega, ?_, hB, by simp, fun j hj => ⟨?_, ?_⟩⟩, keep_below (hb _ (Nat.le_refl _)), hb _ hB⟩
    · rw [World.cell?_alloc_at (w := w.drew) _ _ w.heap.size _ rfl, Array.getElem?_append_left (by simp)]
      rfl
    · have hz : (Builtin.zeroCells (Value.bool false).cells (n - 1)).size = n - 1 := by simp [Builtin.zeroCells, Value.cells]
      have hlt : 0 + 1 + j < (#[Value.bool x] ++ Builtin.zeroCells (Value.bool false).cells (n - 1)).size := by simp [hz]; omega
      rw [World.cell?_alloc_at (w := w.drew) _ _ w.heap.size _ rfl, Array.getElem?_eq_getElem hlt]
      rfl
    · show (w.drew.alloc (.cells (#[Value.bool x] ++ Builtin.zeroCells (Value.bool false).cells (n - 1)) 4)).frozen? ⟨w.drew.heap.size, 0 + 1 + j, none⟩ = false
      generalize w.drew = y
      simp
  rcases hv with rfl | ⟨b, off, c, rfl, hr⟩
  · have h := run_append_nil w 38 ty 4 i0 (.bool false) Try.underlying38 hi hz0 ⟨g, 0, none⟩ 1 1 [.bool x] (by simp [hz1]) hnews (by omega) (by omega) (by rw [hz2]; omega)
    refine ⟨_, _, h, ?_⟩
    exact grown #[] (grownCap w 1 0 4) (grownCap_ge w 1 0 4)
  · by_cases hc : c = 0
    · subst hc
      have h := run_append_grow w 38 ty 4 i0 (.bool false) Try.underlying38 hi hz0 ⟨b, off, none⟩ 0 0 [] (by simp) (by simp) ⟨g, 0, none⟩ 1 1 [.bool x] (by simp [hz1]) hnews (by omega) (by omega) (by rw [hz2]; decide)
      refine ⟨_, _, h, ?_⟩
      have := grown #[] (grownCap w 1 0 4) (grownCap_ge w 1 0 4)
      simpa using this
    · have h := run_append_room_cells w 38 ty 4 i0 Try.underlying38 hi b off 0 c ⟨g, 0, none⟩ 1 1 [.bool x] (by simp [hz1]) hnews (by simp [Value.oneCell']) (by omega) (fun j hj => by simp at hj; subst hj; simpa using (hr.2.2 0 (by omega)).1) (fun j hj => by simp at hj; subst hj; simpa using (hr.2.2 0 (by omega)).2)
      refine ⟨_, _, h, ?_⟩
      obtain ⟨c', rfl⟩ : ∃ c', c = c' + 1 := ⟨c - 1, by omega⟩
      simp only [Nat.zero_mul, Nat.add_zero, Nat.zero_add, World.setCells]
      have h0 := hr.2.2 0 (by omega)
      simp only [Nat.add_zero] at h0
      refine ⟨⟨b, off, c', rfl, World.cell?_setCell_same' _ _ _ h0.1, ?_⟩, keep_cell, (Below.refl _ _).setCell (by simpa using hr.1) _⟩
      have hr' : Room w B b (off + 1) c' := ⟨hr.1, hr.2.1, fun j hj => by have := hr.2.2 (1 + j) (by omega); rwa [← Nat.add_assoc] at this⟩
      exact hr'.keep keep_cell
theorem cut_ge (y : World) (need old : Nat) (e : TypeId) (tp : Tape) (d : Nat) (hn : 0 < need) : 0 < (Question.appendCap need old e).cut (tp d (.appendCap need old e)) := by
  have h := grownCap_ge { y with tape := tp, drawn := d } need old e
  unfold grownCap at h
  simp only at h
  omega
theorem one_new (y : World) (B n : Nat) (x : Bool) (t : TypeId) (hB : B ≤ y.heap.size) (hn : 0 < n) (b : Nat) (hb : b = y.heap.size) : One (y.alloc (.cells (#[Value.bool x] ++ Builtin.zeroCells #[Value.bool false] (n - 1)) t)) B (.slice (some ⟨b, 0, none⟩) 1 n) x := by
  subst hb
  refine ⟨y.heap.size, 0, n - 1, by simp; omega, ?_, hB, by simp, fun j hj => ⟨?_, ?_⟩⟩
  · rw [World.cell?_alloc_at (w := y) _ _ y.heap.size _ rfl, Array.getElem?_append_left (by simp)]
    rfl
  · have hz : (Builtin.zeroCells #[Value.bool false] (n - 1)).size = n - 1 := by simp [Builtin.zeroCells]
    have hlt : 0 + 1 + j < (#[Value.bool x] ++ Builtin.zeroCells #[Value.bool false] (n - 1)).size := by simp [hz]; omega
    rw [World.cell?_alloc_at (w := y) _ _ y.heap.size _ rfl, Array.getElem?_eq_getElem hlt]
    rfl
  · simp
theorem One.over {w y : World} {B : Nat} {v : Value} {x : Bool} (h : One w B v x) (hs : w.heap.size ≤ y.heap.size) (hb : ∀ b, B ≤ b → b < w.heap.size → y.heap[b]? = w.heap[b]?) : One y B v x := by
  obtain ⟨b, off, c, h1, h2, h3, h4, h5⟩ := h
  have e := hb b h3 h4
  refine ⟨b, off, c, h1, (World.cell?_of_block e).trans h2, h3, by omega, fun j hj => ?_⟩
  rw [World.cell?_of_block e, World.frozen?_of_block e]
  exact h5 j hj
theorem One.fr {w y : World} {B ab : Nat} {v : Value} {x : Bool} (h : One w B v x) (hF : Fr w.heap.size [ab] w y) (hab : ab < B) : One y B v x :=
  h.over hF.size fun b h1 h2 => hF.block b h2 (by simp; omega)
theorem pop1 {w : World} {B b off c : Nat} (h1 : B ≤ b) (h2 : b < w.heap.size) (hr : Room w B b (off + 1) c) : None' w B (.slice (some ⟨b, off + 1, none⟩) 0 c) := .inr ⟨b, off + 1, c, rfl, hr⟩
theorem pop0 {w : World} {B b off : Nat} (h1 : B ≤ b) (h2 : b < w.heap.size) : None' w B (.slice (some ⟨b, off, none⟩) 0 0) := .inr ⟨b, off, 0, rfl, h1, h2, fun j hj => by omega⟩
theorem Nil'.none {w : World} {B : Nat} {v : Value} (h : Nil' w B v) : None' w B v := .inr h
theorem Room.over {w y : World} {B b off c : Nat} (h : Room w B b off c) (hs : w.heap.size ≤ y.heap.size) (hb : y.heap[b]? = w.heap[b]?) : Room y B b off c := by
  obtain ⟨h3, h4, h5⟩ := h
  refine ⟨h3, by omega, fun j hj => ?_⟩
  rw [World.cell?_of_block hb, World.frozen?_of_block hb]
  exact h5 j hj
theorem Room.fr {w y : World} {B b off c : Nat} {S : List Nat} (h : Room w B b off c) (hF : Fr w.heap.size S w y) (hS : ∀ s ∈ S, s < B) : Room y B b off c :=
  h.over hF.size (hF.block b h.2.1 fun hm => by have := hS b hm; have := h.1; omega)
theorem One.frS {w y : World} {B : Nat} {S : List Nat} {v : Value} {x : Bool} (h : One w B v x) (hF : Fr w.heap.size S w y) (hS : ∀ s ∈ S, s < B) : One y B v x :=
  h.over hF.size fun b h1 h2 => hF.block b h2 (fun hm => by have := hS b hm; omega)
theorem None'.frS {w y : World} {B : Nat} {S : List Nat} {v : Value} (h : None' w B v) (hF : Fr w.heap.size S w y) (hS : ∀ s ∈ S, s < B) : None' y B v := by
  rcases h with h | ⟨b, off, c, h1, h2⟩
  · exact .inl h
  · exact .inr ⟨b, off, c, h1, h2.fr hF hS⟩
theorem Nil'.frS {w y : World} {B : Nat} {S : List Nat} {v : Value} (h : Nil' w B v) (hF : Fr w.heap.size S w y) (hS : ∀ s ∈ S, s < B) : Nil' y B v := by
  obtain ⟨b, off, c, h1, h2⟩ := h
  exact ⟨b, off, c, h1, h2.fr hF hS⟩
theorem None'.form {w : World} {B : Nat} {v : Value} (h : None' w B v) : ∃ p c, v = .slice p 0 c := by
  rcases h with h | ⟨b, off, c, h, _⟩
  · exact ⟨_, _, h⟩
  · exact ⟨_, _, h⟩
end Go.Proofs.Ytgbnpdgaalpkcaa.O9
