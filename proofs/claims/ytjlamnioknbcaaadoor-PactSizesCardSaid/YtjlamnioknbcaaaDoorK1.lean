/- small laws of my own on worlds -/
import Derived.WalkKit
import Derived.WalkLawsBesides
import Derived.WalkSpells
import Derived.Outline
import Derived.Deep.QuietTactic
import Derived.BigQuiet
import Derived.Below
namespace Go.Proofs.YtjlamnioknbcaaaDoor.K1
open Go.RowKit

/-- what a cell holds, not to be looked into -/
def cellX (w : World) (b o : Nat) : Option Value := w.cell? ⟨b, o, none⟩
def frozX (w : World) (b o : Nat) : Bool := w.frozen? ⟨b, o, none⟩
theorem cellA {B : Nat} {W w1 : World} (hb : Below B W w1) : ∀ b o, w1.cell? ⟨b, o, none⟩ = if b < B then W.cell? ⟨b, o, none⟩ else cellX w1 b o := by
  intro b o
  split
  · exact hb.cell (p := ⟨b, o, none⟩) ‹_›
  · rfl
theorem frozA {B : Nat} {W w1 : World} (hb : Below B W w1) : ∀ b o, w1.frozen? ⟨b, o, none⟩ = if b < B then W.frozen? ⟨b, o, none⟩ else frozX w1 b o := by
  intro b o
  split
  · exact hb.frozen (p := ⟨b, o, none⟩) ‹_›
  · rfl
theorem cell_pastA {w : World} (c : Array Value) (t : TypeId) (f : Nat × Nat) (n i : Nat) : (w.alloc (.cells c t f)).cell? ⟨n, i, none⟩ = if n < w.heap.size then w.cell? ⟨n, i, none⟩ else if n = w.heap.size then c[i]? else cellX (w.alloc (.cells c t f)) n i := by
  split
  · exact World.cell?_alloc_past _ n i ‹_›
  · split
    · subst n; unfold World.cell?; rw [heap_alloc_new]; simp
    · rfl
theorem froz_pastA {w : World} (c : Array Value) (t : TypeId) (n i : Nat) : (w.alloc (.cells c t)).frozen? ⟨n, i, none⟩ = if n < w.heap.size then w.frozen? ⟨n, i, none⟩ else if n = w.heap.size then false else frozX (w.alloc (.cells c t)) n i := by
  split
  · refine World.frozen?_of_block ?_
    exact Below.heap_alloc w _ n ‹_›
  · split
    · subst n; unfold World.frozen?; rw [heap_alloc_new]; simp
    · rfl
theorem aft {W w1 : World} (hb : Below W.heap.size W w1) : (∀ b o, w1.cell? ⟨b, o, none⟩ = if b < W.heap.size then W.cell? ⟨b, o, none⟩ else cellX w1 b o) ∧ (∀ b o, w1.frozen? ⟨b, o, none⟩ = if b < W.heap.size then W.frozen? ⟨b, o, none⟩ else frozX w1 b o) ∧ W.heap.size ≤ w1.heap.size :=
  ⟨cellA hb, frozA hb, hb.size⟩
theorem below_setRow {B : Nat} {W w : World} (h : Below B W w) {g : Nat} (hg : B ≤ g) (cs : Array Value) : Below B W (w.setRow g cs) :=
  h.trans ⟨rfl, rfl, rfl, by simp, fun k hk => setRow_other w g k cs (by omega)⟩
end Go.Proofs.YtjlamnioknbcaaaDoor.K1
