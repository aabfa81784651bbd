/- what a call leaves of old memory where it writes into a few known blocks -/
import Derived.Test.YtjlamnioknbcaaaDoorK1
namespace Go.Proofs.YtjlamnioknbcaaaDoor.K5
open Go.RowKit K1

/-- below B all blocks but those of S are as they were -/
structure Fr (B : Nat) (S : List Nat) (w w' : World) : Prop where
  os : w'.os = w.os
  tape : w'.tape = w.tape
  output : w'.output = w.output
  size : w.heap.size ≤ w'.heap.size
  block : ∀ k, k < B → k ∉ S → w'.heap[k]? = w.heap[k]?

theorem Fr.of_below {B : Nat} {S : List Nat} {w w' : World} (h : Below B w w') : Fr B S w w' := ⟨h.os, h.tape, h.output, h.size, fun k hk _ => h.block k hk⟩
theorem Fr.below {B : Nat} {w w' : World} (h : Fr B [] w w') : Below B w w' := ⟨h.os, h.tape, h.output, h.size, fun k hk => h.block k hk (by simp)⟩
theorem Fr.below_of {B C : Nat} {S : List Nat} {w w' : World} (h : Fr B S w w') (hC : C ≤ B) (hS : ∀ k ∈ S, C ≤ k) : Below C w w' :=
  ⟨h.os, h.tape, h.output, h.size, fun k hk => h.block k (by omega) (fun hm => by have := hS k hm; omega)⟩
theorem Fr.refl (B : Nat) (S : List Nat) (w : World) : Fr B S w w := ⟨rfl, rfl, rfl, Nat.le_refl _, fun _ _ _ => rfl⟩
theorem Fr.trans {B : Nat} {S : List Nat} {a b c : World} (h : Fr B S a b) (k : Fr B S b c) : Fr B S a c :=
  ⟨k.os.trans h.os, k.tape.trans h.tape, k.output.trans h.output, Nat.le_trans h.size k.size, fun i hi hs => (k.block i hi hs).trans (h.block i hi hs)⟩
theorem Fr.mono {B B' : Nat} {S S' : List Nat} {w w' : World} (h : Fr B S w w') (hB : B' ≤ B) (hS : ∀ k ∈ S, k < B' → k ∈ S') : Fr B' S' w w' :=
  ⟨h.os, h.tape, h.output, h.size, fun k hk hn => h.block k (by omega) (fun hm => hn (hS k hm hk))⟩
theorem Fr.alloc {B : Nat} {S : List Nat} {a w : World} (h : Fr B S a w) (hB : B ≤ w.heap.size) (o : Obj) : Fr B S a (w.alloc o) :=
  h.trans (.of_below ((Below.refl _ _).alloc hB o))
theorem Fr.drew {B : Nat} {S : List Nat} {a w : World} (h : Fr B S a w) : Fr B S a w.drew := ⟨h.os, h.tape, h.output, h.size, h.block⟩
theorem Fr.setCell {B : Nat} {S : List Nat} {a w : World} (h : Fr B S a w) {p : Addr} (hp : p.block ∈ S ∨ B ≤ p.block) (u : Value) : Fr B S a (w.setCell p u) :=
  h.trans ⟨rfl, rfl, rfl, by simp [World.setCell], fun k hk hn => Below.heap_setCell _ _ _ _ (by rintro rfl; rcases hp with hp | hp; exact hn hp; omega)⟩
theorem Fr.cellA {B : Nat} {S : List Nat} {W w1 : World} (h : Fr B S W w1) : ∀ b o, w1.cell? ⟨b, o, none⟩ = if b < B ∧ b ∉ S then W.cell? ⟨b, o, none⟩ else cellX w1 b o := by
  intro b o
  split
  · rename_i hc; exact World.cell?_of_block (h.block b hc.1 hc.2)
  · rfl
theorem Fr.frozA {B : Nat} {S : List Nat} {W w1 : World} (h : Fr B S W w1) : ∀ b o, w1.frozen? ⟨b, o, none⟩ = if b < B ∧ b ∉ S then W.frozen? ⟨b, o, none⟩ else frozX w1 b o := by
  intro b o
  split
  · rename_i hc; exact World.frozen?_of_block (h.block b hc.1 hc.2)
  · rfl
theorem heap_setCell_at {w : World} {b i : Nat} {cs : Array Value} {t : TypeId} {v : Value} (hg : w.heap[b]? = some (.cells cs t (0, 0))) : (w.setCell ⟨b, i, none⟩ v).heap[b]? = some (.cells (cs.setIfInBounds i v) t (0, 0)) :=
  heap_setCell_same w b i cs t v hg
theorem heap_lt {w : World} {b : Nat} {o : Obj} (h : w.heap[b]? = some o) : b < w.heap.size := (Array.getElem?_eq_some_iff.1 h).1
end Go.Proofs.YtjlamnioknbcaaaDoor.K5
