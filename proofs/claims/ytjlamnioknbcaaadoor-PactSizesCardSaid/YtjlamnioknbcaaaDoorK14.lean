/- objects in memory: what a call may turn; slices that own their block -/
import Derived.Test.YtjlamnioknbcaaaDoorK12
import Derived.Deep.AppendLies
import Derived.Laws.BytesArg
import Derived.Laws.IdiomStrings
namespace Go.Proofs.YtjlamnioknbcaaaDoor.K14
set_option linter.unusedVariables false
set_option linter.unusedSimpArgs false
open Go.RowKit K1 K5 K12

def foot (v : Value) : List Nat := v.ownBlock.toList
theorem mem_foot {v : Value} {k : Nat} : k ∈ foot v ↔ v.ownBlock = some k := by unfold foot; cases v.ownBlock <;> simp [eq_comm]
@[simp] theorem foot_nil : foot (.slice none 0 0) = [] := rfl
@[simp] theorem foot_some (a : Addr) (n c : Nat) : foot (.slice (some a) n c) = [a.block] := rfl

/-- blocks of S alone may have been turned; what is then held are blocks of S, or new ones -/
structure Mut (w : World) (S : List Nat) (w' : World) (S' : List Nat) : Prop where
  fr : Fr w.heap.size S w w'
  sub : ∀ k ∈ S', k ∈ S ∨ w.heap.size ≤ k
theorem Mut.refl (w : World) (S : List Nat) : Mut w S w S := ⟨Fr.refl _ _ _, fun k h => .inl h⟩
theorem Mut.trans {a b c : World} {S S' S'' : List Nat} (h : Mut a S b S') (k : Mut b S' c S'') : Mut a S c S'' := by
  refine ⟨⟨k.fr.os.trans h.fr.os, k.fr.tape.trans h.fr.tape, k.fr.output.trans h.fr.output, Nat.le_trans h.fr.size k.fr.size, fun i hi hn => ?_⟩, fun i hi => ?_⟩
  · refine (k.fr.block i (Nat.lt_of_lt_of_le hi h.fr.size) fun hm => ?_).trans (h.fr.block i hi hn)
    rcases h.sub i hm with h1 | h1
    · exact hn h1
    · omega
  · rcases k.sub i hi with h1 | h1
    · exact h.sub i h1
    · right; have := h.fr.size; omega
theorem Mut.size {a b : World} {S S' : List Nat} (h : Mut a S b S') : a.heap.size ≤ b.heap.size := h.fr.size
theorem Mut.keep {a b : World} {S S' : List Nat} (h : Mut a S b S') {k : Nat} (hk : k < a.heap.size) (hn : k ∉ S) : b.heap[k]? = a.heap[k]? := h.fr.block k hk hn
/-- nothing of an object that held nothing below B -/
theorem Mut.below {a b : World} {S S' : List Nat} (h : Mut a S b S') {B : Nat} (hB : B ≤ a.heap.size) (hS : ∀ k ∈ S, B ≤ k) : Below B a b := h.fr.below_of hB hS
theorem Fr.of_grown {w w' : World} {v : Value} (h : w.grownBy w' v.ownBlock) : Fr w.heap.size (foot v) w w' :=
  ⟨h.os, h.tape, h.output, h.size, fun k hk hn => h.block k hk fun e => hn (mem_foot.2 e.symm)⟩

theorem own_keep {w w' : World} {base : Nat} {e : TypeId} {size : Nat} {v : Value} {n : Nat} {xs : List Value} (h : w.ownsRow base e size v n xs) (hk : ∀ k ∈ foot v, w'.heap[k]? = w.heap[k]?) : w'.ownsRow base e size v n xs := by
  refine ⟨h.1, ?_⟩
  rcases h.2 with hn | ⟨g, cap, cur, rfl, hb, hgg, rest⟩
  · exact .inl hn
  · exact .inr ⟨g, cap, cur, rfl, hb, by rw [hk g (by simp)]; exact hgg, rest⟩
theorem own_fr {w w' : World} {B base : Nat} {S : List Nat} {e : TypeId} {size : Nat} {v : Value} {n : Nat} {xs : List Value} (h : w.ownsRow base e size v n xs) (hF : Fr B S w w') (hB : w.heap.size ≤ B) (hk : ∀ k ∈ foot v, k ∉ S) : w'.ownsRow base e size v n xs :=
  own_keep h fun k hm => hF.block k (Nat.lt_of_lt_of_le ((h.lt k (mem_foot.1 hm)).2) hB) (hk k hm)
theorem own_lt {w : World} {base : Nat} {e : TypeId} {size : Nat} {v : Value} {n : Nat} {xs : List Value} (h : w.ownsRow base e size v n xs) : ∀ k ∈ foot v, k < w.heap.size := fun k hm => (h.lt k (mem_foot.1 hm)).2
theorem own_slice {w : World} {base : Nat} {e : TypeId} {size : Nat} {v : Value} {n : Nat} {xs : List Value} (h : w.ownsRow base e size v n xs) : ∃ a c, v = .slice a n c ∧ (a = none → n = 0 ∧ c = 0) := by
  rcases h.2 with ⟨rfl, rfl⟩ | ⟨g, cap, cur, rfl, _⟩
  · exact ⟨none, 0, rfl, fun _ => ⟨rfl, rfl⟩⟩
  · exact ⟨_, _, rfl, fun h => by cases h⟩

/-- blocks through what a walk writes -/
theorem blk_other {w : World} {b : Nat} {p : Addr} {v : Value} (h : b ≠ p.block) : (w.setCell p v).heap[b]? = w.heap[b]? := Below.heap_setCell _ _ _ _ h
theorem blk_alloc {w : World} {b : Nat} {o x : Obj} (h : w.heap[b]? = some x) : (w.alloc o).heap[b]? = some x := by
  rw [Below.heap_alloc _ _ _ (Array.getElem?_eq_some_iff.1 h).1]; exact h
theorem blk_set {w : World} {b i : Nat} {cs : Array Value} {t : TypeId} {v : Value} (h : w.heap[b]? = some (.cells cs t (0, 0))) : (w.setCell ⟨b, i, none⟩ v).heap[b]? = some (.cells (cs.setIfInBounds i v) t (0, 0)) := heap_setCell_at h
theorem blk_drew {w : World} {b : Nat} {x : Obj} (h : w.heap[b]? = some x) : w.drew.heap[b]? = some x := h
theorem blk_below {w w' : World} {B b : Nat} {x : Obj} (h : w.heap[b]? = some x) (hb : Below B w w') (hlt : b < B) : w'.heap[b]? = some x := by rw [hb.block b hlt]; exact h
theorem blk_fr {w w' : World} {B b : Nat} {S : List Nat} {x : Obj} (h : w.heap[b]? = some x) (hb : Fr B S w w') (hlt : b < B) (hS : b ∉ S) : w'.heap[b]? = some x := by rw [hb.block b hlt hS]; exact h
theorem blk_lt {w : World} {b : Nat} {x : Obj} (h : w.heap[b]? = some x) : b < w.heap.size := (Array.getElem?_eq_some_iff.1 h).1

theorem newsB (w : World) (cs : Array Value) (t : TypeId) (g : Nat) (hg : g = w.heap.size) : ∀ j u, cs.toList[j]? = some u → (w.alloc (.cells cs t)).cell? ((⟨g, 0, none⟩ : Addr).add j) = some u := by
  subst hg
  exact World.news_of_block (heap_alloc_new w _)
theorem news1 (w : World) (x : Value) (t : TypeId) (g : Nat) (hg : g = w.heap.size) : ∀ j u, [x][j]? = some u → (w.alloc (.cells #[x] t)).cell? ((⟨g, 0, none⟩ : Addr).add j) = some u := newsB w #[x] t g hg
theorem Fr.app {B : Nat} {S S' : List Nat} {w W1 w1 : World} {v : Value} (h : Fr B S w W1) (hg : W1.grownBy w1 v.ownBlock) (hB : B ≤ W1.heap.size) (hS : ∀ k ∈ S, k ∈ S') (hv : ∀ k ∈ foot v, k ∈ S') : Fr B S' w w1 := by
  refine (h.mono (Nat.le_refl _) fun k hk _ => hS k hk).trans ((Fr.of_grown hg).mono hB fun k hk _ => hv k hk)
theorem foot_app {v : Value} {g n c H : Nat} (h : v.ownBlock = some g ∨ g = H) {B : Nat} (hB : B ≤ H) : ∀ k ∈ foot (.slice (some ⟨g, 0, none⟩) n c), k ∈ foot v ∨ B ≤ k := by
  intro k hk
  simp at hk
  subst hk
  rcases h with h | h
  · exact .inl (mem_foot.2 h)
  · right; omega
theorem cell_new {w : World} {cs : Array Value} {t : TypeId} {g i : Nat} (hg : g = w.heap.size) : (w.alloc (.cells cs t)).cell? ⟨g, i, none⟩ = cs[i]? := by
  subst hg
  exact cell_blk (heap_alloc_new w _) i
theorem own_new (w : World) (cs : Array Value) (e : TypeId) (n : Nat) (hn : n ≤ maxLen) (hs : cs.size = n) : (w.alloc (.cells cs e)).ownsRow 0 e 1 (.slice (some ⟨w.heap.size, 0, none⟩) n n) n cs.toList :=
  ⟨by simp [hs], .inr ⟨w.heap.size, n, cs, rfl, Nat.zero_le _, heap_alloc_new w _, Nat.le_refl _, hn, by simp [hs], by rw [Nat.mul_one, List.take_of_length_le (by simp [hs])]⟩⟩
theorem blk_new {w : World} {o : Go.Obj} {g : Nat} (hg : g = w.heap.size) : (w.alloc o).heap[g]? = some o := by
  subst hg
  exact heap_alloc_new w _
theorem own_base {w : World} {base : Nat} {e : TypeId} {size : Nat} {v : Value} {n : Nat} {xs : List Value} (h : w.ownsRow base e size v n xs) : w.ownsRow 0 e size v n xs :=
  ⟨h.1, h.2.elim Or.inl (fun ⟨g, cap, cur, hv, hg, r⟩ => Or.inr ⟨g, cap, cur, hv, Nat.zero_le _, r⟩)⟩
def u8 (c : UInt8) : Value := .int .u8 c.toNat
end Go.Proofs.YtjlamnioknbcaaaDoor.K14
