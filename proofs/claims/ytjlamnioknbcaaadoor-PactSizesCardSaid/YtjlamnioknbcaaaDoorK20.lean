/- memory in parts: a list of blocks, of slices that own their block, and of old memory, each apart from the others -/
import Derived.Test.YtjlamnioknbcaaaDoorK14
namespace Go.Proofs.YtjlamnioknbcaaaDoor.K20
set_option linter.unusedVariables false
set_option linter.unusedSimpArgs false
open Go.RowKit K1 K5 K12 K14

inductive Res where
  | blk (b : Nat) (cs : List Value) (t : TypeId)
  | row (v : Value) (t : TypeId) (s : Nat) (n : Nat) (xs : List Value)
  | low (B : Nat) (w0 : World)
def Res.holds (w : World) : Res → Prop
  | .blk b cs t => w.heap[b]? = some (.cells cs.toArray t (0, 0))
  | .row v t s n xs => w.ownsRow 0 t s v n xs
  | .low B w0 => B ≤ w0.heap.size ∧ Below B w0 w
def Res.has : Res → Nat → Prop
  | .blk b _ _, k => k = b
  | .row v _ _ _ _, k => v.ownBlock = some k
  | .low B _, k => k < B
def Apart (L : List Res) : Prop := L.Pairwise fun r s => ∀ k, r.has k → ¬ s.has k
structure Sep (w : World) (L : List Res) : Prop where
  all : ∀ r ∈ L, r.holds w
  apart : Apart L

theorem Res.lt {r : Res} {w : World} (h : r.holds w) {k : Nat} (hk : r.has k) : k < w.heap.size := by
  cases r with
  | blk b cs t => obtain rfl : k = b := hk; exact blk_lt h
  | row v t s n xs => exact own_lt (show w.ownsRow 0 t s v n xs from h) k (mem_foot.2 hk)
  | low B w0 => exact Nat.lt_of_lt_of_le hk (Nat.le_trans h.1 h.2.size)
/-- what a step leaves: all blocks but those of S, that were there -/
structure Leaves (S : Nat → Prop) (w w' : World) : Prop where
  os : w'.os = w.os
  tape : w'.tape = w.tape
  output : w'.output = w.output
  size : w.heap.size ≤ w'.heap.size
  block : ∀ k, k < w.heap.size → ¬ S k → w'.heap[k]? = w.heap[k]?
theorem Leaves.of_below {w w' : World} (h : Below w.heap.size w w') (S : Nat → Prop) : Leaves S w w' := ⟨h.os, h.tape, h.output, h.size, fun k hk _ => h.block k hk⟩
theorem Leaves.of_fr {w w' : World} {T : List Nat} (h : Fr w.heap.size T w w') : Leaves (· ∈ T) w w' := ⟨h.os, h.tape, h.output, h.size, fun k hk hn => h.block k hk hn⟩
theorem Leaves.of_grown {w w' : World} {v : Value} (h : w.grownBy w' v.ownBlock) : Leaves (fun k => v.ownBlock = some k) w w' := ⟨h.os, h.tape, h.output, h.size, fun k hk hn => h.block k hk fun e => hn e.symm⟩
theorem Leaves.of_set {w : World} {p : Addr} {v : Value} : Leaves (· = p.block) w (w.setCell p v) := ⟨rfl, rfl, rfl, by simp [World.setCell], fun k hk hn => Below.heap_setCell _ _ _ _ hn⟩
theorem Res.kept {r : Res} {w w' : World} {S : Nat → Prop} (h : r.holds w) (hL : Leaves S w w') (hn : ∀ k, r.has k → ¬ S k) : r.holds w' := by
  have hb : ∀ k, r.has k → w'.heap[k]? = w.heap[k]? := fun k hk => hL.block k (Res.lt h hk) (hn k hk)
  cases r with
  | blk b cs t => exact (hb b rfl).trans h
  | row v t s n xs => exact own_keep (show w.ownsRow 0 t s v n xs from h) fun k hk => hb k (mem_foot.1 hk)
  | low B w0 => exact ⟨h.1, ⟨hL.os.trans h.2.os, hL.tape.trans h.2.tape, hL.output.trans h.2.output, Nat.le_trans h.2.size hL.size, fun k hk => (hb k hk).trans (h.2.block k hk)⟩⟩

section
variable {w w' : World} {L L' F : List Res}
theorem Sep.mem (h : Sep w L) {r : Res} (hm : r ∈ L) : r.holds w := h.all r hm
theorem Sep.perm (h : Sep w L) (hp : L.Perm L') : Sep w L' :=
  ⟨fun r hr => h.all r (hp.symm.mem_iff.1 hr), (hp.pairwise_iff (fun hxy k hk hk' => hxy k hk' hk)).1 h.apart⟩
theorem Sep.sub (h : Sep w L) (hs : L'.Sublist L) : Sep w L' := ⟨fun r hr => h.all r (hs.subset hr), h.apart.sublist hs⟩
theorem Sep.tail {r : Res} (h : Sep w (r :: L)) : Sep w L := h.sub (List.sublist_cons_self _ _)
theorem Sep.right (h : Sep w (L ++ L')) : Sep w L' := h.sub (List.sublist_append_right _ _)
theorem Sep.left (h : Sep w (L ++ L')) : Sep w L := h.sub (List.sublist_append_left _ _)
theorem Sep.frame (h : Sep w L) {S : Nat → Prop} (hL : Leaves S w w') (hn : ∀ r ∈ L, ∀ k, r.has k → ¬ S k) : Sep w' L := ⟨fun r hr => Res.kept (h.all r hr) hL (hn r hr), h.apart⟩
theorem Sep.nil : Sep w [] := ⟨fun r hr => (List.not_mem_nil hr).elim, List.Pairwise.nil⟩
theorem Sep.drew (h : Sep w L) : Sep w.drew L := h.frame (Leaves.of_below (Below.refl _ _).drew (fun _ => False)) (fun _ _ _ _ h => h)
theorem Sep.below (h : Sep w L) (hb : Below w.heap.size w w') : Sep w' L := h.frame (Leaves.of_below hb (fun _ => False)) (fun _ _ _ _ h => h)
theorem Sep.head {r : Res} (h : Sep w (r :: L)) : ∀ s ∈ L, ∀ k, r.has k → ¬ s.has k := fun s hs => (List.pairwise_cons.1 h.apart).1 s hs
/-- the first part is turned, the others stay -/
theorem Sep.turn {r r' : Res} (h : Sep w (r :: L)) {S : Nat → Prop} (hL : Leaves S w w') (hS : ∀ k, k < w.heap.size → S k → r.has k) (hr : r'.holds w') (hh : ∀ k, r'.has k → r.has k ∨ w.heap.size ≤ k) : Sep w' (r' :: L) := by
  have h1 := h.head
  refine ⟨fun s hs => ?_, List.pairwise_cons.2 ⟨fun s hs k hk hk' => ?_, h.tail.apart⟩⟩
  · rcases List.mem_cons.1 hs with rfl | hs
    · exact hr
    · exact Res.kept (h.tail.all s hs) hL fun k hk hSk => h1 s hs k (hS k (Res.lt (h.tail.all s hs) hk) hSk) hk
  · rcases hh k hk with hk | hk
    · exact h1 s hs k hk hk'
    · have := Res.lt (h.tail.all s hs) hk'; omega
/-- a new part -/
theorem Sep.new {r' : Res} (h : Sep w L) (hb : Below w.heap.size w w') (hr : r'.holds w') (hh : ∀ k, r'.has k → w.heap.size ≤ k) : Sep w' (r' :: L) := by
  refine ⟨fun s hs => ?_, List.pairwise_cons.2 ⟨fun s hs k hk hk' => ?_, h.apart⟩⟩
  · rcases List.mem_cons.1 hs with rfl | hs
    · exact hr
    · exact (h.below hb).all s hs
  · have := Res.lt (h.all s hs) hk'; have := hh k hk; omega
theorem Sep.set {b i : Nat} {cs cs' : List Value} {t : TypeId} {v : Value} (h : Sep w (.blk b cs t :: L)) (e : cs' = cs.set i v) : Sep (w.setCell ⟨b, i, none⟩ v) (.blk b cs' t :: L) := by
  subst e
  refine h.turn (Leaves.of_set (p := ⟨b, i, none⟩)) (fun k _ hk => hk) ?_ (fun k hk => .inl hk)
  have := heap_setCell_at (i := i) (v := v) (show w.heap[b]? = some (.cells cs.toArray t (0, 0)) from h.all (.blk b cs t) (by simp))
  simpa [Res.holds] using this
theorem Sep.alloc {cs : Array Value} {t : TypeId} {b : Nat} {xs : List Value} (h : Sep w L) (hb : b = w.heap.size) (e : xs = cs.toList) : Sep (w.alloc (.cells cs t)) (.blk b xs t :: L) := by
  subst hb e
  exact h.new ((Below.refl _ _).alloc (Nat.le_refl _) _) (by simpa [Res.holds] using blk_new (w := w) (o := .cells cs t) rfl) (fun k hk => by obtain rfl : k = _ := hk; exact Nat.le_refl _)
theorem Sep.alloc0 {o : Obj} (h : Sep w L) : Sep (w.alloc o) L := h.below ((Below.refl _ _).alloc (Nat.le_refl _) _)
/-- a block that was made in a region -/
theorem Sep.addBlk {cs : Array Value} {t : TypeId} {b : Nat} {xs : List Value} (h : Sep w L) (hb : Below w.heap.size w w') (hm : w'.heap[b]? = some (.cells cs t (0, 0))) (hk : w.heap.size ≤ b) (e : xs = cs.toList) : Sep w' (.blk b xs t :: L) := by
  subst e
  exact h.new hb (by simpa [Res.holds] using hm) (fun k hk' => by obtain rfl : k = b := hk'; exact hk)
theorem Sep.addRow {v : Value} {t : TypeId} {s n : Nat} {xs : List Value} (h : Sep w L) (hb : Below w.heap.size w w') (hm : w'.ownsRow w.heap.size t s v n xs) : Sep w' (.row v t s n xs :: L) :=
  h.new hb (own_base hm) (fun k hk => (hm.lt k hk).1)
theorem Sep.app {v v' : Value} {t : TypeId} {s n n' : Nat} {xs xs' : List Value} {g : Nat} (h : Sep w (.row v t s n xs :: L)) (hg : w.grownBy w' v.ownBlock) (ho : w'.ownsRow 0 t s v' n' xs') (hv : ∀ k, v'.ownBlock = some k → k = g) (hat : v.ownBlock = some g ∨ g = w.heap.size) : Sep w' (.row v' t s n' xs' :: L) := by
  refine h.turn (Leaves.of_grown hg) (fun k _ hk => hk) ho (fun k hk => ?_)
  obtain rfl := hv k hk
  rcases hat with h | h
  · exact .inl h
  · right; omega
theorem Sep.nilRow {t : TypeId} {s : Nat} (h : Sep w L) : Sep w (.row (.slice none 0 0) t s 0 [] :: L) :=
  h.new (Below.refl _ _) (World.ownsRow_nil _ _ _ _) (fun k hk => by cases hk)
/-- a block is a row -/
theorem Sep.asRow {b n c s : Nat} {cs xs : List Value} {t : TypeId} (h : Sep w (.blk b cs t :: L)) (hc : cs.length = c * s) (hn : n ≤ c) (hm : c ≤ maxLen) (e : xs = cs.take (n * s)) : Sep w (.row (.slice (some ⟨b, 0, none⟩) n c) t s n xs :: L) := by
  subst e
  have h0 : w.heap[b]? = some (.cells cs.toArray t (0, 0)) := h.all (.blk b cs t) (by simp)
  refine h.turn (Leaves.of_below (Below.refl _ _) (fun _ => False)) (fun k _ hk => hk.elim) ⟨?_, .inr ⟨b, c, cs.toArray, rfl, Nat.zero_le _, h0, hn, hm, by simpa using hc, by simp⟩⟩ (fun k hk => .inl ?_)
  · rw [List.length_take, hc]; exact Nat.min_eq_left (Nat.mul_le_mul_right _ hn)
  · exact (Option.some.inj hk).symm
theorem Sep.setRow {g n c s i : Nat} {xs xs' : List Value} {t : TypeId} {v : Value} (h : Sep w (.row (.slice (some ⟨g, 0, none⟩) n c) t s n xs :: L)) (hi : i < n * s) (e : xs' = xs.set i v) : Sep (w.setCell ⟨g, i, none⟩ v) (.row (.slice (some ⟨g, 0, none⟩) n c) t s n xs' :: L) := by
  subst e
  have h0 : w.ownsRow 0 t s (.slice (some ⟨g, 0, none⟩) n c) n xs := h.all (.row (.slice (some ⟨g, 0, none⟩) n c) t s n xs) (by simp)
  refine h.turn (Leaves.of_set (p := ⟨g, i, none⟩)) (fun k _ hk => by obtain rfl : k = g := hk; rfl) ?_ (fun k hk => .inl hk)
  obtain ⟨h1, h2⟩ := h0
  refine ⟨by simpa using h1, ?_⟩
  rcases h2 with ⟨h2, _⟩ | ⟨g', c', cur, h2, _, h4, h5, h6, h7, h8⟩
  · cases h2
  · obtain ⟨rfl, rfl⟩ : g = g' ∧ c = c' := by simpa using h2
    exact .inr ⟨g, c, cur.setIfInBounds i v, rfl, Nat.zero_le _, heap_setCell_at h4, h5, h6, by simpa using h7, by rw [Array.toList_setIfInBounds, List.take_set, h8]⟩

theorem Sep.cells {b : Nat} {cs : List Value} {t : TypeId} (h : Sep w L) (hm : Res.blk b cs t ∈ L) : (∀ i, w.cell? ⟨b, i, none⟩ = cs[i]?) ∧ (∀ i, w.frozen? ⟨b, i, none⟩ = false) ∧ b < w.heap.size := by
  have h0 : w.heap[b]? = some (.cells cs.toArray t (0, 0)) := h.all _ hm
  exact ⟨fun i => by simpa using cell_blk h0 i, froz_blk h0, blk_lt h0⟩
theorem Sep.rowOf {v : Value} {t : TypeId} {s n : Nat} {xs : List Value} (h : Sep w L) (hm : Res.row v t s n xs ∈ L) : w.ownsRow 0 t s v n xs := h.all _ hm
theorem Sep.lowOf {B : Nat} {w0 : World} (h : Sep w L) (hm : Res.low B w0 ∈ L) : Below B w0 w := (h.all _ hm).2
theorem Sep.start (w : World) : Sep w [.low w.heap.size w] := ⟨fun r hr => by rw [List.mem_singleton] at hr; subst hr; exact ⟨Nat.le_refl _, Below.refl _ _⟩, List.pairwise_singleton _ _⟩
theorem Sep.ne {b c : Nat} {cs ds : List Value} {t u : TypeId} (h : Sep w (.blk b cs t :: L)) (hm : Res.blk c ds u ∈ L) : b ≠ c := fun e => h.head _ hm b rfl e
theorem Sep.neRow {b : Nat} {cs : List Value} {t u : TypeId} {v : Value} {s n : Nat} {xs : List Value} (h : Sep w (.blk b cs t :: L)) (hm : Res.row v u s n xs ∈ L) : v.ownBlock ≠ some b := fun e => h.head _ hm b rfl e
theorem Sep.neLow {b : Nat} {cs : List Value} {t : TypeId} {B : Nat} {w0 : World} (h : Sep w (.blk b cs t :: L)) (hm : Res.low B w0 ∈ L) : B ≤ b := Nat.le_of_not_lt (h.head _ hm b rfl)
end
/-- parts put in another order, by their numbers -/
def flat (A : List (List Res)) : List Nat → List Res
  | [] => []
  | [i] => A.getD i []
  | i :: j :: r => A.getD i [] ++ flat A (j :: r)
theorem flat_eq (A : List (List Res)) : ∀ l : List Nat, flat A l = l.flatMap fun i => A.getD i []
  | [] => rfl
  | [i] => by simp [flat]
  | i :: j :: r => by rw [flat, flat_eq A (j :: r)]; rfl
theorem Sep.order {w : World} (A : List (List Res)) (i j : List Nat) (h : Sep w (flat A i)) (hp : i.isPerm j = true) : Sep w (flat A j) := by
  refine h.perm ?_
  rw [flat_eq, flat_eq]
  exact (List.isPerm_iff.1 hp).flatMap_right _
def ins (r : Res) : List Res → Nat → List Res
  | L, 0 => r :: L
  | [], _ + 1 => [r]
  | a :: L, n + 1 => a :: ins r L n
def del : List Res → Nat → List Res
  | [], _ => []
  | _ :: L, 0 => L
  | a :: L, n + 1 => a :: del L n
def setN (r : Res) : List Res → Nat → List Res
  | [], _ => []
  | _ :: L, 0 => r :: L
  | a :: L, n + 1 => a :: setN r L n
theorem ins_perm (r : Res) : ∀ (L : List Res) (n : Nat), (r :: L).Perm (ins r L n)
  | L, 0 => by cases L <;> exact List.Perm.refl _
  | [], n + 1 => List.Perm.refl _
  | a :: L, n + 1 => (List.Perm.swap a r L).trans ((ins_perm r L n).cons a)
theorem del_perm {r : Res} : ∀ {L : List Res} {n : Nat}, L[n]? = some r → L.Perm (r :: del L n)
  | [], n, h => by simp at h
  | a :: L, 0, h => by obtain rfl : a = r := by simpa using h
                       exact List.Perm.refl _
  | a :: L, n + 1, h => ((del_perm (L := L) (n := n) (by simpa using h)).cons a).trans (List.Perm.swap r a (del L n))
theorem del_sub : ∀ (L : List Res) (n : Nat), (del L n).Sublist L
  | [], n => List.Sublist.refl _
  | a :: L, 0 => List.sublist_cons_self _ _
  | a :: L, n + 1 => (del_sub L n).cons_cons a
theorem setN_sub (r : Res) : ∀ (L : List Res) (n : Nat), n < L.length → (setN r L n).Perm (r :: del L n)
  | [], n, h => by simp at h
  | a :: L, 0, _ => List.Perm.refl _
  | a :: L, n + 1, h => ((setN_sub r L n (by simpa using h)).cons a).trans (List.Perm.swap r a (del L n))
/-- the n-th part to the front -/
theorem Sep.front {w : World} {L : List Res} (h : Sep w L) (n : Nat) {r : Res} (hr : L[n]? = some r) : Sep w (r :: del L n) := h.perm (del_perm hr)
/-- the first part to the n-th place -/
theorem Sep.back {w : World} {L : List Res} {r : Res} (h : Sep w (r :: L)) (n : Nat) : Sep w (ins r L n) := h.perm (ins_perm r L n)
theorem Sep.drop {w : World} {L : List Res} (h : Sep w L) (n : Nat) : Sep w (del L n) := h.sub (del_sub L n)
/-- the first part takes the n-th one's place (of those behind it) -/
theorem Sep.over {w : World} {L : List Res} {r : Res} (h : Sep w (r :: L)) (n : Nat) (hn : n < L.length) : Sep w (setN r L n) :=
  (h.sub ((del_sub L n).cons_cons r)).perm (setN_sub r L n hn).symm
theorem Sep.toNil {w : World} {L : List Res} (h : Sep w L) (n : Nat) (t : TypeId) (s : Nat) (hn : n < L.length) : Sep w (setN (.row (.slice none 0 0) t s 0 []) L n) := h.nilRow.over n hn
/-- the n-th part is turned -/
theorem Sep.setAt {w : World} {L : List Res} {b i : Nat} {cs cs' : List Value} {t : TypeId} {v : Value} (h : Sep w L) (n : Nat) (hr : L[n]? = some (.blk b cs t)) (e : cs' = cs.set i v) : Sep (w.setCell ⟨b, i, none⟩ v) (ins (.blk b cs' t) (del L n) n) := ((h.front n hr).set e).back n
theorem Sep.rowAt {w : World} {L : List Res} (h : Sep w L) (n : Nat) {v : Value} {t : TypeId} {s m : Nat} {xs : List Value} (hr : L[n]? = some (.row v t s m xs)) : w.ownsRow 0 t s v m xs := h.all (.row v t s m xs) (List.mem_of_getElem? hr)
theorem Sep.cellsAt {w : World} {L : List Res} (h : Sep w L) (n : Nat) {b : Nat} {cs : List Value} {t : TypeId} (hr : L[n]? = some (.blk b cs t)) : (∀ i, w.cell? ⟨b, i, none⟩ = cs[i]?) ∧ (∀ i, w.frozen? ⟨b, i, none⟩ = false) ∧ b < w.heap.size := h.cells (List.mem_of_getElem? hr)
theorem Sep.lowAt {w : World} {L : List Res} (h : Sep w L) (n : Nat) {B : Nat} {w0 : World} (hr : L[n]? = some (.low B w0)) : Below B w0 w := h.lowOf (List.mem_of_getElem? hr)
/-- what the rest of memory lets one read -/
def Reads (F : List Res) (a : Addr) (n : Nat) (f : Nat → Value) : Prop := ∀ w, Sep w F → ∀ k, k < n → w.cell? (a.add k) = some (f k)
end Go.Proofs.YtjlamnioknbcaaaDoor.K20
