/- a region that draws its order, in stages: each stage's operations in whatever order, with at most one effect in a stage; all of a stage come ahead of the next -/
import Derived.Test.YtgbnpdgaalpkcaaK7
namespace Go.Proofs.Ytgbnpdgaalpkcaa.K9
set_option linter.unusedVariables false
set_option linter.unusedSimpArgs false
open Go.RowKit K3 K7
section
variable {P : Program} {ops : Array Oper} {md : Region.Mode}

def lexF (md : Region.Mode) (ops : Array Oper) (F : Array Bool → Bool) : Nat → Nat → Array Bool → Bool
  | 0, _, listed => F listed
  | f + 1, k, listed => (Region.ready md ops listed).contains k && Region.free md ops listed k && lexF md ops F f (k + 1) (listed.setIfInBounds k true)

theorem Y_lexF {D : World → Prop} {C : Bool → World → Prop} {e n : Nat} {Lq : Act → Prop} {F : Array Bool → Bool} (hsel : Region.noSelect ops = true) (hs : Region.sinkB md ops n = true) (hc : hangB md ops n = true) (hn : n < ops.size)
    (hF : ∀ listed, F listed = true → (Region.ready md ops listed).all (fun j => decide (n ≤ j)) = true) :
    ∀ (l : List Oper) (k : Nat) (listed : Array Bool) (a : Act), (∀ j, j < l.length → l[j]? = ops[k + j]?) → k + l.length = n → HeadInv md ops n listed → (e < k → listed.getD e false = true) → (n ≤ e → listed.getD e false = false) →
    lexF md ops F l.length k listed = true → wpY P ops D C e Lq k l a →
    anyY P md ops D C e n (fun listed' a' => (F listed' = true ∧ HeadInv md ops n listed' ∧ listed'.getD e false = decide (e < n)) ∧ Lq a') l.length listed a
  | [], k, listed, a, _, hk, inv, hpre, hpost, hB, h => by
    obtain rfl : k = n := by simpa using hk
    refine ⟨⟨hB, inv, ?_⟩, h⟩
    by_cases he : e < k
    · simp [hpre he, he]
    · simp [hpost (by omega), he]
  | o :: l, k, listed, a, hl, hk, inv, hpre, hpost, hB, h => by
    have h0 : ops[k]? = some o := by simpa using (hl 0 (by simp)).symm
    simp only [List.length_cons, lexF, Bool.and_eq_true] at hB
    obtain ⟨⟨hr, hf⟩, hB'⟩ := hB
    have hkn : k < n := by simp only [List.length_cons] at hk; omega
    have hr' : k ∈ Region.ready md ops listed := by simpa using hr
    obtain ⟨v, hy, hK⟩ := h
    exact Y_first h0 (Region.noSelect_spec hsel) hs hc hn hkn (fun listed' a' hL j hj => by simpa using List.all_eq_true.1 (hF _ hL.1.1) j hj) l.length listed a inv (Region.free_spec h0 hf) hr' hy
      (Y_lexF hsel hs hc hn hF l (k + 1) _ _ (fun j hj => by have := hl (j + 1) (by simp; omega); simpa [Nat.add_assoc, Nat.add_comm 1 j] using this) (by simp only [List.length_cons] at hk; omega) (inv.set hr' hkn)
        (fun he => by
          by_cases hjk : e = k
          · subst hjk; simp [inv.size, Nat.lt_trans hkn hn]
          · exact getD_set_true (hpre (by omega)))
        (fun he => by rw [getD_set_ne false (by omega)]; exact hpost he) hB' hK)

/-- the check: the stages' ends, from k, with these listed -/
def stagesF (md : Region.Mode) (ops : Array Oper) : List Nat → Nat → Array Bool → Bool
  | [], k, listed => tailF md ops (ops.size - k) k listed
  | n :: ns, k, listed => decide (k ≤ n) && decide (n < ops.size) && Region.sinkB md ops n && hangB md ops n &&
      lexF md ops (fun l => (Region.ready md ops l).all (fun j => decide (n ≤ j)) && stagesF md ops ns n l) (n - k) k listed

def wpStages (P : Program) (ops : Array Oper) (Q : Exit → Act → World → Prop) (l : List Oper) : List Nat → Nat → Act → World → Prop
  | [], k, a, w => wpList P ops Q (l.drop k) a w
  | n :: ns, k, a, w => ∃ (D : World → Prop) (C : Bool → World → Prop) (e : Nat), k ≤ e ∧ stands D C ∧ C false w ∧
      wpY P ops D C e (fun a' => ∀ w', C (decide (e < n)) w' → wpStages P ops Q l ns n a' w') k ((l.take n).drop k) a

theorem stages_any {Q : Exit → Act → World → Prop} {l : List Oper} (hl : l.toArray = ops) (hsel : Region.noSelect ops = true) (hQ : ∀ c a d v w, Q (.panic c) (Act.put a d v) w → Q (.panic c) a w) :
    ∀ (ns : List Nat) (k : Nat) (listed : Array Bool) (a : Act) (w : World), k ≤ ops.size → HeadInv md ops k listed → stagesF md ops ns k listed = true → wpStages P ops Q l ns k a w → wpAny P md ops Q (ops.size - k) listed a w
  | [], k, listed, a, w, _, inv, hB, h => by
    have hdl : (l.drop k).length = ops.size - k := by rw [← hl]; simp
    have := wpAny_of_tailF (md := md) (Q := Q) hsel hQ (l.drop k) k listed a w (fun j => by rw [← hl]; simp [List.getElem?_drop]) (by rw [hdl]; exact hB) h
    rwa [hdl] at this
  | n :: ns, k, listed, a, w, hk, inv, hB, h => by
    simp only [stagesF, Bool.and_eq_true, decide_eq_true_eq] at hB
    obtain ⟨⟨⟨⟨hkn, hn⟩, hs⟩, hc⟩, hlex⟩ := hB
    obtain ⟨D, C, e, hke, hS, hC, hY⟩ := h
    have hls : l.length = ops.size := by rw [← hl]; simp
    have hlen : ((l.take n).drop k).length = n - k := by simp; omega
    have inv' : HeadInv md ops n listed := ⟨inv.size, inv.closed, fun t h1 h2 => inv.tail t (by omega) h2⟩
    have hfe : listed.getD e false = false := by
      by_cases he : e < ops.size
      · exact getD_both (inv.tail e hke he)
      · rw [Array.getD_eq_getD_getElem?, Array.getElem?_eq_none (by rw [inv.size]; omega)]; rfl
    have H := Y_lexF (P := P) (md := md) (D := D) (C := C) (e := e) (n := n) (F := fun l => (Region.ready md ops l).all (fun j => decide (n ≤ j)) && stagesF md ops ns n l) hsel hs hc hn
      (fun listed hh => by simp only [Bool.and_eq_true] at hh; exact hh.1) ((l.take n).drop k) k listed a
      (fun j hj => by
        rw [hlen] at hj
        rw [← hl]
        simp only [List.getElem?_drop, List.getElem?_toArray]
        rw [List.getElem?_take]
        simp [show k + j < n by omega])
      (by rw [hlen]; omega) inv' (fun he => by omega) (fun _ => hfe) (by rw [hlen]; exact hlex) hY
    have := any_of_Y (Q' := Q) hS (g := ops.size - n) (fun listed' a' w' hw' hL => by
      obtain ⟨⟨hF, hinv, hge⟩, hq⟩ := hL
      simp only [Bool.and_eq_true] at hF
      rw [hge] at hw'
      exact stages_any hl hsel hQ ns n listed' a' w' (by omega) hinv hF.2 (hq w' hw')) _ _ _ w inv.size (by rw [hfe]; exact hC) H
    rw [hlen, show n - k + (ops.size - n) = ops.size - k by omega] at this
    exact this

/-- THE LAW. -/
theorem wp_region_stages {id : Nat} {Q : Exit → Act → World → Prop} {a : Act} {w : World} {l : List Oper} (ns : List Nat) (hm : P.follows .mixedOrders = true) (hsel : Region.noSelect l.toArray = true) (hB : stagesF .any l.toArray ns 0 (Array.replicate l.toArray.size false) = true)
    (hQ : ∀ c a d v w, Q (.panic c) (Act.put a d v) w → Q (.panic c) a w)
    (h : wpStages P l.toArray Q l ns 0 a { w with drawn := w.drawn + 1 }) : (Code.region id l.toArray true).wp P Q a w := by
  have inv0 : HeadInv .any l.toArray 0 (Array.replicate l.toArray.size false) :=
    ⟨by simp, fun j oj _ hl => (by rw [getD_replicate_false] at hl; cases hl), fun t _ ht => getD_in (by simpa using ht) (getD_replicate_false _ _)⟩
  exact wp_region_any hm (stages_any rfl hsel hQ ns 0 _ a _ (by omega) inv0 hB h)
theorem stage_go {Q : Exit → Act → World → Prop} {l : List Oper} {n k : Nat} {ns : List Nat} {a : Act} {w : World} (D : World → Prop) (C : Bool → World → Prop) (e : Nat) (hke : k ≤ e) (hS : stands D C) (hC : C false w)
    (hY : wpY P ops D C e (fun a' => ∀ w', C (decide (e < n)) w' → wpStages P ops Q l ns n a' w') k ((l.take n).drop k) a) : wpStages P ops Q l (n :: ns) k a w := ⟨D, C, e, hke, hS, hC, hY⟩
/-- a stage without an effect: all in the memory below w -/
theorem stage_quiet {Q : Exit → Act → World → Prop} {l : List Oper} {n k : Nat} {ns : List Nat} {a : Act} {w : World}
    (hY : wpY P ops (fun x => Below w.heap.size w x) (fun _ x => Below w.heap.size w x) (k + n + 1) (fun a' => ∀ w', Below w.heap.size w w' → wpStages P ops Q l ns n a' w') k ((l.take n).drop k) a) : wpStages P ops Q l (n :: ns) k a w :=
  stage_go (fun x => Below w.heap.size w x) (fun _ x => Below w.heap.size w x) (k + n + 1) (by omega) ⟨fun _ _ h => h, fun _ _ _ h h' => h.trans (h'.mono h.size)⟩ (Below.refl _ _) hY
theorem stage_end {Q : Exit → Act → World → Prop} {l : List Oper} {k : Nat} {a : Act} {w : World} (h : wpList P ops Q (l.drop k) a w) : wpStages P ops Q l [] k a w := h
end
end Go.Proofs.Ytgbnpdgaalpkcaa.K9
