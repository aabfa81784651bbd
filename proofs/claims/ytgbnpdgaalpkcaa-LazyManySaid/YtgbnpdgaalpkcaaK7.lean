/- a region that draws its order and holds ONE operation with an effect: all others look at memory that no operation of the region turns, or make memory -/
import Derived.Test.YtgbnpdgaalpkcaaK3
namespace Go.Proofs.Ytgbnpdgaalpkcaa.K7
set_option linter.unusedVariables false
set_option linter.unusedSimpArgs false
open Go.RowKit K3
section
variable {P : Program} {ops : Array Oper} {md : Region.Mode} {D : World → Prop} {C : Bool → World → Prop} {e : Nat}

def hushUpon (P : Program) (w : World) (v : Value) : Result Next → Prop
  | .ok (.value u) w' => w' = w ∧ u = v
  | .ok .skip w' => w' = w ∧ v = undef
  | .ok (.enter f args) w' => w' = w ∧ Calls P f args w (fun e w'' => e = .returned v ∧ Below w.heap.size w w'')
  | _ => False
def hushAt (P : Program) (o : Oper) (a : Act) (w : World) (v : Value) : Prop := hushUpon P w v ((execOp a.eval o).run P w)

/-- the operation with the effect: a call, or an operation of its own -/
def effUpon (P : Program) (C : World → Prop) (w : World) (v : Value) : Result Next → Prop
  | .ok (.value u) w' => u = v ∧ C w'
  | .ok .skip w' => v = undef ∧ C w'
  | .ok (.enter f args) w' => Calls P f args w' (fun e w'' => e = .returned v ∧ C w'')
  | _ => False
def effAt (P : Program) (o : Oper) (a : Act) (C : World → Prop) (w : World) (v : Value) : Prop := effUpon P C w v ((execOp a.eval o).run P w)

/-- what operation i yields: a quiet one in every world of D; the one with the effect from C false to C true -/
def Yl (P : Program) (ops : Array Oper) (D : World → Prop) (C : Bool → World → Prop) (e : Nat) (i : Nat) (o : Oper) (v : Value) (a : Act) : Prop :=
  (i ≠ e ∧ Region.wanted o (yielded ops a.tmps) = true ∧ ∀ w, D w → hushAt P o a w v) ∨
  (i ≠ e ∧ Region.wanted o (yielded ops a.tmps) = false ∧ v = undef) ∨
  (i = e ∧ Region.wanted o (yielded ops a.tmps) = true ∧ ∀ w, C false w → effAt P o a (C true) w v)

def yOp (P : Program) (ops : Array Oper) (D : World → Prop) (C : Bool → World → Prop) (e : Nat) (i : Nat) (K : Act → Prop) (a : Act) : Prop :=
  match ops[i]? with
  | none => K a
  | some o => ∃ v, Yl P ops D C e i o v a ∧ K (a.put o.dst v)

theorem yOp_mono {i : Nat} {a : Act} {K K' : Act → Prop} (h : ∀ a, K a → K' a) (hh : yOp P ops D C e i K a) : yOp P ops D C e i K' a := by
  unfold yOp at *
  split
  · exact h _ (by simpa [*] using hh)
  · rename_i o ho
    simp only [ho] at hh
    obtain ⟨v, hy, hk⟩ := hh
    exact ⟨v, hy, h _ hk⟩

theorem Yl.of_same {i : Nat} {o : Oper} {v : Value} {a a' : Act} (hy : Yl P ops D C e i o v a) (he : execOp a'.eval o = execOp a.eval o)
    (hw : Region.wanted o (yielded ops a'.tmps) = Region.wanted o (yielded ops a.tmps)) : Yl P ops D C e i o v a' := by
  unfold Yl hushAt effAt at *
  rw [he, hw]
  exact hy

theorem yOp_put {i j : Nat} {oi oj : Oper} {v : Value} (hj : ops[j]? = some oj) (hap : oi.apart ops oj = true)
    (hsi : ∀ cs b, oi.op ≠ .select cs b) (hsj : ∀ cs b, oj.op ≠ .select cs b) {K : Act → Prop} {a : Act}
    (hy : Yl P ops D C e i oi v a) (h : yOp P ops D C e j K (a.put oi.dst v)) :
    yOp P ops D C e j (fun a' => Yl P ops D C e i oi v a' ∧ K (a'.put oi.dst v)) a := by
  obtain ⟨h1, h2, h3⟩ := Oper.apart_spec hap
  unfold yOp at *
  simp only [hj] at *
  obtain ⟨u, hu, hk⟩ := h
  refine ⟨u, hu.of_same (execOp_put oj hsj a oi.dst v h1).symm (wanted_put oj a oi.dst v h1).symm, ?_, by rw [← Act.put_comm a v u h2]; exact hk⟩
  exact hy.of_same (execOp_put oi hsi a oj.dst u h3) (wanted_put oi a oj.dst u h3)

/-- the class of the world, by whether the effect has come -/
def stands (D : World → Prop) (C : Bool → World → Prop) : Prop := (∀ b w, C b w → D w) ∧ ∀ b w w', C b w → Below w.heap.size w w' → C b w'

theorem wpOp_of_yOp (hS : stands D C) {i : Nat} {a : Act} {K : Act → Prop} {K' : Act → World → Prop} {Q' : Exit → Act → World → Prop} {w : World} {b : Bool} (hb : i = e → b = false) (hC : C b w)
    (h : ∀ a w', C (b || decide (i = e)) w' → K a → K' a w') (hio : i ≠ e ∨ (ops[i]?).isSome = true) (hh : yOp P ops D C e i K a) : wpOp P ops Q' i K' a w := by
  unfold yOp at hh
  unfold wpOp
  split
  · rename_i ho
    simp only [ho] at hh
    rcases hio with hio | hio
    · exact h _ _ (by simpa [hio] using hC) hh
    · simp [ho] at hio
  · rename_i o ho
    simp only [ho] at hh
    obtain ⟨v, hy, hk⟩ := hh
    rcases hy with ⟨hne, hw, hq⟩ | ⟨hne, hw, rfl⟩ | ⟨heq, hw, hq⟩
    · simp only [hw, if_true]
      refine .inl ?_
      have h3 := hq w (hS.1 b w hC)
      have h' : ∀ a w', C b w' → K a → K' a w' := fun a w' hc hk => h a w' (by simpa [hne] using hc) hk
      unfold hushAt at h3
      unfold Oper.wp
      generalize (execOp a.eval o).run P w = r at *
      cases r with
      | ok n w' =>
        cases n <;> simp only [hushUpon] at h3 <;> simp only [Oper.upon]
        case value u => obtain ⟨e1, e2⟩ := h3; rw [e1, e2]; exact h' _ _ hC hk
        case skip => obtain ⟨e1, e2⟩ := h3; rw [e1, ← e2]; exact h' _ _ hC hk
        case enter f args =>
          obtain ⟨e1, hc⟩ := h3
          rw [e1]
          exact hc.mono fun e w'' ⟨he, hw''⟩ => by subst he; exact h' _ _ (hS.2 b w w'' hC hw'') hk
      | halt x w' => simp only [hushUpon] at h3
    · simp only [hw, Bool.false_eq_true, if_false]
      exact h _ _ (by simpa [hne] using hC) hk
    · subst heq
      obtain rfl := hb rfl
      simp only [hw, if_true]
      refine .inl ?_
      have h3 := hq w hC
      have h' : ∀ a w', C true w' → K a → K' a w' := fun a w' hc hk => h a w' (by simpa using hc) hk
      unfold effAt at h3
      unfold Oper.wp
      generalize (execOp a.eval o).run P w = r at *
      cases r with
      | ok n w' =>
        cases n <;> simp only [effUpon] at h3 <;> simp only [Oper.upon]
        case value u => obtain ⟨e1, e2⟩ := h3; rw [e1]; exact h' _ _ e2 hk
        case skip => obtain ⟨e1, e2⟩ := h3; rw [← e1]; exact h' _ _ e2 hk
        case enter f args => exact h3.mono fun e w'' ⟨he, hw''⟩ => by subst he; exact h' _ _ hw'' hk
      | halt x w' => simp only [effUpon] at h3

def anyY (P : Program) (md : Region.Mode) (ops : Array Oper) (D : World → Prop) (C : Bool → World → Prop) (e n : Nat) (L : Array Bool → Act → Prop) : Nat → Array Bool → Act → Prop
  | 0, listed, a => L listed a
  | f + 1, listed, a => Region.ready md ops listed ≠ [] ∧ ∀ i ∈ Region.ready md ops listed, i < n ∧ yOp P ops D C e i (anyY P md ops D C e n L f (listed.setIfInBounds i true)) a

theorem any_of_Y (hS : stands D C) {n g : Nat} {L : Array Bool → Act → Prop} {Q' : Exit → Act → World → Prop} (hL : ∀ listed a w, C (listed.getD e false) w → L listed a → wpAny P md ops Q' g listed a w) :
    ∀ (f : Nat) (listed : Array Bool) (a : Act) (w : World), listed.size = ops.size → C (listed.getD e false) w → anyY P md ops D C e n L f listed a → wpAny P md ops Q' (f + g) listed a w
  | 0, listed, a, w, _, hC, h => by rw [Nat.zero_add]; exact hL _ _ _ hC h
  | f + 1, listed, a, w, hsz, hC, h => by
    rw [show f + 1 + g = (f + g) + 1 by omega]
    refine ⟨fun h0 => absurd h0 h.1, fun i hi => ?_⟩
    obtain ⟨hun, oi, hoi, _⟩ := mem_ready.1 hi
    have hil : i < ops.size := (Array.getElem?_eq_some_iff.1 hoi).1
    refine wpOp_of_yOp hS (fun hie => by subst hie; exact getD_both hun) hC (fun a' w' hw' h' => any_of_Y hS hL f _ a' w' (by simp [hsz]) ?_ h') (.inr (by simp [hoi])) (h.2 i hi).2
    by_cases hie : i = e
    · subst hie
      have : (listed.setIfInBounds i true).getD i false = true := by simp [hsz, hil]
      rw [this]
      simpa using hw'
    · rw [getD_set_ne false hie]
      simpa [hie] using hw'

theorem Y_first {n i : Nat} {oi : Oper} {v : Value} {L : Array Bool → Act → Prop} (hi : ops[i]? = some oi) (hsel : ∀ (j : Nat) (o : Oper) cs b, ops[j]? = some o → o.op ≠ .select cs b)
    (hs : Region.sinkB md ops n = true) (hc : hangB md ops n = true) (hn : n < ops.size) (hin : i < n)
    (hdone : ∀ listed a, L listed a → ∀ j ∈ Region.ready md ops listed, n ≤ j) :
    ∀ (f : Nat) (listed : Array Bool) (a : Act), HeadInv md ops n listed →
      (∀ j oj, ops[j]? = some oj → j ≠ i → listed.getD j true = false → (∀ e ∈ oj.after, Region.binds md e = true → e.on ≠ i) → oi.apart ops oj = true) →
      i ∈ Region.ready md ops listed → Yl P ops D C e i oi v a →
      anyY P md ops D C e n L f (listed.setIfInBounds i true) (a.put oi.dst v) → anyY P md ops D C e n L (f + 1) listed a := by
  intro f
  induction f with
  | zero =>
    intro listed a inv _ hr hy H
    have hun := (mem_ready.1 hr).1
    refine ⟨fun h => (by rw [h] at hr; cases hr), fun j hj => ?_⟩
    have hjn : j < n := (Nat.lt_or_ge j n).elim id fun h => absurd hj (tail_hangs hs hc hn inv _ i rfl hin hun j h)
    refine ⟨hjn, ?_⟩
    by_cases hji : j = i
    · subst hji; unfold yOp; simp only [hi]; exact ⟨v, hy, H⟩
    · have := hdone _ _ H j (ready_mono hj hji)
      omega
  | succ f ih =>
    intro listed a inv hfree hr hy H
    have hun := (mem_ready.1 hr).1
    refine ⟨fun h => (by rw [h] at hr; cases hr), fun j hj => ?_⟩
    have hjn : j < n := (Nat.lt_or_ge j n).elim id fun h => absurd hj (tail_hangs hs hc hn inv _ i rfl hin hun j h)
    refine ⟨hjn, ?_⟩
    by_cases hji : j = i
    · subst hji; unfold yOp; simp only [hi]; exact ⟨v, hy, H⟩
    · have h1 := (H.2 j (ready_mono hj hji)).2
      obtain ⟨hjun, oj, hoj, hall⟩ := mem_ready.1 hj
      have hnot : ∀ e ∈ oj.after, Region.binds md e = true → e.on ≠ i := fun e he hb heq => by
        have h2 := hall e he hb
        rw [heq, getD_both hun] at h2
        cases h2
      have h2 := yOp_put hoj (hfree j oj hoj hji hjun hnot) (fun cs b => hsel i oi cs b hi) (fun cs b => hsel j oj cs b hoj) hy h1
      have hfree' : ∀ k ok, ops[k]? = some ok → k ≠ i → (listed.setIfInBounds j true).getD k true = false →
          (∀ e ∈ ok.after, Region.binds md e = true → e.on ≠ i) → oi.apart ops ok = true := fun k ok hk hki hun' hno => by
        refine hfree k ok hk hki ?_ hno
        by_cases hjk : j = k
        · subst hjk; exact hjun
        · rwa [getD_set_ne true hjk] at hun'
      refine yOp_mono (fun a' h3 => ih (listed.setIfInBounds j true) a' (inv.set hj hjn) hfree' (ready_mono hr (Ne.symm hji)) h3.1 ?_) h2
      rw [Array.setIfInBounds_comm _ _ hji]
      exact h3.2

/-- the walk in the order of the text -/
def wpY (P : Program) (ops : Array Oper) (D : World → Prop) (C : Bool → World → Prop) (e : Nat) (Q : Act → Prop) : Nat → List Oper → Act → Prop
  | _, [], a => Q a
  | i, o :: rest, a => ∃ v, Yl P ops D C e i o v a ∧ wpY P ops D C e Q (i + 1) rest (a.put o.dst v)

theorem Y_lex {n g : Nat} {Lq : Act → Prop} (hsel : Region.noSelect ops = true) (hs : Region.sinkB md ops n = true) (hc : hangB md ops n = true) (hn : n < ops.size) :
    ∀ (l : List Oper) (k : Nat) (listed : Array Bool) (a : Act), (∀ j, j < l.length → l[j]? = ops[k + j]?) → k + l.length = n → HeadInv md ops n listed → (∀ j, j < k → listed.getD j false = true) →
    lexHead' md ops g l.length k listed = true → wpY P ops D C e Lq k l a →
    anyY P md ops D C e n (fun listed' a' => ((Region.ready md ops listed').all (fun j => decide (n ≤ j)) = true ∧ tailF md ops g n listed' = true ∧ (e < n → listed'.getD e false = true)) ∧ Lq a') l.length listed a
  | [], k, listed, a, _, hk, inv, hpre, hB, h => by
    obtain rfl : k = n := by simpa using hk
    simp only [List.length_nil, lexHead', Bool.and_eq_true] at hB
    refine ⟨⟨hB.1, hB.2, fun he => hpre e he⟩, h⟩
  | o :: l, k, listed, a, hl, hk, inv, hpre, hB, h => by
    have h0 : ops[k]? = some o := by simpa using (hl 0 (by simp)).symm
    simp only [List.length_cons, lexHead', Bool.and_eq_true] at hB
    obtain ⟨⟨hr, hf⟩, hB'⟩ := hB
    have hkn : k < n := by simp only [List.length_cons] at hk; omega
    have hr' : k ∈ Region.ready md ops listed := by simpa using hr
    obtain ⟨v, hy, hK⟩ := h
    exact Y_first h0 (Region.noSelect_spec hsel) hs hc hn hkn (fun listed' a' hL j hj => by simpa using List.all_eq_true.1 hL.1.1 j hj) l.length listed a inv (Region.free_spec h0 hf) hr' hy
      (Y_lex hsel hs hc hn l (k + 1) _ _ (fun j hj => by have := hl (j + 1) (by simp; omega); simpa [Nat.add_assoc, Nat.add_comm 1 j] using this) (by simp only [List.length_cons] at hk; omega) (inv.set hr' hkn)
        (fun j hj => by
          by_cases hjk : j = k
          · subst hjk; simp [inv.size, Nat.lt_trans hkn hn]
          · exact getD_set_true (hpre j (by omega))) hB' hK)

/-- in whatever order; one operation with an effect; then the tail -/
theorem wp_region_eff_tail {id : Nat} {Q : Exit → Act → World → Prop} {a : Act} {w : World} {l : List Oper} (D : World → Prop) (C : Bool → World → Prop) (e n : Nat) (hm : P.follows .mixedOrders = true) (hB : lexTail' .any l.toArray n = true) (hen : e < n)
    (hQ : ∀ c a d v w, Q (.panic c) (Act.put a d v) w → Q (.panic c) a w) (hS : stands D C) (hC : C false { w with drawn := w.drawn + 1 })
    (h : wpY P l.toArray D C e (fun a' => ∀ w', C true w' → wpList P l.toArray Q (l.drop n) a' w') 0 (l.take n) a) : (Code.region id l.toArray true).wp P Q a w := by
  simp only [lexTail', Bool.and_eq_true, decide_eq_true_eq] at hB
  obtain ⟨⟨⟨⟨hsel, hn⟩, hs⟩, hc⟩, hlex⟩ := hB
  have hn' : n < l.length := by simpa using hn
  have htl : (l.take n).length = n := by simp; omega
  have hdl : (l.drop n).length = l.toArray.size - n := by simp
  have inv0 : HeadInv .any l.toArray n (Array.replicate l.toArray.size false) :=
    ⟨by simp, fun j oj _ hl => (by rw [getD_replicate_false] at hl; cases hl), fun t _ ht => getD_in (by simpa using ht) (getD_replicate_false _ _)⟩
  have H := Y_lex (md := .any) (g := l.toArray.size - n) hsel hs hc hn (l.take n) 0 _ a (fun j hj => by
    have hj' : j < n := by rw [htl] at hj; exact hj
    simp [hj']) (by simpa using htl) inv0 (fun j hj => by omega) (by rw [htl]; exact hlex) h
  refine wp_region_any hm ?_
  have := any_of_Y (Q' := Q) hS (g := l.toArray.size - n) (fun listed a' w' hw' hL => by
    have := wpAny_of_tailF (md := .any) (Q := Q) hsel hQ (l.drop n) n listed a' w' (fun j => by simp [List.getElem?_drop]) (by rw [hdl]; exact hL.1.2.1) (hL.2 w' (by rw [hL.1.2.2 hen] at hw'; exact hw'))
    rwa [hdl] at this) _ _ _ _ (by simp) (by rw [getD_replicate_false]; exact hC) H
  rw [htl, show n + (l.toArray.size - n) = l.toArray.size by omega] at this
  exact this

theorem wpY_nil {Q : Act → Prop} {i : Nat} {a : Act} (h : Q a) : wpY P ops D C e Q i [] a := h
theorem wpY_skip {Q : Act → Prop} {i : Nat} {a : Act} {o : Oper} {rest : List Oper} (hi : i ≠ e) (h : Region.wanted o (yielded ops a.tmps) = false) (hK : wpY P ops D C e Q (i + 1) rest (a.put o.dst undef)) : wpY P ops D C e Q i (o :: rest) a :=
  ⟨undef, .inr (.inl ⟨hi, h, rfl⟩), hK⟩
theorem wpY_do {Q : Act → Prop} {i : Nat} {a : Act} {o : Oper} {rest : List Oper} (hi : i ≠ e) (h : Region.wanted o (yielded ops a.tmps) = true) (h1 : ∃ v, (∀ w, D w → hushAt P o a w v) ∧ wpY P ops D C e Q (i + 1) rest (a.put o.dst v)) : wpY P ops D C e Q i (o :: rest) a :=
  let ⟨v, h2, h3⟩ := h1
  ⟨v, .inl ⟨hi, h, h2⟩, h3⟩
theorem wpY_eff {Q : Act → Prop} {i : Nat} {a : Act} {o : Oper} {rest : List Oper} (hi : i = e) (h : Region.wanted o (yielded ops a.tmps) = true) (h1 : ∃ v, (∀ w, C false w → effAt P o a (C true) w v) ∧ wpY P ops D C e Q (i + 1) rest (a.put o.dst v)) : wpY P ops D C e Q i (o :: rest) a :=
  let ⟨v, h2, h3⟩ := h1
  ⟨v, .inr (.inr ⟨hi, h, h2⟩), h3⟩
end
end Go.Proofs.Ytgbnpdgaalpkcaa.K7
