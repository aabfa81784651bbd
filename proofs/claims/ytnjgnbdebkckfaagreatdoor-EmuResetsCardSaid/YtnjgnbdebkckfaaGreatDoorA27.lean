/- K7, K9 -/
import Derived.Test.YtnjgnbdebkckfaaGreatDoorA1
set_option linter.unusedVariables false
set_option linter.unusedSimpArgs false
set_option linter.unnecessarySimpa false
namespace Go.Proofs.YtnjgnbdebkckfaaGreatDoor.K7
open Go.RowKit K3
section
variable {P : Program} {ops : Array Oper} {md : Region.Mode} {D : World → Prop} {C : Bool → World → Prop} {e : Nat}
def hushUpon (P : Program) (w : World) (v : Value) : Result Next → Prop
  | .ok (.value u) w' => w' = w ∧ u = v
  | .ok .skip w' => w' = w ∧ v = undef
  | .ok (.enter f args) w' => w' = w ∧ Calls P f args w (fun e w'' => e = .returned v ∧ Below w.heap.size w w'')
  | _ => False
def hushAt (P : Program) (o : Oper) (a : Act) (w : World) (v : Value) : Prop := hushUpon P w v ((execOp a.eval o).run P w)
/-- the operation with the effect: a call, or an operation of its own -/
def effUpon (P : Program) (C : World → Prop) (w : World) (v : Value) : Result Next → Prop
  | .ok (.value u) w' => u = v ∧ C w'
  | .ok .skip w' => v = undef ∧ C w'
  | .ok (.enter f args) w' => Calls P f args w' (fun e w'' => e = .returned v ∧ C w'')
  | _ => False
def effAt (P : Program) (o : Oper) (a : Act) (C : World → Prop) (w : World) (v : Value) : Prop := effUpon P C w v ((execOp a.eval o).run P w)
/-- what operation i yields: a quiet one in every world of D; the one with the effect from C false to C true -/
def Yl (P : Program) (ops : Array Oper) (D : World → Prop) (C : Bool → World → Prop) (e : Nat) (i : Nat) (o : Oper) (v : Value) (a : Act) : Prop :=
  (i ≠ e ∧ Region.wanted o (yielded ops a.tmps) = true ∧ ∀ w, D w → hushAt P o a w v) ∨
  (i ≠ e ∧ Region.wanted o (yielded ops a.tmps) = false ∧ v = undef) ∨
  (i = e ∧ Region.wanted o (yielded ops a.tmps) = true ∧ ∀ w, C false w → effAt P o a (C true) w v)
def yOp (P : Program) (ops : Array Oper) (D : World → Prop) (C : Bool → World → Prop) (e : Nat) (i : Nat) (K : Act → Prop) (a : Act) : Prop :=
  match ops[i]? with
  | none => K a
  | some o => ∃ v, Yl P ops D C e i o v a ∧ K (a.put o.dst v)
theorem yOp_mono {i : Nat} {a : Act} {K K' : Act → Prop} (h : ∀ a, K a → K' a) (hh : yOp P ops D C e i K a) : yOp P ops D C e i K' a := by
  unfold yOp at *
  split
  · exact h _ (by simpa [*] using hh)
  · rename_i o ho
    simp only [ho] at hh
    obtain ⟨v, hy, hk⟩ := hh
    exact ⟨v, hy, h _ hk⟩
theorem Yl.of_same {i : Nat} {o : Oper} {v : Value} {a a' : Act} (hy : Yl P ops D C e i o v a) (he : execOp a'.eval o = execOp a.eval o)
    (hw : Region.wanted o (yielded ops a'.tmps) = Region.wanted o (yielded ops a.tmps)) : Yl P ops D C e i o v a' := by
  unfold Yl hushAt effAt at *
  rw [he, hw]
  exact hy
theorem yOp_put {i j : Nat} {oi oj : Oper} {v : Value} (hj : ops[j]? = some oj) (hap : oi.apart ops oj = true)
    (hsi : ∀ cs b, oi.op ≠ .select cs b) (hsj : ∀ cs b, oj.op ≠ .select cs b) {K : Act → Prop} {a : Act}
    (hy : Yl P ops D C e i oi v a) (h : yOp P ops D C e j K (a.put oi.dst v)) :
    yOp P ops D C e j (fun a' => Yl P ops D C e i oi v a' ∧ K (a'.put oi.dst v)) a := by
  obtain ⟨h1, h2, h3⟩ := Oper.apart_spec hap
  unfold yOp at *
  simp only [hj] at *
  obtain ⟨u, hu, hk⟩ := h
  refine ⟨u, hu.of_same (execOp_put oj hsj a oi.dst v h1).symm (wanted_put oj a oi.dst v h1).symm, ?_, by rw [← Act.put_comm a v u h2]; exact hk⟩
  exact hy.of_same (execOp_put oi hsi a oj.dst u h3) (wanted_put oi a oj.dst u h3)
/-- the class of the world, by whether the effect has come -/
def stands (D : World → Prop) (C : Bool → World → Prop) : Prop := (∀ b w, C b w → D w) ∧ ∀ b w w', C b w → Below w.heap.size w w' → C b w'
theorem wpOp_of_yOp (hS : stands D C) {i : Nat} {a : Act} {K : Act → Prop} {K' : Act → World → Prop} {Q' : Exit → Act → World → Prop} {w : World} {b : Bool} (hb : i = e → b = false) (hC : C b w)
    (h : ∀ a w', C (b || decide (i = e)) w' → K a → K' a w') (hio : i ≠ e ∨ (ops[i]?).isSome = true) (hh : yOp P ops D C e i K a) : wpOp P ops Q' i K' a w := by
  unfold yOp at hh
  unfold wpOp
  split
  · rename_i ho
    simp only [ho] at hh
    rcases hio with hio | hio
    · exact h _ _ (by simpa [hio] using hC) hh
    · simp [ho] at hio
  · rename_i o ho
    simp only [ho] at hh
    obtain ⟨v, hy, hk⟩ := hh
    rcases hy with ⟨hne, hw, hq⟩ | ⟨hne, hw, rfl⟩ | ⟨heq, hw, hq⟩
    · simp only [hw, if_true]
      refine .inl ?_
      have h3 := hq w (hS.1 b w hC)
      have h' : ∀ a w', C b w' → K a → K' a w' := fun a w' hc hk => h a w' (by simpa [hne] using hc) hk
      unfold hushAt at h3
      unfold Oper.wp
      generalize (execOp a.eval o).run P w = r at *
      cases r with
      | ok n w' =>
        cases n <;> simp only [hushUpon] at h3 <;> simp only [Oper.upon]
        case value u => obtain ⟨e1, e2⟩ := h3; rw [e1, e2]; exact h' _ _ hC hk
        case skip => obtain ⟨e1, e2⟩ := h3; rw [e1, ← e2]; exact h' _ _ hC hk
        case enter f args =>
          obtain ⟨e1, hc⟩ := h3
          rw [e1]
          exact hc.mono fun e w'' ⟨he, hw''⟩ => by subst he; exact h' _ _ (hS.2 b w w'' hC hw'') hk
      | halt x w' => simp only [hushUpon] at h3
    · simp only [hw, Bool.false_eq_true, if_false]
      exact h _ _ (by simpa [hne] using hC) hk
    · subst heq
      obtain rfl := hb rfl
      simp only [hw, if_true]
      refine .inl ?_
      have h3 := hq w hC
      have h' : ∀ a w', C true w' → K a → K' a w' := fun a w' hc hk => h a w' (by simpa using hc) hk
      unfold effAt at h3
      unfold Oper.wp
      generalize (execOp a.eval o).run P w = r at *
      cases r with
      | ok n w' =>
        cases n <;> simp only [effUpon] at h3 <;> simp only [Oper.upon]
        case value u => obtain ⟨e1, e2⟩ := h3; rw [e1]; exact h' _ _ e2 hk
        case skip => obtain ⟨e1, e2⟩ := h3; rw [← e1]; exact h' _ _ e2 hk
        case enter f args => exact h3.mono fun e w'' ⟨he, hw''⟩ => by subst he; exact h' _ _ hw'' hk
      | halt x w' => simp only [effUpon] at h3
def anyY (P : Program) (md : Region.Mode) (ops : Array Oper) (D : World → Prop) (C : Bool → World → Prop) (e n : Nat) (L : Array Bool → Act → Prop) : Nat → Array Bool → Act → Prop
  | 0, listed, a => L listed a
  | f + 1, listed, a => Region.ready md ops listed ≠ [] ∧ ∀ i ∈ Region.ready md ops listed, i < n ∧ yOp P ops D C e i (anyY P md ops D C e n L f (listed.setIfInBounds i true)) a
theorem any_of_Y (hS : stands D C) {n g : Nat} {L : Array Bool → Act → Prop} {Q' : Exit → Act → World → Prop} (hL : ∀ listed a w, C (listed.getD e false) w → L listed a → wpAny P md ops Q' g listed a w) :
    ∀ (f : Nat) (listed : Array Bool) (a : Act) (w : World), listed.size = ops.size → C (listed.getD e false) w → anyY P md ops D C e n L f listed a → wpAny P md ops Q' (f + g) listed a w
  | 0, listed, a, w, _, hC, h => by rw [Nat.zero_add]; exact hL _ _ _ hC h
  | f + 1, listed, a, w, hsz, hC, h => by
    rw [show f + 1 + g = (f + g) + 1 by omega]
    refine ⟨fun h0 => absurd h0 h.1, fun i hi => ?_⟩
    obtain ⟨hun, oi, hoi, _⟩ := mem_ready.1 hi
    have hil : i < ops.size := (Array.getElem?_eq_some_iff.1 hoi).1
    refine wpOp_of_yOp hS (fun hie => by subst hie; exact getD_both hun) hC (fun a' w' hw' h' => any_of_Y hS hL f _ a' w' (by simp [hsz]) ?_ h') (.inr (by simp [hoi])) (h.2 i hi).2
    by_cases hie : i = e
    · subst hie
      have : (listed.setIfInBounds i true).getD i false = true := by simp [hsz, hil]
      rw [this]
      simpa using hw'
    · rw [getD_set_ne false hie]
      simpa [hie] using hw'
theorem Y_first {n i : Nat} {oi : Oper} {v : Value} {L : Array Bool → Act → Prop} (hi : ops[i]? = some oi) (hsel : ∀ (j : Nat) (o : Oper) cs b, ops[j]? = some o → o.op ≠ .select cs b)
    (hs : Region.sinkB md ops n = true) (hc : hangB md ops n = true) (hn : n < ops.size) (hin : i < n)
    (hdone : ∀ listed a, L listed a → ∀ j ∈ Region.ready md ops listed, n ≤ j) :
    ∀ (f : Nat) (listed : Array Bool) (a : Act), HeadInv md ops n listed →
      (∀ j oj, ops[j]? = some oj → j ≠ i → listed.getD j true = false → (∀ e ∈ oj.after, Region.binds md e = true → e.on ≠ i) → oi.apart ops oj = true) →
      i ∈ Region.ready md ops listed → Yl P ops D C e i oi v a →
      anyY P md ops D C e n L f (listed.setIfInBounds i true) (a.put oi.dst v) → anyY P md ops D C e n L (f + 1) listed a := by
  intro f
  induction f with
  | zero =>
    intro listed a inv _ hr hy H
    have hun := (mem_ready.1 hr).1
    refine ⟨fun h => (by rw [h] at hr; cases hr), fun j hj => ?_⟩
    have hjn : j < n := (Nat.lt_or_ge j n).elim id fun h => absurd hj (tail_hangs hs hc hn inv _ i rfl hin hun j h)
    refine ⟨hjn, ?_⟩
    by_cases hji : j = i
    · subst hji; unfold yOp; simp only [hi]; exact ⟨v, hy, H⟩
    · have := hdone _ _ H j (ready_mono hj hji)
      omega
  | succ f ih =>
    intro listed a inv hfree hr hy H
    have hun := (mem_ready.1 hr).1
    refine ⟨fun h => (by rw [h] at hr; cases hr), fun j hj => ?_⟩
    have hjn : j < n := (Nat.lt_or_ge j n).elim id fun h => absurd hj (tail_hangs hs hc hn inv _ i rfl hin hun j h)
    refine ⟨hjn, ?_⟩
    by_cases hji : j = i
    · subst hji; unfold yOp; simp only [hi]; exact ⟨v, hy, H⟩
    · have h1 := (H.2 j (ready_mono hj hji)).2
      obtain ⟨hjun, oj, hoj, hall⟩ := mem_ready.1 hj
      have hnot : ∀ e ∈ oj.after, Region.binds md e = true → e.on ≠ i := fun e he hb heq => by
        have h2 := hall e he hb
        rw [heq, getD_both hun] at h2
        cases h2
      have h2 := yOp_put hoj (hfree j oj hoj hji hjun hnot) (fun cs b => hsel i oi cs b hi) (fun cs b => hsel j oj cs b hoj) hy h1
      have hfree' : ∀ k ok, ops[k]? = some ok → k ≠ i → (listed.setIfInBounds j true).getD k true = false →
          (∀ e ∈ ok.after, Region.binds md e = true → e.on ≠ i) → oi.apart ops ok = true := fun k ok hk hki hun' hno => by
        refine hfree k ok hk hki ?_ hno
        by_cases hjk : j = k
        · subst hjk; exact hjun
        · rwa [getD_set_ne true hjk] at hun'
      refine yOp_mono (fun a' h3 => ih (listed.setIfInBounds j true) a' (inv.set hj hjn) hfree' (ready_mono hr (Ne.symm hji)) h3.1 ?_) h2
      rw [Array.setIfInBounds_comm _ _ hji]
      exact h3.2
/-- the walk in the order of the text -/
def wpY (P : Program) (ops : Array Oper) (D : World → Prop) (C : Bool → World → Prop) (e : Nat) (Q : Act → Prop) : Nat → List Oper → Act → Prop
  | _, [], a => Q a
  | i, o :: rest, a => ∃ v, Yl P ops D C e i o v a ∧ wpY P ops D C e Q (i + 1) rest (a.put o.dst v)
theorem Y_lex {n g : Nat} {Lq : Act → Prop} (hsel : Region.noSelect ops = true) (hs : Region.sinkB md ops n = true) (hc : hangB md ops n = true) (hn : n < ops.size) :
    ∀ (l : List Oper) (k : Nat) (listed : Array Bool) (a : Act), (∀ j, j < l.length → l[j]? = ops[k + j]?) → k + l.length = n → HeadInv md ops n listed → (∀ j, j < k → listed.getD j false = true) →
    lexHead' md ops g l.length k listed = true → wpY P ops D C e Lq k l a →
    anyY P md ops D C e n (fun listed' a' => ((Region.ready md ops listed').all (fun j => decide (n ≤ j)) = true ∧ tailF md ops g n listed' = true ∧ (e < n → listed'.getD e false = true)) ∧ Lq a') l.length listed a
  | [], k, listed, a, _, hk, inv, hpre, hB, h => by
    obtain rfl : k = n := by simpa using hk
    simp only [List.length_nil, lexHead', Bool.and_eq_true] at hB
    refine ⟨⟨hB.1, hB.2, fun he => hpre e he⟩, h⟩
  | o :: l, k, listed, a, hl, hk, inv, hpre, hB, h => by
    have h0 : ops[k]? = some o := by simpa using (hl 0 (by simp)).symm
    simp only [List.length_cons, lexHead', Bool.and_eq_true] at hB
    obtain ⟨⟨hr, hf⟩, hB'⟩ := hB
    have hkn : k < n := by simp only [List.length_cons] at hk; omega
    have hr' : k ∈ Region.ready md ops listed := by simpa using hr
    obtain ⟨v, hy, hK⟩ := h
    exact Y_first h0 (Region.noSelect_spec hsel) hs hc hn hkn (fun listed' a' hL j hj => by simpa using List.all_eq_true.1 hL.1.1 j hj) l.length listed a inv (Region.free_spec h0 hf) hr' hy
      (Y_lex hsel hs hc hn l (k + 1) _ _ (fun j hj => by have := hl (j + 1) (by simp; omega); simpa [Nat.add_assoc, Nat.add_comm 1 j] using this) (by simp only [List.length_cons] at hk; omega) (inv.set hr' hkn)
        (fun j hj => by
          by_cases hjk : j = k
          · subst hjk; simp [inv.size, Nat.lt_trans hkn hn]
          · exact getD_set_true (hpre j (by omega))) hB' hK)
/-- in whatever order; one operation with an effect; then the tail -/
theorem wp_region_eff_tail {id : Nat} {Q : Exit → Act → World → Prop} {a : Act} {w : World} {l : List Oper} (D : World → Prop) (C : Bool → World → Prop) (e n : Nat) (hm : P.follows .mixedOrders = true) (hB : lexTail' .any l.toArray n = true) (hen : e < n)
    (hQ : ∀ c a d v w, Q (.panic c) (Act.put a d v) w → Q (.panic c) a w) (hS : stands D C) (hC : C false { w with drawn := w.drawn + 1 })
    (h : wpY P l.toArray D C e (fun a' => ∀ w', C true w' → wpList P l.toArray Q (l.drop n) a' w') 0 (l.take n) a) : (Code.region id l.toArray true).wp P Q a w := by
  simp only [lexTail', Bool.and_eq_true, decide_eq_true_eq] at hB
  obtain ⟨⟨⟨⟨hsel, hn⟩, hs⟩, hc⟩, hlex⟩ := hB
  have hn' : n < l.length := by simpa using hn
  have htl : (l.take n).length = n := by simp; omega
  have hdl : (l.drop n).length = l.toArray.size - n := by simp
  have inv0 : HeadInv .any l.toArray n (Array.replicate l.toArray.size false) :=
    ⟨by simp, fun j oj _ hl => (by rw [getD_replicate_false] at hl; cases hl), fun t _ ht => getD_in (by simpa using ht) (getD_replicate_false _ _)⟩
  have H := Y_lex (md := .any) (g := l.toArray.size - n) hsel hs hc hn (l.take n) 0 _ a (fun j hj => by
    have hj' : j < n := by rw [htl] at hj; exact hj
    simp [hj']) (by simpa using htl) inv0 (fun j hj => by omega) (by rw [htl]; exact hlex) h
  refine wp_region_any hm ?_
  have := any_of_Y (Q' := Q) hS (g := l.toArray.size - n) (fun listed a' w' hw' hL => by
    have := wpAny_of_tailF (md := .any) (Q := Q) hsel hQ (l.drop n) n listed a' w' (fun j => by simp [List.getElem?_drop]) (by rw [hdl]; exact hL.1.2.1) (hL.2 w' (by rw [hL.1.2.2 hen] at hw'; exact hw'))
    rwa [hdl] at this) _ _ _ _ (by simp) (by rw [getD_replicate_false]; exact hC) H
  rw [htl, show n + (l.toArray.size - n) = l.toArray.size by omega] at this
  exact this
theorem wpY_nil {Q : Act → Prop} {i : Nat} {a : Act} (h : Q a) : wpY P ops D C e Q i [] a := h
theorem wpY_skip {Q : Act → Prop} {i : Nat} {a : Act} {o : Oper} {rest : List Oper} (hi : i ≠ e) (h : Region.wanted o (yielded ops a.tmps) = false) (hK : wpY P ops D C e Q (i + 1) rest (a.put o.dst undef)) : wpY P ops D C e Q i (o :: rest) a :=
  ⟨undef, .inr (.inl ⟨hi, h, rfl⟩), hK⟩
theorem wpY_do {Q : Act → Prop} {i : Nat} {a : Act} {o : Oper} {rest : List Oper} (hi : i ≠ e) (h : Region.wanted o (yielded ops a.tmps) = true) (h1 : ∃ v, (∀ w, D w → hushAt P o a w v) ∧ wpY P ops D C e Q (i + 1) rest (a.put o.dst v)) : wpY P ops D C e Q i (o :: rest) a :=
  let ⟨v, h2, h3⟩ := h1
  ⟨v, .inl ⟨hi, h, h2⟩, h3⟩
theorem wpY_eff {Q : Act → Prop} {i : Nat} {a : Act} {o : Oper} {rest : List Oper} (hi : i = e) (h : Region.wanted o (yielded ops a.tmps) = true) (h1 : ∃ v, (∀ w, C false w → effAt P o a (C true) w v) ∧ wpY P ops D C e Q (i + 1) rest (a.put o.dst v)) : wpY P ops D C e Q i (o :: rest) a :=
  let ⟨v, h2, h3⟩ := h1
  ⟨v, .inr (.inr ⟨hi, h, h2⟩), h3⟩
end
end Go.Proofs.YtnjgnbdebkckfaaGreatDoor.K7
namespace Go.Proofs.YtnjgnbdebkckfaaGreatDoor.K9
open Go.RowKit K3 K7
section
variable {P : Program} {ops : Array Oper} {md : Region.Mode}
def lexF (md : Region.Mode) (ops : Array Oper) (F : Array Bool → Bool) : Nat → Nat → Array Bool → Bool
  | 0, _, listed => F listed
  | f + 1, k, listed => (Region.ready md ops listed).contains k && Region.free md ops listed k && lexF md ops F f (k + 1) (listed.setIfInBounds k true)
theorem Y_lexF {D : World → Prop} {C : Bool → World → Prop} {e n : Nat} {Lq : Act → Prop} {F : Array Bool → Bool} (hsel : Region.noSelect ops = true) (hs : Region.sinkB md ops n = true) (hc : hangB md ops n = true) (hn : n < ops.size)
    (hF : ∀ listed, F listed = true → (Region.ready md ops listed).all (fun j => decide (n ≤ j)) = true) :
    ∀ (l : List Oper) (k : Nat) (listed : Array Bool) (a : Act), (∀ j, j < l.length → l[j]? = ops[k + j]?) → k + l.length = n → HeadInv md ops n listed → (e < k → listed.getD e false = true) → (n ≤ e → listed.getD e false = false) →
    lexF md ops F l.length k listed = true → wpY P ops D C e Lq k l a →
    anyY P md ops D C e n (fun listed' a' => (F listed' = true ∧ HeadInv md ops n listed' ∧ listed'.getD e false = decide (e < n)) ∧ Lq a') l.length listed a
  | [], k, listed, a, _, hk, inv, hpre, hpost, hB, h => by
    obtain rfl : k = n := by simpa using hk
    refine ⟨⟨hB, inv, ?_⟩, h⟩
    by_cases he : e < k
    · simp [hpre he, he]
    · simp [hpost (by omega), he]
  | o :: l, k, listed, a, hl, hk, inv, hpre, hpost, hB, h => by
    have h0 : ops[k]? = some o := by simpa using (hl 0 (by simp)).symm
    simp only [List.length_cons, lexF, Bool.and_eq_true] at hB
    obtain ⟨⟨hr, hf⟩, hB'⟩ := hB
    have hkn : k < n := by simp only [List.length_cons] at hk; omega
    have hr' : k ∈ Region.ready md ops listed := by simpa using hr
    obtain ⟨v, hy, hK⟩ := h
    exact Y_first h0 (Region.noSelect_spec hsel) hs hc hn hkn (fun listed' a' hL j hj => by simpa using List.all_eq_true.1 (hF _ hL.1.1) j hj) l.length listed a inv (Region.free_spec h0 hf) hr' hy
      (Y_lexF hsel hs hc hn hF l (k + 1) _ _ (fun j hj => by have := hl (j + 1) (by simp; omega); simpa [Nat.add_assoc, Nat.add_comm 1 j] using this) (by simp only [List.length_cons] at hk; omega) (inv.set hr' hkn)
        (fun he => by
          by_cases hjk : e = k
          · subst hjk; simp [inv.size, Nat.lt_trans hkn hn]
          · exact getD_set_true (hpre (by omega)))
        (fun he => by rw [getD_set_ne false (by omega)]; exact hpost he) hB' hK)
/-- the check: the stages' ends, from k, with these listed -/
def stagesF (md : Region.Mode) (ops : Array Oper) : List Nat → Nat → Array Bool → Bool
  | [], k, listed => tailF md ops (ops.size - k) k listed
  | n :: ns, k, listed => decide (k ≤ n) && decide (n < ops.size) && Region.sinkB md ops n && hangB md ops n &&
      lexF md ops (fun l => (Region.ready md ops l).all (fun j => decide (n ≤ j)) && stagesF md ops ns n l) (n - k) k listed
def wpStages (P : Program) (ops : Array Oper) (Q : Exit → Act → World → Prop) (l : List Oper) : List Nat → Nat → Act → World → Prop
  | [], k, a, w => wpList P ops Q (l.drop k) a w
  | n :: ns, k, a, w => ∃ (D : World → Prop) (C : Bool → World → Prop) (e : Nat), k ≤ e ∧ stands D C ∧ C false w ∧
      wpY P ops D C e (fun a' => ∀ w', C (decide (e < n)) w' → wpStages P ops Q l ns n a' w') k ((l.take n).drop k) a
theorem stages_any {Q : Exit → Act → World → Prop} {l : List Oper} (hl : l.toArray = ops) (hsel : Region.noSelect ops = true) (hQ : ∀ c a d v w, Q (.panic c) (Act.put a d v) w → Q (.panic c) a w) :
    ∀ (ns : List Nat) (k : Nat) (listed : Array Bool) (a : Act) (w : World), k ≤ ops.size → HeadInv md ops k listed → stagesF md ops ns k listed = true → wpStages P ops Q l ns k a w → wpAny P md ops Q (ops.size - k) listed a w
  | [], k, listed, a, w, _, inv, hB, h => by
    have hdl : (l.drop k).length = ops.size - k := by rw [← hl]; simp
    have := wpAny_of_tailF (md := md) (Q := Q) hsel hQ (l.drop k) k listed a w (fun j => by rw [← hl]; simp [List.getElem?_drop]) (by rw [hdl]; exact hB) h
    rwa [hdl] at this
  | n :: ns, k, listed, a, w, hk, inv, hB, h => by
    simp only [stagesF, Bool.and_eq_true, decide_eq_true_eq] at hB
    obtain ⟨⟨⟨⟨hkn, hn⟩, hs⟩, hc⟩, hlex⟩ := hB
    obtain ⟨D, C, e, hke, hS, hC, hY⟩ := h
    have hls : l.length = ops.size := by rw [← hl]; simp
    have hlen : ((l.take n).drop k).length = n - k := by simp; omega
    have inv' : HeadInv md ops n listed := ⟨inv.size, inv.closed, fun t h1 h2 => inv.tail t (by omega) h2⟩
    have hfe : listed.getD e false = false := by
      by_cases he : e < ops.size
      · exact getD_both (inv.tail e hke he)
      · rw [Array.getD_eq_getD_getElem?, Array.getElem?_eq_none (by rw [inv.size]; omega)]; rfl
    have H := Y_lexF (P := P) (md := md) (D := D) (C := C) (e := e) (n := n) (F := fun l => (Region.ready md ops l).all (fun j => decide (n ≤ j)) && stagesF md ops ns n l) hsel hs hc hn
      (fun listed hh => by simp only [Bool.and_eq_true] at hh; exact hh.1) ((l.take n).drop k) k listed a
      (fun j hj => by
        rw [hlen] at hj
        rw [← hl]
        simp only [List.getElem?_drop, List.getElem?_toArray]
        rw [List.getElem?_take]
        simp [show k + j < n by omega])
      (by rw [hlen]; omega) inv' (fun he => by omega) (fun _ => hfe) (by rw [hlen]; exact hlex) hY
    have := any_of_Y (Q' := Q) hS (g := ops.size - n) (fun listed' a' w' hw' hL => by
      obtain ⟨⟨hF, hinv, hge⟩, hq⟩ := hL
      simp only [Bool.and_eq_true] at hF
      rw [hge] at hw'
      exact stages_any hl hsel hQ ns n listed' a' w' (by omega) hinv hF.2 (hq w' hw')) _ _ _ w inv.size (by rw [hfe]; exact hC) H
    rw [hlen, show n - k + (ops.size - n) = ops.size - k by omega] at this
    exact this
/-- THE LAW. -/
theorem wp_region_stages {id : Nat} {Q : Exit → Act → World → Prop} {a : Act} {w : World} {l : List Oper} (ns : List Nat) (hm : P.follows .mixedOrders = true) (hsel : Region.noSelect l.toArray = true) (hB : stagesF .any l.toArray ns 0 (Array.replicate l.toArray.size false) = true)
    (hQ : ∀ c a d v w, Q (.panic c) (Act.put a d v) w → Q (.panic c) a w)
    (h : wpStages P l.toArray Q l ns 0 a { w with drawn := w.drawn + 1 }) : (Code.region id l.toArray true).wp P Q a w := by
  have inv0 : HeadInv .any l.toArray 0 (Array.replicate l.toArray.size false) :=
    ⟨by simp, fun j oj _ hl => (by rw [getD_replicate_false] at hl; cases hl), fun t _ ht => getD_in (by simpa using ht) (getD_replicate_false _ _)⟩
  exact wp_region_any hm (stages_any rfl hsel hQ ns 0 _ a _ (by omega) inv0 hB h)
theorem stage_go {Q : Exit → Act → World → Prop} {l : List Oper} {n k : Nat} {ns : List Nat} {a : Act} {w : World} (D : World → Prop) (C : Bool → World → Prop) (e : Nat) (hke : k ≤ e) (hS : stands D C) (hC : C false w)
    (hY : wpY P ops D C e (fun a' => ∀ w', C (decide (e < n)) w' → wpStages P ops Q l ns n a' w') k ((l.take n).drop k) a) : wpStages P ops Q l (n :: ns) k a w := ⟨D, C, e, hke, hS, hC, hY⟩
/-- a stage without an effect: all in the memory below w -/
theorem stage_quiet {Q : Exit → Act → World → Prop} {l : List Oper} {n k : Nat} {ns : List Nat} {a : Act} {w : World}
    (hY : wpY P ops (fun x => Below w.heap.size w x) (fun _ x => Below w.heap.size w x) (k + n + 1) (fun a' => ∀ w', Below w.heap.size w w' → wpStages P ops Q l ns n a' w') k ((l.take n).drop k) a) : wpStages P ops Q l (n :: ns) k a w :=
  stage_go (fun x => Below w.heap.size w x) (fun _ x => Below w.heap.size w x) (k + n + 1) (by omega) ⟨fun _ _ h => h, fun _ _ _ h h' => h.trans (h'.mono h.size)⟩ (Below.refl _ _) hY
theorem stage_end {Q : Exit → Act → World → Prop} {l : List Oper} {k : Nat} {a : Act} {w : World} (h : wpList P ops Q (l.drop k) a w) : wpStages P ops Q l [] k a w := h
end
end Go.Proofs.YtnjgnbdebkckfaaGreatDoor.K9
