/- K11, K12, K14, K20, K21, K22, K25, K30, K23, K32 -/
import Derived.Test.YtnjgnbdebkckfaaGreatDoorA1
import Derived.Deep.AppendLies
import Derived.Laws.BytesArg
import Derived.Laws.IdiomStrings
import Derived.Lib.AppendStr
import Derived.Tactics
import Derived.Tactics2
import Derived.RegionTactic
import Derived.RegionCalls
import Derived.Lib.Hide
set_option linter.unusedVariables false
set_option linter.unusedSimpArgs false
set_option linter.unnecessarySimpa false
namespace Go.Proofs.YtnjgnbdebkckfaaGreatDoor.K11
open Go.RowKit K3 K5
/-- operation i waits for j, directly or through others -/
def ancB (ops : Array Oper) (i j : Nat) : Bool := ((Region.before ops).getD i 0).testBit j
section anc
variable {ops : Array Oper}
def gath (acc : Array Nat) (o : Oper) : Nat := o.after.foldl (fun s e => if Region.binds .any e then s ||| 2 ^ e.on ||| acc.getD e.on 0 else s) 0
theorem before_eq : Region.before ops = ops.foldl (init := #[]) fun acc o => acc.push (gath acc o) := rfl
theorem gath_bit {acc : Array Nat} {l : List Edge} {j : Nat} : ∀ s : Nat, (l.foldl (fun s e => if Region.binds .any e then s ||| 2 ^ e.on ||| acc.getD e.on 0 else s) s).testBit j = true →
    s.testBit j = true ∨ ∃ e ∈ l, Region.binds .any e = true ∧ (j = e.on ∨ (acc.getD e.on 0).testBit j = true) := by
  induction l with
  | nil => intro s h; exact .inl h
  | cons e l ih =>
    intro s h
    simp only [List.foldl_cons] at h
    rcases ih _ h with h | ⟨e', he, h⟩
    · split at h
      · rename_i hb
        simp only [Nat.testBit_or, Bool.or_eq_true, Nat.testBit_two_pow, decide_eq_true_eq] at h
        rcases h with (h | h) | h
        · exact .inl h
        · exact .inr ⟨e, by simp, hb, .inl h.symm⟩
        · exact .inr ⟨e, by simp, hb, .inr h⟩
      · exact .inl h
    · exact .inr ⟨e', by simp [he], h⟩
def Closed (ops : Array Oper) (listed : Array Bool) : Prop := ∀ j oj, ops[j]? = some oj → listed.getD j false = true → ∀ e ∈ oj.after, Region.binds .any e = true → listed.getD e.on false = true
theorem anc_inv {listed : Array Bool} (hc : Closed ops listed) : ∀ (l2 l1 : List Oper) (acc : Array Nat), ops.toList = l1 ++ l2 → acc.size = l1.length →
    (∀ i j, (acc.getD i 0).testBit j = true → listed.getD i false = true → listed.getD j false = true) →
    ∀ i j, ((l2.foldl (fun acc o => acc.push (gath acc o)) acc).getD i 0).testBit j = true → listed.getD i false = true → listed.getD j false = true := by
  intro l2
  induction l2 with
  | nil => intro l1 acc _ _ h; exact h
  | cons o l2 ih =>
    intro l1 acc hl hs h
    refine ih (l1 ++ [o]) (acc.push (gath acc o)) (by simpa using hl) (by simp [hs]) ?_
    intro i j hb hi
    by_cases hlt : i < acc.size
    · refine h i j ?_ hi
      simpa [Array.getElem?_push, show i ≠ acc.size by omega] using hb
    · by_cases heq : i = acc.size
      · subst heq
        have ho : ops[acc.size]? = some o := by
          rw [← Array.getElem?_toList, hl, hs]; simp
        simp only [Array.getD_eq_getD_getElem?, Array.getElem?_push, if_true, Option.getD_some] at hb
        unfold gath at hb
        rw [← Array.foldl_toList] at hb
        rcases gath_bit 0 hb with hb | ⟨e, he, hbd, hb⟩
        · simp at hb
        · have hon := hc _ o ho hi e (by simpa using he) hbd
          rcases hb with rfl | hb
          · exact hon
          · exact h _ _ hb hon
      · have : (acc.push (gath acc o)).getD i 0 = 0 := by
          rw [Array.getD_eq_getD_getElem?, Array.getElem?_eq_none (by simp; omega)]; rfl
        rw [this] at hb
        simp at hb
theorem anc_closed {listed : Array Bool} (hc : Closed ops listed) {i j : Nat} (h : ancB ops i j = true) (hi : listed.getD i false = true) : listed.getD j false = true := by
  unfold ancB at h
  rw [before_eq, ← Array.foldl_toList] at h
  exact anc_inv hc ops.toList [] #[] (by simp) (by simp) (fun i j h => by simp at h) i j h hi
theorem Closed.set {listed : Array Bool} (hc : Closed ops listed) {i : Nat} (hi : i ∈ Region.ready .any ops listed) : Closed ops (listed.setIfInBounds i true) := by
  obtain ⟨_, oi, hoi, hall⟩ := mem_ready.1 hi
  intro j oj hj hl e he hb
  by_cases hij : i = j
  · subst hij
    obtain rfl : oj = oi := Option.some.inj (hj.symm.trans hoi)
    exact getD_set_true (hall e he hb)
  · rw [getD_set_ne false hij] at hl
    exact getD_set_true (hc j oj hj hl e he hb)
theorem anc_ready {listed : Array Bool} (hc : Closed ops listed) {i j : Nat} (hi : i ∈ Region.ready .any ops listed) (hil : i < listed.size) (h : ancB ops i j = true) (hne : j ≠ i) : listed.getD j false = true := by
  have := anc_closed (hc.set hi) h (by simp [hil])
  rwa [getD_set_ne false (Ne.symm hne)] at this
end anc
def isCall : Op → Bool
  | .call _ => true
  | _ => false
def zUpon (P : Program) (cl : Bool) (K : Value → World → Prop) : Result Next → Prop
  | .ok (.value u) w' => K u w'
  | .ok .skip w' => K undef w'
  | .ok (.enter f args) w' => cl = true ∧ Calls P f args w' (fun e w'' => ∃ v, e = .returned v ∧ K v w'')
  | _ => False
def zAt (P : Program) (o : Oper) (a : Act) (K : Value → World → Prop) (w : World) : Prop := zUpon P (isCall o.op) K ((execOp a.eval o).run P w)
section z
variable {P : Program} {o : Oper} {a : Act} {w : World}
theorem zAt.mono {K K' : Value → World → Prop} (h : zAt P o a K w) (hk : ∀ v w', K v w' → K' v w') : zAt P o a K' w := by
  unfold zAt at *
  generalize (execOp a.eval o).run P w = r at *
  cases r with
  | ok n w' =>
    cases n <;> simp only [zUpon] at h ⊢
    case value => exact hk _ _ h
    case skip => exact hk _ _ h
    case enter f args => exact ⟨h.1, h.2.mono fun e w'' ⟨v, e1, e2⟩ => ⟨v, e1, hk _ _ e2⟩⟩
  | halt x w' => simp only [zUpon] at h
theorem zAt.all {α : Type} {K : α → Value → World → Prop} (hc : isCall o.op = false) (x0 : α) (h : ∀ x, zAt P o a (K x) w) : zAt P o a (fun v w' => ∀ x, K x v w') w := by
  have h0 := h x0
  unfold zAt at *
  generalize (execOp a.eval o).run P w = r at *
  cases r with
  | ok n w' =>
    cases n <;> simp only [zUpon] at h h0 ⊢
    case value => exact h
    case skip => exact h
    case enter f args => rw [hc] at h0; exact absurd h0.1 (by simp)
  | halt x w' => simp only [zUpon] at h0
theorem zAt.congr {a' : Act} {K : Value → World → Prop} (he : execOp a'.eval o = execOp a.eval o) (h : zAt P o a K w) : zAt P o a' K w := by
  unfold zAt at *
  rw [he]
  exact h
theorem wp_of_zAt {K : Value → World → Prop} {next : Act → World → Prop} {Q : Exit → Act → World → Prop} (h : zAt P o a K w) (hk : ∀ v w', K v w' → next (a.put o.dst v) w') : o.wp P a w next Q := by
  unfold zAt at h
  unfold Oper.wp
  generalize (execOp a.eval o).run P w = r at *
  cases r with
  | ok n w' =>
    cases n <;> simp only [zUpon] at h <;> simp only [Oper.upon]
    case value => exact hk _ _ h
    case skip => exact hk _ _ h
    case enter f args => exact h.2.mono fun e w'' ⟨v, e1, e2⟩ => by subst e1; exact hk _ _ e2
  | halt x w' => simp only [zUpon] at h
end z
/-- a fact on the world that stands while only blocks of S, and new ones, are written -/
def Stab (S : List Nat) (f : World → Prop) : Prop := ∀ w w', Fr w.heap.size S w w' → f w → f w'
abbrev Fact := Nat × (World → Prop)
def upd (bs : Nat → Bool) (i : Nat) : Nat → Bool := fun x => bs x || x == i
/-- which operations may have come when i comes up -/
structure Okb (ops : Array Oper) (bs : Nat → Bool) (i : Nat) : Prop where
  self : bs i = false
  later : ∀ e, ancB ops e i = true → bs e = false
  sooner : ∀ e, ancB ops i e = true → bs e = true
  closed : ∀ e e', ancB ops e e' = true → bs e = true → bs e' = true
def slot (A : Act) (d : Option Tmp) : Value := match d with | some t => A.tmps.getD t undef | none => undef
section tree
variable (P : Program) (ops : Array Oper) (S : List Nat) (C : (Nat → Bool) → World → Prop) (es U Fl : List Nat) (Fin : Act → List Fact → Prop)
def RO (i : Nat) (o : Oper) (a : Act) (L : List Fact) (G : Value → Prop) (f : Value → World → Prop) : Prop :=
  ∀ bs, Okb ops bs i → ∀ w, C bs w → (∀ p ∈ L, ancB ops i p.1 = true → p.2 w) →
    zAt P o a (fun v w' => C (upd bs i) w' ∧ Fr w.heap.size S w w' ∧ G v ∧ f v w') w
/-- the walk -/
def wpZ : List (Nat × Oper) → Act → List Fact → Prop
  | [], a, L => Fin a L
  | (i, o) :: rest, a, L =>
    (Region.wanted o (yielded ops a.tmps) = false ∧ i ∉ es ∧ wpZ rest (a.put o.dst undef) ((i, fun _ => True) :: L)) ∨
    (Region.wanted o (yielded ops a.tmps) = true ∧ ∃ (G : Value → Prop) (f : Value → World → Prop), (∀ v, G v → Stab S (f v)) ∧ (∃ v, G v) ∧ (i ∉ U → ∃ c, ∀ v, G v → v = c) ∧ (i ∈ Fl → ∃ c, ∀ w, (execOp a.eval o).run P w = .ok (.value c) w) ∧
      RO P ops S C i o a L G f ∧ ∀ v, G v → wpZ rest (a.put o.dst v) ((i, f v) :: L))
/-- the same, some operations having come -/
def Tree (listed : Array Bool) (A : Act) (W : World) : List (Nat × Oper) → Act → List Fact → Prop
  | [], a, L => Fin a L
  | (i, o) :: rest, a, L =>
    if listed.getD i false = true then ∃ f : World → Prop, Stab S f ∧ f W ∧ Tree listed A W rest (a.put o.dst (slot A o.dst)) ((i, f) :: L)
    else (Region.wanted o (yielded ops a.tmps) = false ∧ i ∉ es ∧ Tree listed A W rest (a.put o.dst undef) ((i, fun _ => True) :: L)) ∨
    (Region.wanted o (yielded ops a.tmps) = true ∧ ∃ (G : Value → Prop) (f : Value → World → Prop), (∀ v, G v → Stab S (f v)) ∧ (∃ v, G v) ∧ (i ∉ U → ∃ c, ∀ v, G v → v = c) ∧ (i ∈ Fl → ∃ c, ∀ w, (execOp a.eval o).run P w = .ok (.value c) w) ∧
      RO P ops S C i o a L G f ∧ ∀ v, G v → Tree listed A W rest (a.put o.dst v) ((i, f v) :: L))
end tree
section tree2
variable {P : Program} {ops : Array Oper} {S : List Nat} {C : (Nat → Bool) → World → Prop} {es U Fl : List Nat} {Fin : Act → List Fact → Prop}
theorem tree_of_wpZ {m : Nat} {A : Act} {W : World} : ∀ (l : List (Nat × Oper)) (a : Act) (L : List Fact), wpZ P ops S C es U Fl Fin l a L → Tree P ops S C es U Fl Fin (Array.replicate m false) A W l a L
  | [], a, L, h => h
  | (i, o) :: rest, a, L, h => by
    unfold Tree
    unfold wpZ at h
    rw [if_neg (by rw [getD_replicate_false]; simp)]
    rcases h with ⟨h1, h2, h3⟩ | ⟨h1, G, f, h2, h3, h4, hfl, h5, h6⟩
    · exact .inl ⟨h1, h2, tree_of_wpZ rest _ _ h3⟩
    · exact .inr ⟨h1, G, f, h2, h3, h4, hfl, h5, fun v hv => tree_of_wpZ rest _ _ (h6 v hv)⟩
theorem slot_put_ne {A : Act} {d e : Option Tmp} {v : Value} (h : ∀ t, d = some t → e ≠ some t) : slot (A.put d v) e = slot A e := by
  cases e with
  | none => rfl
  | some t =>
    cases d with
    | none => rfl
    | some u =>
      have hne : u ≠ t := fun e => h u rfl (by rw [e])
      simp [slot, Act.put, Array.getElem?_setIfInBounds_ne hne]
theorem put_slot {a A : Act} (hs : a.tmps.size = A.tmps.size) (d : Option Tmp) (v : Value) : a.put d (slot (A.put d v) d) = a.put d v := by
  cases d with
  | none => rfl
  | some t =>
    by_cases ht : t < A.tmps.size
    · simp [slot, Act.put, ht]
    · simp only [Act.put]
      have h1 : a.tmps.size ≤ t := hs ▸ Nat.le_of_not_lt ht
      rw [Array.setIfInBounds_eq_of_size_le h1, Array.setIfInBounds_eq_of_size_le h1]
theorem tree_later {listed : Array Bool} {A : Act} {W W' : World} {j : Nat} {dj : Option Tmp} {v : Value} (hF : Fr W.heap.size S W W') : ∀ (l : List (Nat × Oper)) (a : Act) (L : List Fact),
    (∀ p ∈ l, p.1 ≠ j ∧ ∀ t, dj = some t → p.2.dst ≠ some t) → Tree P ops S C es U Fl Fin listed A W l a L → Tree P ops S C es U Fl Fin (listed.setIfInBounds j true) (A.put dj v) W' l a L
  | [], a, L, _, h => h
  | (i, o) :: rest, a, L, hp, h => by
    obtain ⟨h1, h2⟩ := hp (i, o) (by simp)
    have ih := fun a L h => tree_later (listed := listed) (A := A) (v := v) hF rest a L (fun p hm => hp p (by simp [hm])) h
    unfold Tree at h ⊢
    rw [getD_set_ne false (Ne.symm h1)]
    split at h
    · rename_i hl
      rw [if_pos hl]
      obtain ⟨f, g1, g2, g3⟩ := h
      refine ⟨f, g1, g1 _ _ hF g2, ?_⟩
      rw [slot_put_ne h2]
      exact ih _ _ g3
    · rename_i hl
      rw [if_neg hl]
      rcases h with ⟨h1, h2, h3⟩ | ⟨h1, G, f, h2, h3, h4, hfl, h5, h6⟩
      · exact .inl ⟨h1, h2, ih _ _ h3⟩
      · exact .inr ⟨h1, G, f, h2, h3, h4, hfl, h5, fun v hv => ih _ _ (h6 v hv)⟩
/-- how the walk's frame stands to the frame of what has come -/
structure Agr (listed : Array Bool) (A a0 a : Act) (l1 : List (Nat × Oper)) : Prop where
  size : a.tmps.size = A.tmps.size
  defers : a.defers = A.defers
  here : ∀ p ∈ l1, listed.getD p.1 false = true → ∀ t, p.2.dst = some t → a.tmps[t]? = A.tmps[t]?
  away : ∀ t, (∀ p ∈ l1, p.2.dst ≠ some t) → a.tmps[t]? = a0.tmps[t]?
theorem put_get_ne {a : Act} {d : Option Tmp} {v : Value} {t : Nat} (h : d ≠ some t) : (a.put d v).tmps[t]? = a.tmps[t]? := by
  cases d with
  | none => rfl
  | some u =>
    have hne : u ≠ t := fun e => h (by rw [e])
    simp [Act.put, Array.getElem?_setIfInBounds_ne hne]
theorem put_size (a : Act) (d : Option Tmp) (v : Value) : (a.put d v).tmps.size = a.tmps.size := by cases d <;> simp [Act.put]
theorem put_defers (a : Act) (d : Option Tmp) (v : Value) : (a.put d v).defers = a.defers := by cases d <;> rfl
theorem Agr.push_un {listed : Array Bool} {A a0 a : Act} {l1 : List (Nat × Oper)} {i : Nat} {o : Oper} (h : Agr listed A a0 a l1) (hi : listed.getD i false ≠ true)
    (hd : ∀ p ∈ l1, ∀ t, p.2.dst = some t → o.dst ≠ some t) (v : Value) : Agr listed A a0 (a.put o.dst v) (l1 ++ [(i, o)]) := by
  refine ⟨by rw [put_size, h.size], by rw [put_defers, h.defers], fun p hp hl t ht => ?_, fun t ht => ?_⟩
  · rw [List.mem_append, List.mem_singleton] at hp
    rcases hp with hp | rfl
    · rw [put_get_ne (hd p hp t ht)]; exact h.here p hp hl t ht
    · exact absurd hl hi
  · rw [put_get_ne (ht (i, o) (by simp))]
    exact h.away t fun p hp => ht p (by simp [hp])
theorem Agr.push_in {listed : Array Bool} {A a0 a : Act} {l1 : List (Nat × Oper)} {i : Nat} {o : Oper} (h : Agr listed A a0 a l1)
    (hd : ∀ p ∈ l1, ∀ t, p.2.dst = some t → o.dst ≠ some t) : Agr listed A a0 (a.put o.dst (slot A o.dst)) (l1 ++ [(i, o)]) := by
  refine ⟨by rw [put_size, h.size], by rw [put_defers, h.defers], fun p hp hl t ht => ?_, fun t ht => ?_⟩
  · rw [List.mem_append, List.mem_singleton] at hp
    rcases hp with hp | rfl
    · rw [put_get_ne (hd p hp t ht)]; exact h.here p hp hl t ht
    · simp only at ht
      rw [ht]
      by_cases hlt : t < A.tmps.size
      · simp [Act.put, slot, hlt, h.size]
      · simp only [Act.put]
        have h1 : A.tmps.size ≤ t := Nat.le_of_not_lt hlt
        have h2 : a.tmps.size = A.tmps.size := h.size
        rw [Array.getElem?_eq_none (by simpa [h2] using h1), Array.getElem?_eq_none h1]
  · rw [put_get_ne (ht (i, o) (by simp))]
    exact h.away t fun p hp => ht p (by simp [hp])
theorem exec_same {o : Oper} {a A : Act} (hs : ∀ cs b, o.op ≠ .select cs b) (h : ∀ t ∈ o.looksAt ops, a.tmps[t]? = A.tmps[t]?) : execOp a.eval o = execOp A.eval o :=
  execOp_congr o hs fun x hx => by
    cases x with
    | tmp t =>
      have := h t (List.mem_append_left _ (List.mem_filterMap.2 ⟨.tmp t, by simpa using hx, rfl⟩))
      simp only [Act.eval, Array.getD_eq_getD_getElem?, this]
    | const v => rfl
    | global g => rfl
    | func f => rfl
theorem wanted_same {o : Oper} {a A : Act} (h : ∀ t ∈ o.looksAt ops, a.tmps[t]? = A.tmps[t]?) : Region.wanted o (yielded ops a.tmps) = Region.wanted o (yielded ops A.tmps) := by
  unfold Region.wanted
  cases hg : o.guard with
  | none => rfl
  | some gw =>
    obtain ⟨g, want⟩ := gw
    have hy : yielded ops a.tmps g = yielded ops A.tmps g := by
      unfold yielded
      cases ht : (ops[g]?).bind (·.dst) with
      | none => rfl
      | some t =>
        have := h t (by simp [Oper.looksAt, hg, ht])
        simp [this]
    simp only [hy]
/-- what is asked of the order that is walked -/
structure Fit (ops : Array Oper) (U : List Nat) (n : Nat) (lo : List (Nat × Oper)) : Prop where
  sel : Region.noSelect ops = true
  are : ∀ p ∈ lo, p.1 < n ∧ ops[p.1]? = some p.2
  all : ∀ i, i < n → ∃ p ∈ lo, p.1 = i
  once : lo.Pairwise fun p q => p.1 ≠ q.1 ∧ ancB ops p.1 q.1 = false ∧ (isCall q.2.op = true → p.1 ∈ U → ancB ops q.1 p.1 = true)
  dsts : ∀ p ∈ lo, ∀ q ∈ lo, p.1 ≠ q.1 → ∀ t, p.2.dst = some t → q.2.dst ≠ some t
  looks : ∀ p ∈ lo, ∀ q ∈ lo, ∀ t, p.2.dst = some t → t ∈ q.2.looksAt ops → ancB ops q.1 p.1 = true ∨ ancB ops p.1 q.1 = true
  irrefl : ∀ i, i < n → ancB ops i i = false
theorem tree_exec {n : Nat} {lo : List (Nat × Oper)} (fit : Fit ops U n lo) {listed : Array Bool} {A a0 : Act} {W : World} (hcl : Closed ops listed) (hsz : listed.size = ops.size) (hno : n ≤ ops.size)
    (hA : ∀ t, (∀ p ∈ lo, listed.getD p.1 false = true → p.2.dst ≠ some t) → A.tmps[t]? = a0.tmps[t]?)
    (hes : ∀ i, i ∉ es → ∀ bs w, C bs w → C (upd bs i) w) (hC : C (fun x => listed.getD x false) W) {j : Nat} {oj : Oper} (hj : (j, oj) ∈ lo) (hr : j ∈ Region.ready .any ops listed) :
    ∀ (l l1 : List (Nat × Oper)) (a : Act) (L : List Fact), l1 ++ l = lo → Agr listed A a0 a l1 → (∀ p ∈ L, listed.getD p.1 false = true → p.2 W) → (j, oj) ∈ l → Tree P ops S C es U Fl Fin listed A W l a L →
      (Region.wanted oj (yielded ops A.tmps) = false ∧ j ∉ es ∧ Tree P ops S C es U Fl Fin (listed.setIfInBounds j true) (A.put oj.dst undef) W l a L) ∨
      (Region.wanted oj (yielded ops A.tmps) = true ∧ (j ∈ Fl → ∃ c, ∀ w, (execOp A.eval oj).run P w = .ok (.value c) w) ∧ zAt P oj A (fun v W' => C (upd (fun x => listed.getD x false) j) W' ∧ Fr W.heap.size S W W' ∧ Tree P ops S C es U Fl Fin (listed.setIfInBounds j true) (A.put oj.dst v) W' l a L) W) := by
  have hjn := fit.are _ hj
  have hjlt : j < listed.size := by have := hjn.1; simp only at this; omega
  have hjun := getD_both (mem_ready.1 hr).1
  intro l
  induction l with
  | nil => intro l1 a L _ _ _ hm; cases hm
  | cons p rest ih =>
    obtain ⟨i, o⟩ := p
    intro l1 a L hl hag hL hm hT
    have hmem : (i, o) ∈ lo := by rw [← hl]; simp
    have hon := fit.once
    rw [← hl, List.pairwise_append] at hon
    obtain ⟨_, hon2, hon3⟩ := hon
    have hdl : ∀ p ∈ l1, ∀ t, p.2.dst = some t → o.dst ≠ some t := fun p hp t ht => fit.dsts p (by rw [← hl]; simp [hp]) (i, o) hmem (hon3 p hp (i, o) (by simp)).1 t ht
    have hfl : Fr W.heap.size S W W := Fr.refl _ _ _
    by_cases hij : i = j
    · subst hij
      obtain rfl : o = oj := Option.some.inj ((fit.are _ hmem).2.symm.trans hjn.2)
      have hlook : ∀ t ∈ o.looksAt ops, a.tmps[t]? = A.tmps[t]? := by
        intro t ht
        by_cases hex : ∃ p ∈ lo, p.2.dst = some t
        · obtain ⟨p, hp, hpt⟩ := hex
          rcases fit.looks p hp (i, o) hmem t hpt ht with h | h
          · have hne : p.1 ≠ i := fun e => by rw [e] at h; simp only at h; rw [fit.irrefl i hjn.1] at h; cases h
            have hpl := anc_ready hcl hr hjlt h hne
            have hp1 : p ∈ l1 := by
              rw [← hl, List.mem_append] at hp
              rcases hp with hp | hp
              · exact hp
              · rw [List.mem_cons] at hp
                rcases hp with rfl | hp
                · exact absurd rfl hne
                · have := (List.pairwise_cons.1 hon2).1 p hp
                  simp only at this
                  rw [this.2.1] at h
                  cases h
            exact hag.here p hp1 hpl t hpt
          · have hpl : listed.getD p.1 false ≠ true := fun e => by
              have := anc_closed hcl h e
              simp only at this
              rw [hjun] at this
              cases this
            have hn1 : ∀ q ∈ l1, q.2.dst ≠ some t := fun q hq hqt => by
              have hqlo : q ∈ lo := by rw [← hl]; simp [hq]
              by_cases hqp : q.1 = p.1
              · have := (hon3 q hq (i, o) (by simp)).2.1
                rw [hqp] at this
                simp only at this h
                rw [this] at h
                cases h
              · exact fit.dsts q hqlo p hp hqp t hqt hpt
            have hn2 : ∀ q ∈ lo, listed.getD q.1 false = true → q.2.dst ≠ some t := fun q hq hql hqt => by
              by_cases hqp : q.1 = p.1
              · rw [hqp] at hql; exact hpl hql
              · exact fit.dsts q hq p hp hqp t hqt hpt
            rw [hag.away t hn1, hA t hn2]
        · rw [hag.away t fun p hp e => hex ⟨p, by rw [← hl]; simp [hp], e⟩, hA t fun p hp _ e => hex ⟨p, hp, e⟩]
      have hw := wanted_same hlook
      have hx := exec_same (fun cs b => Region.noSelect_spec fit.sel i o cs b hjn.2) hlook
      have hrest : ∀ p ∈ rest, p.1 ≠ i ∧ ∀ t, o.dst = some t → p.2.dst ≠ some t := fun p hp => by
        have h1 := ((List.pairwise_cons.1 hon2).1 p hp).1
        exact ⟨fun e => h1 e.symm, fun t ht => fit.dsts (i, o) hmem p (by rw [← hl]; simp [hp]) h1 t ht⟩
      have hset : (listed.setIfInBounds i true).getD i false = true := by simp [hjlt]
      unfold Tree at hT
      rw [if_neg (by rw [hjun]; simp)] at hT
      rcases hT with ⟨h1, h2, h3⟩ | ⟨h1, G, f, h2, h3, h4, hfl, h5, h6⟩
      · refine .inl ⟨by rw [← hw]; exact h1, h2, ?_⟩
        unfold Tree
        rw [if_pos hset]
        refine ⟨fun _ => True, fun _ _ _ _ => trivial, trivial, ?_⟩
        rw [put_slot hag.size]
        exact tree_later hfl rest _ _ hrest h3
      · refine .inr ⟨by rw [← hw]; exact h1, (by rw [← hx]; exact hfl), ?_⟩
        have hlat : ∀ e, ancB ops e i = true → listed.getD e false = false := fun e he => by
          cases hle : listed.getD e false with
          | false => rfl
          | true => have := anc_closed hcl he hle; rw [hjun] at this; cases this
        have hsoo : ∀ e, ancB ops i e = true → listed.getD e false = true := fun e he => anc_ready hcl hr hjlt he (fun e' => by rw [e', fit.irrefl i hjn.1] at he; cases he)
        have hz := h5 (fun x => listed.getD x false) ⟨hjun, hlat, hsoo, fun e e' he hle => anc_closed hcl he hle⟩ W hC
          (fun p hp hpa => hL p hp (hsoo _ hpa))
        refine (hz.congr hx.symm).mono fun v W' ⟨g1, g2, g3, g4⟩ => ⟨g1, g2, ?_⟩
        unfold Tree
        rw [if_pos hset]
        refine ⟨f v, h2 v g3, g4, ?_⟩
        rw [put_slot hag.size]
        exact tree_later g2 rest _ _ hrest (h6 v g3)
    · have hm' : (j, oj) ∈ rest := by
        rw [List.mem_cons] at hm
        rcases hm with h | h
        · cases h; exact absurd rfl hij
        · exact h
      have hset : (listed.setIfInBounds j true).getD i false = listed.getD i false := getD_set_ne false (Ne.symm hij)
      have hdne : ∀ t, oj.dst = some t → o.dst ≠ some t := fun t ht => fit.dsts (j, oj) hj (i, o) hmem (Ne.symm hij) t ht
      by_cases hil : listed.getD i false = true
      · unfold Tree at hT
        rw [if_pos hil] at hT
        obtain ⟨f, g1, g2, g3⟩ := hT
        have := ih (l1 ++ [(i, o)]) _ ((i, f) :: L) (by simpa using hl) (hag.push_in hdl) (fun p hp hpl => by
          rw [List.mem_cons] at hp
          rcases hp with rfl | hp
          · exact g2
          · exact hL p hp hpl) hm' g3
        rcases this with ⟨h1, h2, h3⟩ | ⟨h1, hfo, h2⟩
        · refine .inl ⟨h1, h2, ?_⟩
          unfold Tree
          rw [hset, if_pos hil]
          exact ⟨f, g1, g2, by rw [slot_put_ne hdne]; exact h3⟩
        · refine .inr ⟨h1, hfo, h2.mono fun v W' ⟨k1, k2, k3⟩ => ⟨k1, k2, ?_⟩⟩
          unfold Tree
          rw [hset, if_pos hil]
          exact ⟨f, g1, g1 _ _ k2 g2, by rw [slot_put_ne hdne]; exact k3⟩
      · unfold Tree at hT
        rw [if_neg hil] at hT
        rcases hT with ⟨h1, h2, h3⟩ | ⟨h1, G, f, h2, h3, h4, hfl, h5, h6⟩
        · have := ih (l1 ++ [(i, o)]) _ ((i, fun _ => True) :: L) (by simpa using hl) (hag.push_un hil hdl undef) (fun p hp hpl => by
            rw [List.mem_cons] at hp
            rcases hp with rfl | hp
            · trivial
            · exact hL p hp hpl) hm' h3
          rcases this with ⟨k1, k2, k3⟩ | ⟨k1, hfo, k2⟩
          · refine .inl ⟨k1, k2, ?_⟩
            unfold Tree
            rw [hset, if_neg hil]
            exact .inl ⟨h1, h2, k3⟩
          · refine .inr ⟨k1, hfo, k2.mono fun v W' ⟨m1, m2, m3⟩ => ⟨m1, m2, ?_⟩⟩
            unfold Tree
            rw [hset, if_neg hil]
            exact .inl ⟨h1, h2, m3⟩
        · have key := fun v hv => ih (l1 ++ [(i, o)]) _ ((i, f v) :: L) (by simpa using hl) (hag.push_un hil hdl v) (fun p hp hpl => by
            rw [List.mem_cons] at hp
            rcases hp with rfl | hp
            · exact absurd hpl hil
            · exact hL p hp hpl) hm' (h6 v hv)
          obtain ⟨v0, hv0⟩ := h3
          cases hwj : Region.wanted oj (yielded ops A.tmps) with
          | false =>
            have key' : ∀ v, G v → j ∉ es ∧ Tree P ops S C es U Fl Fin (listed.setIfInBounds j true) (A.put oj.dst undef) W rest (a.put o.dst v) ((i, f v) :: L) := fun v hv => by
              rcases key v hv with ⟨k1, k2, k3⟩ | ⟨k1, _, k2⟩
              · exact ⟨k2, k3⟩
              · rw [hwj] at k1; cases k1
            refine .inl ⟨rfl, (key' v0 hv0).1, ?_⟩
            unfold Tree
            rw [hset, if_neg hil]
            exact .inr ⟨h1, G, f, h2, ⟨v0, hv0⟩, h4, hfl, h5, fun v hv => (key' v hv).2⟩
          | true =>
            have key' : ∀ v, G v → zAt P oj A (fun u W' => C (upd (fun x => listed.getD x false) j) W' ∧ Fr W.heap.size S W W' ∧ Tree P ops S C es U Fl Fin (listed.setIfInBounds j true) (A.put oj.dst u) W' rest (a.put o.dst v) ((i, f v) :: L)) W := fun v hv => by
              rcases key v hv with ⟨k1, k2, k3⟩ | ⟨k1, _, k2⟩
              · rw [hwj] at k1; cases k1
              · exact k2
            have hfo : j ∈ Fl → ∃ c, ∀ w, (execOp A.eval oj).run P w = .ok (.value c) w := by
              rcases key v0 hv0 with ⟨k1, k2, k3⟩ | ⟨k1, hfo, k2⟩
              · rw [hwj] at k1; cases k1
              · exact hfo
            refine .inr ⟨rfl, hfo, ?_⟩
            have fold : ∀ (u : Value) (W' : World), (∀ v, G v → Tree P ops S C es U Fl Fin (listed.setIfInBounds j true) (A.put oj.dst u) W' rest (a.put o.dst v) ((i, f v) :: L)) →
                Tree P ops S C es U Fl Fin (listed.setIfInBounds j true) (A.put oj.dst u) W' ((i, o) :: rest) a L := fun u W' hh => by
              unfold Tree
              rw [hset, if_neg hil]
              exact .inr ⟨h1, G, f, h2, ⟨v0, hv0⟩, h4, hfl, h5, hh⟩
            cases hcall : isCall oj.op with
            | false =>
              have := zAt.all (α := {v // G v}) hcall ⟨v0, hv0⟩ (fun x => key' x.1 x.2)
              exact this.mono fun u W' hh => ⟨(hh ⟨v0, hv0⟩).1, (hh ⟨v0, hv0⟩).2.1, fold u W' fun v hv => (hh ⟨v, hv⟩).2.2⟩
            | true =>
              have hiU : i ∉ U := fun hiU => by
                have := ((List.pairwise_cons.1 hon2).1 (j, oj) hm').2.2 hcall hiU
                exact hil (anc_ready hcl hr hjlt this hij)
              obtain ⟨c, hc⟩ := h4 hiU
              obtain rfl := hc v0 hv0
              exact (key' v0 hv0).mono fun u W' hh => ⟨hh.1, hh.2.1, fold u W' fun v hv => by obtain rfl := hc v hv; exact hh.2.2⟩
theorem float_zAt {o : Oper} {A : Act} {W : World} {K : Value → World → Prop} {c : Value} (hp : ∀ w, (execOp A.eval o).run P w = .ok (.value c) w) (h : zAt P o A K W) : K c W := by
  unfold zAt at h
  rw [hp] at h
  exact h
/-- an operation that looks at no memory, and may come as soon as it can -/
def flB (ops : Array Oper) (Fl : List Nat) (an : Nat → Nat → Bool) (i : Nat) : Bool :=
  match ops[i]? with
  | some oi => Fl.contains i && (List.range ops.size).all fun j => j == i || an i j || Region.waitsFor .any ops j i || (match ops[j]? with | some oj => oi.apart ops oj | none => true)
  | none => false
theorem fl_spec {i : Nat} {oi : Oper} (hi : ops[i]? = some oi) (h : flB ops Fl (ancB ops) i = true) : i ∈ Fl ∧ ∀ j oj, ops[j]? = some oj → j ≠ i → ancB ops i j = false → (∀ e ∈ oj.after, Region.binds .any e = true → e.on ≠ i) → oi.apart ops oj = true := by
  unfold flB at h
  simp only [hi, Bool.and_eq_true, List.all_eq_true, List.mem_range, Bool.or_eq_true] at h
  refine ⟨by simpa using h.1, fun j oj hj hne ha hno => ?_⟩
  rcases h.2 j (Array.getElem?_eq_some_iff.1 hj).1 with ((h1 | h1) | h1) | h1
  · exact absurd (by simpa using h1) hne
  · rw [ha] at h1; cases h1
  · obtain ⟨oj', hj', e, he, hb, hon⟩ := Region.waitsFor_spec h1
    obtain rfl := Option.some.inj (hj.symm.trans hj')
    exact absurd hon (hno e he hb)
  · simpa [hj] using h1
def unl (listed : Array Bool) : Nat → Nat
  | 0 => 0
  | m + 1 => unl listed m + if listed.getD m false = true then 0 else 1
theorem unl_set {listed : Array Bool} {j : Nat} (hj : j < listed.size) (hu : listed.getD j false = false) : ∀ m, unl (listed.setIfInBounds j true) m + (if j < m then 1 else 0) = unl listed m
  | 0 => by simp [unl]
  | m + 1 => by
    have ih := unl_set hj hu m
    unfold unl
    by_cases hjm : j = m
    · subst hjm
      simp [hj] at ih hu ⊢
      simp [hu]; exact ih
    · rw [getD_set_ne false hjm]
      split at ih <;> split <;> split <;> omega
theorem unl_zero {listed : Array Bool} : ∀ {m : Nat}, unl listed m = 0 → ∀ i, i < m → listed.getD i false = true
  | m + 1, h, i, hi => by
    unfold unl at h
    by_cases him : i = m
    · subst him
      split at h
      · assumption
      · omega
    · exact unl_zero (m := m) (by omega) i (by omega)
theorem unl_pos {listed : Array Bool} {m k : Nat} (h : unl listed m = k + 1) : ∃ i, i < m ∧ listed.getD i false = false ∧ ∀ x, x < i → listed.getD x false = true := by
  have hex : ∃ i, i < m ∧ listed.getD i false = false := by
    refine Classical.byContradiction fun hn => ?_
    have : ∀ q, q ≤ m → unl listed q = 0 := by
      intro q
      induction q with
      | zero => intro _; rfl
      | succ q ih =>
        intro hq
        unfold unl
        rw [ih (by omega)]
        cases hl : listed.getD q false with
        | true => simp
        | false => exact absurd ⟨q, by omega, hl⟩ hn
    rw [this m (Nat.le_refl _)] at h
    cases h
  obtain ⟨i, hi, hil⟩ := hex
  induction i using Nat.strongRecOn with
  | _ i ih =>
    by_cases hmin : ∀ x, x < i → listed.getD x false = true
    · exact ⟨i, hi, hil, hmin⟩
    · obtain ⟨x, hx⟩ := Classical.not_forall.1 hmin
      obtain ⟨hx1, hx2⟩ := Classical.not_imp.1 hx
      exact ih x hx1 (by omega) (by simpa using hx2)
theorem tree_done {n : Nat} {lo : List (Nat × Oper)} (fit : Fit ops U n lo) {listed : Array Bool} {A a0 : Act} {W : World}
    (hA : ∀ t, (∀ p ∈ lo, listed.getD p.1 false = true → p.2.dst ≠ some t) → A.tmps[t]? = a0.tmps[t]?) (hall : ∀ i, i < n → listed.getD i false = true) :
    ∀ (l l1 : List (Nat × Oper)) (a : Act) (L : List Fact), l1 ++ l = lo → Agr listed A a0 a l1 → (∀ p ∈ L, p.2 W) → Tree P ops S C es U Fl Fin listed A W l a L → ∃ L', (∀ p ∈ L', p.2 W) ∧ Fin A L'
  | [], l1, a, L, hl, hag, hL, hT => by
    have : a = A := by
      obtain ⟨at1, at2⟩ := a
      obtain ⟨A1, A2⟩ := A
      have h1 := hag.size
      have h2 := hag.defers
      simp only at h1 h2
      congr
      · refine Array.ext h1 fun t ht ht' => ?_
        have : at1[t]? = A1[t]? := by
          by_cases hex : ∃ p ∈ l1, p.2.dst = some t
          · obtain ⟨p, hp, hpt⟩ := hex
            exact hag.here p hp (hall _ (fit.are p (by rw [← hl]; simp [hp])).1) t hpt
          · exact (hag.away t fun p hp e => hex ⟨p, hp, e⟩).trans (hA t fun p hp _ e => hex ⟨p, by simpa [← hl] using hp, e⟩).symm
        simpa [ht, ht'] using this
    subst this
    exact ⟨L, hL, hT⟩
  | (i, o) :: rest, l1, a, L, hl, hag, hL, hT => by
    have hmem : (i, o) ∈ lo := by rw [← hl]; simp
    have hon := fit.once
    rw [← hl, List.pairwise_append] at hon
    obtain ⟨_, hon2, hon3⟩ := hon
    have hdl : ∀ p ∈ l1, ∀ t, p.2.dst = some t → o.dst ≠ some t := fun p hp t ht => fit.dsts p (by rw [← hl]; simp [hp]) (i, o) hmem (hon3 p hp (i, o) (by simp)).1 t ht
    unfold Tree at hT
    rw [if_pos (hall i (fit.are _ hmem).1)] at hT
    obtain ⟨f, g1, g2, g3⟩ := hT
    exact tree_done fit hA hall rest (l1 ++ [(i, o)]) _ ((i, f) :: L) (by simpa using hl) (hag.push_in hdl) (fun p hp => by
      rw [List.mem_cons] at hp
      rcases hp with rfl | hp
      · exact g2
      · exact hL p hp) g3
def headArr (m n : Nat) : Array Bool := ((List.range m).map fun i => decide (i < n)).toArray
theorem tree_any {n : Nat} {lo : List (Nat × Oper)} (fit : Fit ops U n lo) (hno : n ≤ ops.size) (hfw : ∀ i oi, i < n → ops[i]? = some oi → ∀ e ∈ oi.after, Region.binds .any e = true → e.on < i)
    (htl : ∀ t i, n ≤ t → t < ops.size → i < n → ancB ops t i = true ∨ flB ops Fl (ancB ops) i = true) (hes : ∀ i, i ∉ es → ∀ bs w, C bs w → C (upd bs i) w) {Q : Exit → Act → World → Prop} {g : Nat}
    (hQ : ∀ c a d v w, Q (.panic c) (Act.put a d v) w → Q (.panic c) a w) (hFin : ∀ W A L, C (fun x => decide (x < n)) W → (∀ p ∈ L, p.2 W) → Fin A L → wpAny P .any ops Q g (headArr ops.size n) A W) {a0 : Act} :
    ∀ (k : Nat) (listed : Array Bool) (A : Act) (W : World), unl listed n = k → listed.size = ops.size → Closed ops listed → (∀ t, n ≤ t → t < ops.size → listed.getD t false = false) →
      A.tmps.size = a0.tmps.size → A.defers = a0.defers → (∀ t, (∀ p ∈ lo, listed.getD p.1 false = true → p.2.dst ≠ some t) → A.tmps[t]? = a0.tmps[t]?) →
      C (fun x => listed.getD x false) W → Tree P ops S C es U Fl Fin listed A W lo a0 [] → wpAny P .any ops Q (k + g) listed A W := by
  intro k
  induction k with
  | zero =>
    intro listed A W hk hsz hcl hta hs hd hA hC hT
    have hall := unl_zero hk
    obtain ⟨L', h1, h2⟩ := tree_done fit hA hall lo [] a0 [] (by simp) ⟨hs.symm, hd.symm, (fun p hp => by cases hp), fun _ _ => rfl⟩ (fun p hp => by cases hp) hT
    have hbs : (fun x => listed.getD x false) = fun x => decide (x < n) := by
      funext x
      by_cases hx : x < n
      · rw [hall x hx]; simp [hx]
      · by_cases hx2 : x < ops.size
        · rw [hta x (by omega) hx2]; simp [hx]
        · rw [Array.getD_eq_getD_getElem?, Array.getElem?_eq_none (by omega)]; simp [hx]
    have hl : listed = headArr ops.size n := by
      refine Array.ext (by simp [headArr, hsz]) fun i hi hi' => ?_
      have := congrFun hbs i
      simp [hi] at this
      simp [headArr, this]
    rw [hbs] at hC
    rw [Nat.zero_add]
    rw [hl]
    exact hFin W A L' hC h1 h2
  | succ k ih =>
    intro listed A W hk hsz hcl hta hs hd hA hC hT
    obtain ⟨i, hin, hil, himin⟩ := unl_pos hk
    rw [show k + 1 + g = (k + g) + 1 by omega]
    have hri : i ∈ Region.ready .any ops listed := by
      have hilt : i < ops.size := by omega
      refine mem_ready.2 ⟨getD_in (by omega) hil, ops[i], by simp [hilt], fun e he hb => himin _ (hfw i _ hin (by simp [hilt]) e he hb)⟩
    have step : ∀ j, j ∈ Region.ready .any ops listed → j < n → ∃ oj, ops[j]? = some oj ∧
        ((Region.wanted oj (yielded ops A.tmps) = false ∧ wpAny P .any ops Q (k + g) (listed.setIfInBounds j true) (A.put oj.dst undef) W) ∨
         (Region.wanted oj (yielded ops A.tmps) = true ∧ (j ∈ Fl → ∃ c, ∀ w, (execOp A.eval oj).run P w = .ok (.value c) w) ∧ zAt P oj A (fun v W' => wpAny P .any ops Q (k + g) (listed.setIfInBounds j true) (A.put oj.dst v) W') W)) := by
      intro j hj hjn
      obtain ⟨hjun, oj, hoj, _⟩ := mem_ready.1 hj
      have hjlt : j < ops.size := (Array.getElem?_eq_some_iff.1 hoj).1
      obtain ⟨p, hp, hpj⟩ := fit.all j hjn
      have hpo := (fit.are p hp).2
      rw [hpj, hoj] at hpo
      obtain ⟨p1, p2⟩ := p
      simp only at hpj hpo
      subst hpj
      obtain rfl := Option.some.inj hpo
      have hbs : upd (fun x => listed.getD x false) p1 = fun x => (listed.setIfInBounds p1 true).getD x false := by
        funext x
        unfold upd
        by_cases hx : x = p1
        · subst hx; simp [hsz, hjlt]
        · rw [getD_set_ne false (Ne.symm hx)]; simp [hx]
      have next : ∀ v W', C (upd (fun x => listed.getD x false) p1) W' → Tree P ops S C es U Fl Fin (listed.setIfInBounds p1 true) (A.put oj.dst v) W' lo a0 [] → wpAny P .any ops Q (k + g) (listed.setIfInBounds p1 true) (A.put oj.dst v) W' := fun v W' h1 h2 => by
        refine ih _ _ _ ?_ (by simp [hsz]) (hcl.set hj) (fun t h3 h4 => by rw [getD_set_ne false (by omega)]; exact hta t h3 h4) (by rw [put_size, hs]) (by rw [put_defers, hd]) (fun t ht => ?_) (by rw [← hbs]; exact h1) h2
        · have := unl_set (j := p1) (by omega) (getD_both hjun) n
          rw [if_pos hjn] at this
          omega
        · rw [put_get_ne (ht _ hp (by simp [hsz, hjlt]))]
          exact hA t fun p hp' hpl => ht p hp' (getD_set_true hpl)
      refine ⟨oj, hoj, ?_⟩
      rcases tree_exec fit hcl hsz hno hA hes hC hp hj lo [] a0 [] (by simp) ⟨hs.symm, hd.symm, (fun p hp => by cases hp), fun _ _ => rfl⟩ (fun p hp => by cases hp) hp hT with ⟨h1, h2, h3⟩ | ⟨h1, hfo, h2⟩
      · exact .inl ⟨h1, next _ _ (hes _ h2 _ _ hC) h3⟩
      · exact .inr ⟨h1, hfo, h2.mono fun v W' ⟨g1, g2, g3⟩ => next v W' g1 g3⟩
    by_cases hfl : ∃ j, j ∈ Region.ready .any ops listed ∧ j < n ∧ flB ops Fl (ancB ops) j = true
    · obtain ⟨j, hj, hjn, hjf⟩ := hfl
      obtain ⟨oj, hoj, hst⟩ := step j hj hjn
      have hjl : j < listed.size := by omega
      obtain ⟨hff, hfree⟩ := fl_spec hoj hjf
      have free : ∀ j' oj', ops[j']? = some oj' → j' ≠ j → listed.getD j' true = false → (∀ e ∈ oj'.after, Region.binds .any e = true → e.on ≠ j) → oj.apart ops oj' = true := fun j' oj' h1 h2 h3 h4 => by
        refine hfree j' oj' h1 h2 ?_ h4
        cases ha : ancB ops j j' with
        | false => rfl
        | true =>
          have := anc_ready hcl hj hjl ha h2
          rw [getD_both h3] at this
          cases this
      rcases hst with ⟨h1, h2⟩ | ⟨h1, hfo, h2⟩
      · exact wpAny_first hoj (Region.noSelect_spec fit.sel) (fun c a w h => hQ c a _ _ w h) _ _ _ _ free hj (.inr ⟨h1, rfl⟩) h2
      · obtain ⟨v, hv1⟩ := hfo hff
        have hv2 := float_zAt hv1 h2
        exact wpAny_first hoj (Region.noSelect_spec fit.sel) (fun c a w h => hQ c a _ _ w h) _ _ _ _ free hj (.inl ⟨h1, hv1⟩) hv2
    refine ⟨fun h0 => (by rw [h0] at hri; cases hri), fun j hj => ?_⟩
    have hjn : j < n := by
      refine (Nat.lt_or_ge j n).elim id fun h => ?_
      obtain ⟨hjun, oj, hoj, _⟩ := mem_ready.1 hj
      have hjlt : j < ops.size := (Array.getElem?_eq_some_iff.1 hoj).1
      rcases htl j i h hjlt hin with h1 | h1
      · have := anc_ready hcl hj (by omega) h1 (by omega)
        rw [hil] at this
        cases this
      · exact absurd ⟨i, hri, hin, h1⟩ hfl
    obtain ⟨oj, hoj, hst⟩ := step j hj hjn
    unfold wpOp
    simp only [hoj]
    rcases hst with ⟨h1, h2⟩ | ⟨h1, _, h2⟩
    · rw [if_neg (by rw [h1]; simp)]
      exact h2
    · rw [if_pos h1]
      exact .inl (wp_of_zAt h2 fun v W' h => h)
/-- the check, as one Bool -/
def fitB (ops : Array Oper) (U Fl : List Nat) (n : Nat) (lo : List (Nat × Oper)) : Bool :=
  Region.noSelect ops && decide (n ≤ ops.size) && decide (lo.map (·.1)).Nodup && decide (lo.length = n) && (lo.all fun p => decide (p.1 < n)) &&
  (let bf := Region.before ops
   let an := fun i j : Nat => (bf.getD i 0).testBit j
   ((List.range n).all fun i => !an i i) &&
   ((List.range n).all fun i => ((ops[i]?).map fun o => o.after.all fun e => !Region.binds .any e || decide (e.on < i)).getD true) &&
   ((List.range ops.size).all fun t => decide (t < n) || (List.range n).all fun i => an t i || flB ops Fl an i) &&
   (lo.all fun p => lo.all fun q => p.1 == q.1 || (match p.2.dst with | some t => q.2.dst != some t | none => true)) &&
   (lo.all fun p => match p.2.dst with | some t => lo.all fun q => !(q.2.looksAt ops).contains t || an q.1 p.1 || an p.1 q.1 | none => true) &&
   pairsB an U lo) && tailF .any ops (ops.size - n) n (headArr ops.size n)
where pairsB (an : Nat → Nat → Bool) (U : List Nat) : List (Nat × Oper) → Bool
  | [] => true
  | p :: rest => (rest.all fun q => !an p.1 q.1 && (!isCall q.2.op || !U.contains p.1 || an q.1 p.1)) && pairsB an U rest
theorem pairs_of {an : Nat → Nat → Bool} : ∀ {lo : List (Nat × Oper)}, fitB.pairsB an U lo = true → (lo.map (·.1)).Nodup → lo.Pairwise fun p q => p.1 ≠ q.1 ∧ an p.1 q.1 = false ∧ (isCall q.2.op = true → p.1 ∈ U → an q.1 p.1 = true)
  | [], _, _ => .nil
  | p :: rest, h, hn => by
    simp only [fitB.pairsB, Bool.and_eq_true, List.all_eq_true] at h
    rw [List.map_cons, List.nodup_cons] at hn
    refine List.pairwise_cons.2 ⟨fun q hq => ?_, pairs_of h.2 hn.2⟩
    have h1 := h.1 q hq
    simp only [Bool.and_eq_true, Bool.not_eq_true', Bool.or_eq_true] at h1
    refine ⟨fun e => hn.1 (List.mem_map.2 ⟨q, hq, e.symm⟩), h1.1, fun hc hu => ?_⟩
    rcases h1.2 with (h2 | h2) | h2
    · rw [hc] at h2; cases h2
    · simp [hu] at h2
    · exact h2
theorem all_of {n : Nat} : ∀ {l : List Nat}, l.Nodup → l.length = n → (∀ x ∈ l, x < n) → ∀ i, i < n → i ∈ l := by
  intro l hn hl hlt i hi
  refine Classical.byContradiction fun hni => ?_
  have h1 : (i :: l).Nodup := List.nodup_cons.2 ⟨hni, hn⟩
  have h2 : ∀ x ∈ i :: l, x ∈ List.range n := fun x hx => by
    rw [List.mem_cons] at hx
    rcases hx with rfl | hx
    · simpa using hi
    · simpa using hlt x hx
  have h3 := h1.length_le_of_subset h2
  simp [hl] at h3
  exact absurd h3 (Nat.not_succ_le_self n)
theorem fit_of {n : Nat} {lo : List (Nat × Oper)} (h : fitB ops U Fl n lo = true) (hlo : ∀ p ∈ lo, ops[p.1]? = some p.2) : Fit ops U n lo ∧ n ≤ ops.size ∧
    (∀ i oi, i < n → ops[i]? = some oi → ∀ e ∈ oi.after, Region.binds .any e = true → e.on < i) ∧ (∀ t i, n ≤ t → t < ops.size → i < n → ancB ops t i = true ∨ flB ops Fl (ancB ops) i = true) ∧ tailF .any ops (ops.size - n) n (headArr ops.size n) = true := by
  simp only [fitB, Bool.and_eq_true, decide_eq_true_eq, List.all_eq_true, List.mem_range, Bool.not_eq_true', Bool.or_eq_true] at h
  obtain ⟨⟨⟨⟨⟨⟨h1, h2⟩, h3⟩, h4⟩, h5⟩, ⟨⟨⟨⟨⟨h6, h7⟩, h8⟩, h9⟩, h10⟩, h11⟩⟩, h12⟩ := h
  refine ⟨⟨h1, fun p hp => ⟨h5 p hp, hlo p hp⟩, fun i hi => ?_, pairs_of h11 h3, fun p hp q hq hne t ht => ?_, fun p hp q hq t ht hm => ?_, h6⟩, h2, fun i oi hi hoi e he hb => ?_, fun t i ht ht' hi => ?_, h12⟩
  · have := all_of h3 (by simpa using h4) (fun x hx => by obtain ⟨p, hp, rfl⟩ := List.mem_map.1 hx; exact h5 p hp) i hi
    obtain ⟨p, hp, e⟩ := List.mem_map.1 this
    exact ⟨p, hp, e⟩
  · rcases h9 p hp q hq with h | h
    · exact absurd (by simpa using h) hne
    · rw [ht] at h
      simpa using h
  · have := h10 p hp
    rw [ht] at this
    simp only [List.all_eq_true, Bool.or_eq_true, Bool.not_eq_true'] at this
    rcases this q hq with (h | h) | h
    · simp [hm] at h
    · exact .inl h
    · exact .inr h
  · have := h7 i hi
    rw [hoi] at this
    simp only [Option.map_some, Option.getD_some, Array.all_eq_true_iff_forall_mem, Bool.or_eq_true, Bool.not_eq_true', decide_eq_true_eq] at this
    exact (this e he).resolve_left (by rw [hb]; simp)
  · have := (h8 t ht').resolve_left (by omega) i hi
    exact this
/-- THE LAW. -/
theorem wp_region_walk {id : Nat} {Q : Exit → Act → World → Prop} {a : Act} {w : World} {l : List Oper} (S : List Nat) (C : (Nat → Bool) → World → Prop) (es U Fl : List Nat) (n : Nat) (lo : List (Nat × Oper)) (hm : P.follows .mixedOrders = true)
    (hB : fitB l.toArray U Fl n lo = true) (hlo : ∀ p ∈ lo, l.toArray[p.1]? = some p.2) (hQ : ∀ c a d v w, Q (.panic c) (Act.put a d v) w → Q (.panic c) a w)
    (hes : ∀ i, i ∉ es → ∀ bs w, C bs w → C (upd bs i) w) (hC : C (fun _ => false) { w with drawn := w.drawn + 1 })
    (h : wpZ P l.toArray S C es U Fl (fun a' L => ∀ w', C (fun x => decide (x < n)) w' → (∀ p ∈ L, p.2 w') → wpList P l.toArray Q (l.drop n) a' w') lo a []) : (Code.region id l.toArray true).wp P Q a w := by
  obtain ⟨fit, hno, hfw, htl, htf⟩ := fit_of hB hlo
  have hdl : (l.drop n).length = l.toArray.size - n := by simp
  refine wp_region_any hm ?_
  have hT := tree_of_wpZ (m := l.toArray.size) (A := a) (W := { w with drawn := w.drawn + 1 }) _ _ _ h
  have := tree_any (Q := Q) (g := l.toArray.size - n) (a0 := a) fit hno hfw htl hes hQ (fun W A L hC hL hF => by
    have := wpAny_of_tailF (md := .any) (Q := Q) fit.sel hQ (l.drop n) n (headArr l.toArray.size n) A W (fun j => by simp [List.getElem?_drop]) (by rw [hdl]; exact htf) (hF W hC hL)
    rwa [hdl] at this) _ (Array.replicate l.toArray.size false) a _ rfl (by simp) (fun j oj _ hl => by rw [getD_replicate_false] at hl; cases hl) (fun t _ _ => getD_replicate_false _ _) rfl rfl (fun _ _ => rfl)
    (by simpa only [getD_replicate_false] using hC) hT
  have hun : ∀ m, m ≤ l.toArray.size → unl (Array.replicate l.toArray.size false) m = m := by
    intro m
    induction m with
    | zero => intro _; rfl
    | succ m ih => intro hm; unfold unl; rw [ih (by omega), getD_replicate_false]; rfl
  rw [hun n hno, show n + (l.toArray.size - n) = l.toArray.size by omega] at this
  exact this
end tree2
end Go.Proofs.YtnjgnbdebkckfaaGreatDoor.K11
namespace Go.Proofs.YtnjgnbdebkckfaaGreatDoor.K12
open Go.RowKit K3 K5 K11
/-- the class of the world in a region without an effect -/
def C0e (D : World → Prop) : (Nat → Bool) → World → Prop := fun _ x => D x
/-- one effect, at e -/
def C1e (e : Nat) (D0 D1 : World → Prop) : (Nat → Bool) → World → Prop := fun bs x => if bs e = true then D1 x else D0 x
/-- two effects, at e ahead of e' -/
def C2e (e e' : Nat) (D0 D1 D2 : World → Prop) : (Nat → Bool) → World → Prop := fun bs x => if bs e' = true then D2 x else if bs e = true then D1 x else D0 x
theorem C0e.es {D : World → Prop} : ∀ i, i ∉ ([] : List Nat) → ∀ bs w, C0e D bs w → C0e D (upd bs i) w := fun _ _ _ _ h => h
theorem C1e.es {e : Nat} {D0 D1 : World → Prop} : ∀ i, i ∉ [e] → ∀ bs w, C1e e D0 D1 bs w → C1e e D0 D1 (upd bs i) w := by
  intro i hi bs w h
  have hne : (e == i) = false := by
    rw [List.mem_singleton] at hi
    simpa using fun e' => hi e'.symm
  unfold C1e upd at *
  rw [hne, Bool.or_false]
  exact h
theorem C2e.es {e e' : Nat} {D0 D1 D2 : World → Prop} : ∀ i, i ∉ [e, e'] → ∀ bs w, C2e e e' D0 D1 D2 bs w → C2e e e' D0 D1 D2 (upd bs i) w := by
  intro i hi bs w h
  simp only [List.mem_cons, List.not_mem_nil, or_false, not_or] at hi
  have hne : (e == i) = false := by simpa using fun e' => hi.1 e'.symm
  have hne' : (e' == i) = false := by simpa using fun e' => hi.2 e'.symm
  unfold C2e upd at *
  rw [hne, hne', Bool.or_false, Bool.or_false]
  exact h
/-- memory may be made -/
def Grows (C : (Nat → Bool) → World → Prop) : Prop := ∀ bs w w', C bs w → Below w.heap.size w w' → C bs w'
theorem C0e.grows {D : World → Prop} (h : ∀ w w', D w → Below w.heap.size w w' → D w') : Grows (C0e D) := fun _ w w' => h w w'
theorem C1e.grows {e : Nat} {D0 D1 : World → Prop} (h : ∀ w w', D0 w → Below w.heap.size w w' → D0 w') (h1 : ∀ w w', D1 w → Below w.heap.size w w' → D1 w') : Grows (C1e e D0 D1) := by
  intro bs w w' hc hb
  unfold C1e at *
  split
  · rename_i hh; rw [if_pos hh] at hc; exact h1 _ _ hc hb
  · rename_i hh; rw [if_neg hh] at hc; exact h _ _ hc hb
theorem C2e.grows {e e' : Nat} {D0 D1 D2 : World → Prop} (h : ∀ w w', D0 w → Below w.heap.size w w' → D0 w') (h1 : ∀ w w', D1 w → Below w.heap.size w w' → D1 w') (h2 : ∀ w w', D2 w → Below w.heap.size w w' → D2 w') : Grows (C2e e e' D0 D1 D2) := by
  intro bs w w' hc hb
  unfold C2e at *
  split
  · rename_i hh; rw [if_pos hh] at hc; exact h2 _ _ hc hb
  · rename_i hh
    rw [if_neg hh] at hc
    split
    · rename_i hh; rw [if_pos hh] at hc; exact h1 _ _ hc hb
    · rename_i hh; rw [if_neg hh] at hc; exact h _ _ hc hb
theorem C1e.any {e : Nat} {D0 D1 D : World → Prop} (h : ∀ w, D0 w → D w) (h1 : ∀ w, D1 w → D w) : ∀ bs w, C1e e D0 D1 bs w → D w := by
  intro bs w hc
  unfold C1e at hc
  split at hc
  · exact h1 _ hc
  · exact h _ hc
theorem C2e.any {e e' : Nat} {D0 D1 D2 D : World → Prop} (h : ∀ w, D0 w → D w) (h1 : ∀ w, D1 w → D w) (h2 : ∀ w, D2 w → D w) : ∀ bs w, C2e e e' D0 D1 D2 bs w → D w := by
  intro bs w hc
  unfold C2e at hc
  split at hc
  · exact h2 _ hc
  · split at hc
    · exact h1 _ hc
    · exact h _ hc
theorem cell_blk {w : World} {b : Nat} {cs : Array Value} {t : TypeId} {f : Nat × Nat} (h : w.heap[b]? = some (.cells cs t f)) : ∀ i, w.cell? ⟨b, i, none⟩ = cs[i]? := by
  intro i
  unfold World.cell?
  rw [h]
  simp
theorem froz_blk {w : World} {b : Nat} {cs : Array Value} {t : TypeId} (h : w.heap[b]? = some (.cells cs t (0, 0))) : ∀ i, w.frozen? ⟨b, i, none⟩ = false := by
  intro i
  unfold World.frozen?
  rw [h]
  simp
theorem blk {w : World} {b : Nat} {cs : Array Value} {t : TypeId} (h : w.heap[b]? = some (.cells cs t (0, 0))) : (∀ i, w.cell? ⟨b, i, none⟩ = cs[i]?) ∧ (∀ i, K1.cellX w b i = cs[i]?) ∧ (∀ i, w.frozen? ⟨b, i, none⟩ = false) ∧ (∀ i, K1.frozX w b i = false) ∧ b < w.heap.size :=
  ⟨cell_blk h, cell_blk h, froz_blk h, froz_blk h, (Array.getElem?_eq_some_iff.1 h).1⟩
section
variable {P : Program} {ops : Array Oper} {S : List Nat} {C : (Nat → Bool) → World → Prop} {es U Fl : List Nat} {Fin : Act → List Fact → Prop} {i : Nat} {o : Oper} {rest : List (Nat × Oper)} {a : Act} {L : List Fact}
theorem wz_nil (h : Fin a L) : wpZ P ops S C es U Fl Fin [] a L := h
theorem wz_skip (hi : i ∉ es) (h : Region.wanted o (yielded ops a.tmps) = false) (hK : wpZ P ops S C es U Fl Fin rest (a.put o.dst undef) ((i, fun _ => True) :: L)) : wpZ P ops S C es U Fl Fin ((i, o) :: rest) a L :=
  .inl ⟨h, hi, hK⟩
/-- an operation without an effect, whose value is known -/
theorem wz_do (hi : i ∉ es) (hfl : i ∉ Fl) (hes : ∀ i, i ∉ es → ∀ bs w, C bs w → C (upd bs i) w) (hg : Grows C) (h : Region.wanted o (yielded ops a.tmps) = true)
    (h1 : ∃ v, (∀ bs, Okb ops bs i → ∀ w, C bs w → (∀ p ∈ L, ancB ops i p.1 = true → p.2 w) → zAt P o a (fun u w' => u = v ∧ Below w.heap.size w w') w) ∧ wpZ P ops S C es U Fl Fin rest (a.put o.dst v) ((i, fun _ => True) :: L)) :
    wpZ P ops S C es U Fl Fin ((i, o) :: rest) a L := by
  obtain ⟨v, h2, h3⟩ := h1
  exact .inr ⟨h, fun u => u = v, fun _ _ => True, fun _ _ _ _ _ _ => trivial, ⟨v, rfl⟩, fun _ => ⟨v, fun _ h => h⟩, fun hn => absurd hn hfl,
    fun bs hok w hC hL => (h2 bs hok w hC hL).mono fun u w' ⟨e1, e2⟩ => ⟨hes i hi _ _ (hg _ _ _ hC e2), .of_below e2, e1, trivial⟩, fun u hu => by subst hu; exact h3⟩
/-- an operation that looks at no memory -/
theorem wz_flo (hi : i ∉ es) (hes : ∀ i, i ∉ es → ∀ bs w, C bs w → C (upd bs i) w) (h : Region.wanted o (yielded ops a.tmps) = true)
    (h1 : ∃ v, (∀ w, (execOp a.eval o).run P w = .ok (.value v) w) ∧ wpZ P ops S C es U Fl Fin rest (a.put o.dst v) ((i, fun _ => True) :: L)) :
    wpZ P ops S C es U Fl Fin ((i, o) :: rest) a L := by
  obtain ⟨v, h2, h3⟩ := h1
  exact .inr ⟨h, fun u => u = v, fun _ _ => True, fun _ _ _ _ _ _ => trivial, ⟨v, rfl⟩, fun _ => ⟨v, fun _ h => h⟩, fun _ => ⟨v, h2⟩,
    fun bs hok w hC hL => by
      unfold zAt
      rw [h2]
      exact ⟨hes i hi _ _ hC, Fr.refl _ _ _, rfl, trivial⟩, fun u hu => by subst hu; exact h3⟩
/-- new memory -/
theorem wz_new (V : Nat → Value) (obj : Obj) (B0 : Nat) (hi : i ∉ es) (hfl : i ∉ Fl) (hU : i ∈ U) (hes : ∀ i, i ∉ es → ∀ bs w, C bs w → C (upd bs i) w) (hg : Grows C) (h : Region.wanted o (yielded ops a.tmps) = true)
    (hV : ∀ b b', V b = V b' → b' = b) (hS : ∀ s ∈ S, s < B0) (hB : ∀ bs w, C bs w → B0 ≤ w.heap.size)
    (hrun : ∀ bs, Okb ops bs i → ∀ w, C bs w → (∀ p ∈ L, ancB ops i p.1 = true → p.2 w) → (execOp a.eval o).run P w = .ok (.value (V w.heap.size)) (w.alloc obj))
    (hK : ∀ b, B0 ≤ b → ∀ F : World → Prop, (∀ w, F w → w.heap[b]? = some obj) → wpZ P ops S C es U Fl Fin rest (a.put o.dst (V b)) ((i, F) :: L)) :
    wpZ P ops S C es U Fl Fin ((i, o) :: rest) a L := by
  refine .inr ⟨h, fun v => ∃ b, v = V b ∧ B0 ≤ b, fun v w => ∀ b, v = V b → w.heap[b]? = some obj, ?_, ⟨V B0, B0, rfl, Nat.le_refl _⟩, fun hn => absurd hU hn, fun hn => absurd hn hfl, ?_, ?_⟩
  · rintro v ⟨b, rfl, hb⟩ w w' hf hh b' hb'
    have h1 := hh b' hb'
    have hlt : b' < w.heap.size := (Array.getElem?_eq_some_iff.1 h1).1
    have hbb := hV _ _ hb'
    rw [hf.block b' hlt (fun hm => by have := hS _ hm; omega)]
    exact h1
  · intro bs hok w hC hL
    unfold zAt
    rw [hrun bs hok w hC hL]
    have hbl : Below w.heap.size w (w.alloc obj) := (Below.refl _ _).alloc (Nat.le_refl _) _
    refine ⟨hes i hi _ _ (hg _ _ _ hC hbl), .of_below hbl, ⟨_, rfl, hB bs w hC⟩, fun b hb => ?_⟩
    obtain rfl := hV _ _ hb
    show (w.heap.push obj)[w.heap.size]? = _
    simp
  · rintro v ⟨b, rfl, hb⟩
    exact hK b hb _ fun w hw => hw b rfl
/-- an effect, the value known -/
theorem wz_eff (hfl : i ∉ Fl) (h : Region.wanted o (yielded ops a.tmps) = true)
    (h1 : ∃ v, (∀ bs, Okb ops bs i → ∀ w, C bs w → (∀ p ∈ L, ancB ops i p.1 = true → p.2 w) → zAt P o a (fun u w' => u = v ∧ C (upd bs i) w' ∧ Fr w.heap.size S w w') w) ∧ wpZ P ops S C es U Fl Fin rest (a.put o.dst v) ((i, fun _ => True) :: L)) :
    wpZ P ops S C es U Fl Fin ((i, o) :: rest) a L := by
  obtain ⟨v, h2, h3⟩ := h1
  exact .inr ⟨h, fun u => u = v, fun _ _ => True, fun _ _ _ _ _ _ => trivial, ⟨v, rfl⟩, fun _ => ⟨v, fun _ h => h⟩, fun hn => absurd hn hfl,
    fun bs hok w hC hL => (h2 bs hok w hC hL).mono fun u w' ⟨e1, e2, e3⟩ => ⟨e2, e3, e1, trivial⟩, fun u hu => by subst hu; exact h3⟩
/-- an effect or not, the value not known -/
theorem wz_any {α : Type} (V : α → Value) (F : α → World → Prop) (x0 : α) (hU : i ∈ U) (hfl : i ∉ Fl) (h : Region.wanted o (yielded ops a.tmps) = true) (hV : ∀ x y, V x = V y → y = x) (hF : ∀ x, Stab S (F x))
    (h1 : ∀ bs, Okb ops bs i → ∀ w, C bs w → (∀ p ∈ L, ancB ops i p.1 = true → p.2 w) → zAt P o a (fun u w' => ∃ x, u = V x ∧ C (upd bs i) w' ∧ Fr w.heap.size S w w' ∧ F x w') w)
    (hK : ∀ x, ∀ F' : World → Prop, (∀ w, F' w → F x w) → wpZ P ops S C es U Fl Fin rest (a.put o.dst (V x)) ((i, F') :: L)) :
    wpZ P ops S C es U Fl Fin ((i, o) :: rest) a L := by
  refine .inr ⟨h, fun v => ∃ x, v = V x, fun v w => ∀ x, v = V x → F x w, ?_, ⟨V x0, x0, rfl⟩, fun hn => absurd hU hn, fun hn => absurd hn hfl, ?_, ?_⟩
  · rintro v ⟨x, rfl⟩ w w' hf hh y hy
    exact hF y _ _ hf (hh y hy)
  · intro bs hok w hC hL
    refine (h1 bs hok w hC hL).mono ?_
    rintro u w' ⟨x, rfl, e2, e3, e4⟩
    exact ⟨e2, e3, ⟨x, rfl⟩, fun y hy => by obtain rfl := hV _ _ hy; exact e4⟩
  · rintro v ⟨x, rfl⟩
    exact hK x _ fun w hw => hw x rfl
theorem zAt_call {o : Oper} {a : Act} {w w' : World} {f : FuncId} {args : Array Value} {K : Value → World → Prop} (hr : (execOp a.eval o).run P w = .ok (.enter f args) w') (hc : isCall o.op = true)
    (h : Calls P f args w' (fun e w'' => ∃ v, e = .returned v ∧ K v w'')) : zAt P o a K w := by
  unfold zAt; rw [hr]; exact ⟨hc, h⟩
/-- the world under a name -/
theorem wp_name {c : Code} {Q : Exit → Act → World → Prop} {w : World} (h : ∀ x, x = w → c.wp P Q a x) : c.wp P Q a w := h w rfl
/-- all these facts stand -/
def Holds (L : List Fact) (w : World) : Prop := ∀ p ∈ L, p.2 w
theorem Holds.get {L : List Fact} {w : World} (h : Holds L w) (i : Nat) {F : World → Prop} (hm : (i, F) ∈ L) : F w := h _ hm
/-- numbered as they stand -/
def numbered : Nat → List Oper → List (Nat × Oper)
  | _, [] => []
  | k, o :: r => (k, o) :: numbered (k + 1) r
theorem numbered_spec : ∀ (l : List Oper) (k : Nat), ∀ p ∈ numbered k l, k ≤ p.1 ∧ l[p.1 - k]? = some p.2
  | [], _, p, h => by cases h
  | o :: r, k, p, h => by
    unfold numbered at h
    rw [List.mem_cons] at h
    rcases h with rfl | h
    · simp
    · obtain ⟨h1, h2⟩ := numbered_spec r (k + 1) p h
      refine ⟨by omega, ?_⟩
      rw [show p.1 - k = (p.1 - (k + 1)) + 1 by omega]
      simpa using h2
theorem wp_region_plain {id : Nat} {Q : Exit → Act → World → Prop} {w : World} {l : List Oper} (S : List Nat) (C : (Nat → Bool) → World → Prop) (es U Fl : List Nat) (n : Nat) (hm : P.follows .mixedOrders = true)
    (hB : fitB l.toArray U Fl n (numbered 0 (l.take n)) = true) (hQ : ∀ c a d v w, Q (.panic c) (Act.put a d v) w → Q (.panic c) a w)
    (hes : ∀ i, i ∉ es → ∀ bs w, C bs w → C (upd bs i) w) (hC : C (fun _ => false) w.drew)
    (h : wpZ P l.toArray S C es U Fl (fun a' L => ∀ w', C (fun x => decide (x < n)) w' → Holds L w' → wpList P l.toArray Q (l.drop n) a' w') (numbered 0 (l.take n)) a []) : (Code.region id l.toArray true).wp P Q a w :=
  wp_region_walk S C es U Fl n _ hm hB (fun p hp => by
    obtain ⟨_, h2⟩ := numbered_spec _ 0 p hp
    rw [Nat.sub_zero] at h2
    rw [List.getElem?_toArray]
    have hlt : p.1 < (l.take n).length := (List.getElem?_eq_some_iff.1 h2).1
    rw [← h2, List.getElem?_take, if_pos (by simp at hlt; omega)]) hQ hes hC h
/-- no effect in the head -/
theorem wp_region_quiet0 {id : Nat} {Q : Exit → Act → World → Prop} {w : World} {l : List Oper} (U Fl : List Nat) (n : Nat) (hm : P.follows .mixedOrders = true)
    (hB : fitB l.toArray U Fl n (numbered 0 (l.take n)) = true) (hQ : ∀ c a d v w, Q (.panic c) (Act.put a d v) w → Q (.panic c) a w)
    (h : wpZ P l.toArray [] (C0e (fun x => Below w.heap.size w x)) [] U Fl (fun a' L => ∀ w', Below w.heap.size w w' → Holds L w' → wpList P l.toArray Q (l.drop n) a' w') (numbered 0 (l.take n)) a []) : (Code.region id l.toArray true).wp P Q a w :=
  wp_region_plain [] (C0e (fun x => Below w.heap.size w x)) [] U Fl n hm hB hQ C0e.es ((Below.refl _ _).drew) h
theorem growsB {B : Nat} {w : World} (hB : B ≤ w.heap.size) : Grows (C0e (fun x => Below B w x)) := C0e.grows fun a b h h' => h.trans (h'.mono (Nat.le_trans hB h.size))
theorem grows0 {w : World} : Grows (C0e (fun x => Below w.heap.size w x)) := C0e.grows fun a b h h' => h.trans (h'.mono h.size)
end
end Go.Proofs.YtnjgnbdebkckfaaGreatDoor.K12
namespace Go.Proofs.YtnjgnbdebkckfaaGreatDoor.K14
open Go.RowKit K1 K5 K12
def foot (v : Value) : List Nat := v.ownBlock.toList
theorem mem_foot {v : Value} {k : Nat} : k ∈ foot v ↔ v.ownBlock = some k := by unfold foot; cases v.ownBlock <;> simp [eq_comm]
@[simp] theorem foot_nil : foot (.slice none 0 0) = [] := rfl
@[simp] theorem foot_some (a : Addr) (n c : Nat) : foot (.slice (some a) n c) = [a.block] := rfl
/-- blocks of S alone may have been turned; what is then held are blocks of S, or new ones -/
structure Mut (w : World) (S : List Nat) (w' : World) (S' : List Nat) : Prop where
  fr : Fr w.heap.size S w w'
  sub : ∀ k ∈ S', k ∈ S ∨ w.heap.size ≤ k
theorem Mut.refl (w : World) (S : List Nat) : Mut w S w S := ⟨Fr.refl _ _ _, fun k h => .inl h⟩
theorem Mut.trans {a b c : World} {S S' S'' : List Nat} (h : Mut a S b S') (k : Mut b S' c S'') : Mut a S c S'' := by
  refine ⟨⟨k.fr.os.trans h.fr.os, k.fr.tape.trans h.fr.tape, k.fr.output.trans h.fr.output, Nat.le_trans h.fr.size k.fr.size, fun i hi hn => ?_⟩, fun i hi => ?_⟩
  · refine (k.fr.block i (Nat.lt_of_lt_of_le hi h.fr.size) fun hm => ?_).trans (h.fr.block i hi hn)
    rcases h.sub i hm with h1 | h1
    · exact hn h1
    · omega
  · rcases k.sub i hi with h1 | h1
    · exact h.sub i h1
    · right; have := h.fr.size; omega
theorem Mut.size {a b : World} {S S' : List Nat} (h : Mut a S b S') : a.heap.size ≤ b.heap.size := h.fr.size
theorem Mut.keep {a b : World} {S S' : List Nat} (h : Mut a S b S') {k : Nat} (hk : k < a.heap.size) (hn : k ∉ S) : b.heap[k]? = a.heap[k]? := h.fr.block k hk hn
/-- nothing of an object that held nothing below B -/
theorem Mut.below {a b : World} {S S' : List Nat} (h : Mut a S b S') {B : Nat} (hB : B ≤ a.heap.size) (hS : ∀ k ∈ S, B ≤ k) : Below B a b := h.fr.below_of hB hS
theorem Fr.of_grown {w w' : World} {v : Value} (h : w.grownBy w' v.ownBlock) : Fr w.heap.size (foot v) w w' :=
  ⟨h.os, h.tape, h.output, h.size, fun k hk hn => h.block k hk fun e => hn (mem_foot.2 e.symm)⟩
theorem own_keep {w w' : World} {base : Nat} {e : TypeId} {size : Nat} {v : Value} {n : Nat} {xs : List Value} (h : w.ownsRow base e size v n xs) (hk : ∀ k ∈ foot v, w'.heap[k]? = w.heap[k]?) : w'.ownsRow base e size v n xs := by
  refine ⟨h.1, ?_⟩
  rcases h.2 with hn | ⟨g, cap, cur, rfl, hb, hgg, rest⟩
  · exact .inl hn
  · exact .inr ⟨g, cap, cur, rfl, hb, by rw [hk g (by simp)]; exact hgg, rest⟩
theorem own_fr {w w' : World} {B base : Nat} {S : List Nat} {e : TypeId} {size : Nat} {v : Value} {n : Nat} {xs : List Value} (h : w.ownsRow base e size v n xs) (hF : Fr B S w w') (hB : w.heap.size ≤ B) (hk : ∀ k ∈ foot v, k ∉ S) : w'.ownsRow base e size v n xs :=
  own_keep h fun k hm => hF.block k (Nat.lt_of_lt_of_le ((h.lt k (mem_foot.1 hm)).2) hB) (hk k hm)
theorem own_lt {w : World} {base : Nat} {e : TypeId} {size : Nat} {v : Value} {n : Nat} {xs : List Value} (h : w.ownsRow base e size v n xs) : ∀ k ∈ foot v, k < w.heap.size := fun k hm => (h.lt k (mem_foot.1 hm)).2
theorem own_slice {w : World} {base : Nat} {e : TypeId} {size : Nat} {v : Value} {n : Nat} {xs : List Value} (h : w.ownsRow base e size v n xs) : ∃ a c, v = .slice a n c ∧ (a = none → n = 0 ∧ c = 0) := by
  rcases h.2 with ⟨rfl, rfl⟩ | ⟨g, cap, cur, rfl, _⟩
  · exact ⟨none, 0, rfl, fun _ => ⟨rfl, rfl⟩⟩
  · exact ⟨_, _, rfl, fun h => by cases h⟩
/-- blocks through what a walk writes -/
theorem blk_other {w : World} {b : Nat} {p : Addr} {v : Value} (h : b ≠ p.block) : (w.setCell p v).heap[b]? = w.heap[b]? := Below.heap_setCell _ _ _ _ h
theorem blk_alloc {w : World} {b : Nat} {o x : Obj} (h : w.heap[b]? = some x) : (w.alloc o).heap[b]? = some x := by
  rw [Below.heap_alloc _ _ _ (Array.getElem?_eq_some_iff.1 h).1]; exact h
theorem blk_set {w : World} {b i : Nat} {cs : Array Value} {t : TypeId} {v : Value} (h : w.heap[b]? = some (.cells cs t (0, 0))) : (w.setCell ⟨b, i, none⟩ v).heap[b]? = some (.cells (cs.setIfInBounds i v) t (0, 0)) := heap_setCell_at h
theorem blk_drew {w : World} {b : Nat} {x : Obj} (h : w.heap[b]? = some x) : w.drew.heap[b]? = some x := h
theorem blk_below {w w' : World} {B b : Nat} {x : Obj} (h : w.heap[b]? = some x) (hb : Below B w w') (hlt : b < B) : w'.heap[b]? = some x := by rw [hb.block b hlt]; exact h
theorem blk_fr {w w' : World} {B b : Nat} {S : List Nat} {x : Obj} (h : w.heap[b]? = some x) (hb : Fr B S w w') (hlt : b < B) (hS : b ∉ S) : w'.heap[b]? = some x := by rw [hb.block b hlt hS]; exact h
theorem blk_lt {w : World} {b : Nat} {x : Obj} (h : w.heap[b]? = some x) : b < w.heap.size := (Array.getElem?_eq_some_iff.1 h).1
theorem newsB (w : World) (cs : Array Value) (t : TypeId) (g : Nat) (hg : g = w.heap.size) : ∀ j u, cs.toList[j]? = some u → (w.alloc (.cells cs t)).cell? ((⟨g, 0, none⟩ : Addr).add j) = some u := by
  subst hg
  exact World.news_of_block (heap_alloc_new w _)
theorem news1 (w : World) (x : Value) (t : TypeId) (g : Nat) (hg : g = w.heap.size) : ∀ j u, [x][j]? = some u → (w.alloc (.cells #[x] t)).cell? ((⟨g, 0, none⟩ : Addr).add j) = some u := newsB w #[x] t g hg
theorem Fr.app {B : Nat} {S S' : List Nat} {w W1 w1 : World} {v : Value} (h : Fr B S w W1) (hg : W1.grownBy w1 v.ownBlock) (hB : B ≤ W1.heap.size) (hS : ∀ k ∈ S, k ∈ S') (hv : ∀ k ∈ foot v, k ∈ S') : Fr B S' w w1 := by
  refine (h.mono (Nat.le_refl _) fun k hk _ => hS k hk).trans ((Fr.of_grown hg).mono hB fun k hk _ => hv k hk)
theorem foot_app {v : Value} {g n c H : Nat} (h : v.ownBlock = some g ∨ g = H) {B : Nat} (hB : B ≤ H) : ∀ k ∈ foot (.slice (some ⟨g, 0, none⟩) n c), k ∈ foot v ∨ B ≤ k := by
  intro k hk
  simp at hk
  subst hk
  rcases h with h | h
  · exact .inl (mem_foot.2 h)
  · right; omega
theorem cell_new {w : World} {cs : Array Value} {t : TypeId} {g i : Nat} (hg : g = w.heap.size) : (w.alloc (.cells cs t)).cell? ⟨g, i, none⟩ = cs[i]? := by
  subst hg
  exact cell_blk (heap_alloc_new w _) i
theorem own_new (w : World) (cs : Array Value) (e : TypeId) (n : Nat) (hn : n ≤ maxLen) (hs : cs.size = n) : (w.alloc (.cells cs e)).ownsRow 0 e 1 (.slice (some ⟨w.heap.size, 0, none⟩) n n) n cs.toList :=
  ⟨by simp [hs], .inr ⟨w.heap.size, n, cs, rfl, Nat.zero_le _, heap_alloc_new w _, Nat.le_refl _, hn, by simp [hs], by rw [Nat.mul_one, List.take_of_length_le (by simp [hs])]⟩⟩
theorem blk_new {w : World} {o : Go.Obj} {g : Nat} (hg : g = w.heap.size) : (w.alloc o).heap[g]? = some o := by
  subst hg
  exact heap_alloc_new w _
theorem own_base {w : World} {base : Nat} {e : TypeId} {size : Nat} {v : Value} {n : Nat} {xs : List Value} (h : w.ownsRow base e size v n xs) : w.ownsRow 0 e size v n xs :=
  ⟨h.1, h.2.elim Or.inl (fun ⟨g, cap, cur, hv, hg, r⟩ => Or.inr ⟨g, cap, cur, hv, Nat.zero_le _, r⟩)⟩
def u8 (c : UInt8) : Value := .int .u8 c.toNat
end Go.Proofs.YtnjgnbdebkckfaaGreatDoor.K14
namespace Go.Proofs.YtnjgnbdebkckfaaGreatDoor.K20
open Go.RowKit K1 K5 K12 K14
inductive Res where
  | blk (b : Nat) (cs : List Value) (t : TypeId)
  | row (v : Value) (t : TypeId) (s : Nat) (n : Nat) (xs : List Value)
  | low (B : Nat) (w0 : World)
def Res.holds (w : World) : Res → Prop
  | .blk b cs t => w.heap[b]? = some (.cells cs.toArray t (0, 0))
  | .row v t s n xs => w.ownsRow 0 t s v n xs
  | .low B w0 => B ≤ w0.heap.size ∧ Below B w0 w
def Res.has : Res → Nat → Prop
  | .blk b _ _, k => k = b
  | .row v _ _ _ _, k => v.ownBlock = some k
  | .low B _, k => k < B
def Apart (L : List Res) : Prop := L.Pairwise fun r s => ∀ k, r.has k → ¬ s.has k
structure Sep (w : World) (L : List Res) : Prop where
  all : ∀ r ∈ L, r.holds w
  apart : Apart L
theorem Res.lt {r : Res} {w : World} (h : r.holds w) {k : Nat} (hk : r.has k) : k < w.heap.size := by
  cases r with
  | blk b cs t => obtain rfl : k = b := hk; exact blk_lt h
  | row v t s n xs => exact own_lt (show w.ownsRow 0 t s v n xs from h) k (mem_foot.2 hk)
  | low B w0 => exact Nat.lt_of_lt_of_le hk (Nat.le_trans h.1 h.2.size)
/-- what a step leaves: all blocks but those of S, that were there -/
structure Leaves (S : Nat → Prop) (w w' : World) : Prop where
  os : w'.os = w.os
  tape : w'.tape = w.tape
  output : w'.output = w.output
  size : w.heap.size ≤ w'.heap.size
  block : ∀ k, k < w.heap.size → ¬ S k → w'.heap[k]? = w.heap[k]?
theorem Leaves.of_below {w w' : World} (h : Below w.heap.size w w') (S : Nat → Prop) : Leaves S w w' := ⟨h.os, h.tape, h.output, h.size, fun k hk _ => h.block k hk⟩
theorem Leaves.of_fr {w w' : World} {T : List Nat} (h : Fr w.heap.size T w w') : Leaves (· ∈ T) w w' := ⟨h.os, h.tape, h.output, h.size, fun k hk hn => h.block k hk hn⟩
theorem Leaves.of_grown {w w' : World} {v : Value} (h : w.grownBy w' v.ownBlock) : Leaves (fun k => v.ownBlock = some k) w w' := ⟨h.os, h.tape, h.output, h.size, fun k hk hn => h.block k hk fun e => hn e.symm⟩
theorem Leaves.of_set {w : World} {p : Addr} {v : Value} : Leaves (· = p.block) w (w.setCell p v) := ⟨rfl, rfl, rfl, by simp [World.setCell], fun k hk hn => Below.heap_setCell _ _ _ _ hn⟩
theorem Res.kept {r : Res} {w w' : World} {S : Nat → Prop} (h : r.holds w) (hL : Leaves S w w') (hn : ∀ k, r.has k → ¬ S k) : r.holds w' := by
  have hb : ∀ k, r.has k → w'.heap[k]? = w.heap[k]? := fun k hk => hL.block k (Res.lt h hk) (hn k hk)
  cases r with
  | blk b cs t => exact (hb b rfl).trans h
  | row v t s n xs => exact own_keep (show w.ownsRow 0 t s v n xs from h) fun k hk => hb k (mem_foot.1 hk)
  | low B w0 => exact ⟨h.1, ⟨hL.os.trans h.2.os, hL.tape.trans h.2.tape, hL.output.trans h.2.output, Nat.le_trans h.2.size hL.size, fun k hk => (hb k hk).trans (h.2.block k hk)⟩⟩
section
variable {w w' : World} {L L' F : List Res}
theorem Sep.mem (h : Sep w L) {r : Res} (hm : r ∈ L) : r.holds w := h.all r hm
theorem Sep.perm (h : Sep w L) (hp : L.Perm L') : Sep w L' :=
  ⟨fun r hr => h.all r (hp.symm.mem_iff.1 hr), (hp.pairwise_iff (fun hxy k hk hk' => hxy k hk' hk)).1 h.apart⟩
theorem Sep.sub (h : Sep w L) (hs : L'.Sublist L) : Sep w L' := ⟨fun r hr => h.all r (hs.subset hr), h.apart.sublist hs⟩
theorem Sep.tail {r : Res} (h : Sep w (r :: L)) : Sep w L := h.sub (List.sublist_cons_self _ _)
theorem Sep.right (h : Sep w (L ++ L')) : Sep w L' := h.sub (List.sublist_append_right _ _)
theorem Sep.left (h : Sep w (L ++ L')) : Sep w L := h.sub (List.sublist_append_left _ _)
theorem Sep.frame (h : Sep w L) {S : Nat → Prop} (hL : Leaves S w w') (hn : ∀ r ∈ L, ∀ k, r.has k → ¬ S k) : Sep w' L := ⟨fun r hr => Res.kept (h.all r hr) hL (hn r hr), h.apart⟩
theorem Sep.nil : Sep w [] := ⟨fun r hr => (List.not_mem_nil hr).elim, List.Pairwise.nil⟩
theorem Sep.drew (h : Sep w L) : Sep w.drew L := h.frame (Leaves.of_below (Below.refl _ _).drew (fun _ => False)) (fun _ _ _ _ h => h)
theorem Sep.below (h : Sep w L) (hb : Below w.heap.size w w') : Sep w' L := h.frame (Leaves.of_below hb (fun _ => False)) (fun _ _ _ _ h => h)
theorem Sep.head {r : Res} (h : Sep w (r :: L)) : ∀ s ∈ L, ∀ k, r.has k → ¬ s.has k := fun s hs => (List.pairwise_cons.1 h.apart).1 s hs
/-- the first part is turned, the others stay -/
theorem Sep.turn {r r' : Res} (h : Sep w (r :: L)) {S : Nat → Prop} (hL : Leaves S w w') (hS : ∀ k, k < w.heap.size → S k → r.has k) (hr : r'.holds w') (hh : ∀ k, r'.has k → r.has k ∨ w.heap.size ≤ k) : Sep w' (r' :: L) := by
  have h1 := h.head
  refine ⟨fun s hs => ?_, List.pairwise_cons.2 ⟨fun s hs k hk hk' => ?_, h.tail.apart⟩⟩
  · rcases List.mem_cons.1 hs with rfl | hs
    · exact hr
    · exact Res.kept (h.tail.all s hs) hL fun k hk hSk => h1 s hs k (hS k (Res.lt (h.tail.all s hs) hk) hSk) hk
  · rcases hh k hk with hk | hk
    · exact h1 s hs k hk hk'
    · have := Res.lt (h.tail.all s hs) hk'; omega
/-- a new part -/
theorem Sep.new {r' : Res} (h : Sep w L) (hb : Below w.heap.size w w') (hr : r'.holds w') (hh : ∀ k, r'.has k → w.heap.size ≤ k) : Sep w' (r' :: L) := by
  refine ⟨fun s hs => ?_, List.pairwise_cons.2 ⟨fun s hs k hk hk' => ?_, h.apart⟩⟩
  · rcases List.mem_cons.1 hs with rfl | hs
    · exact hr
    · exact (h.below hb).all s hs
  · have := Res.lt (h.all s hs) hk'; have := hh k hk; omega
theorem Sep.set {b i : Nat} {cs cs' : List Value} {t : TypeId} {v : Value} (h : Sep w (.blk b cs t :: L)) (e : cs' = cs.set i v) : Sep (w.setCell ⟨b, i, none⟩ v) (.blk b cs' t :: L) := by
  subst e
  refine h.turn (Leaves.of_set (p := ⟨b, i, none⟩)) (fun k _ hk => hk) ?_ (fun k hk => .inl hk)
  have := heap_setCell_at (i := i) (v := v) (show w.heap[b]? = some (.cells cs.toArray t (0, 0)) from h.all (.blk b cs t) (by simp))
  simpa [Res.holds] using this
theorem Sep.alloc {cs : Array Value} {t : TypeId} {b : Nat} {xs : List Value} (h : Sep w L) (hb : b = w.heap.size) (e : xs = cs.toList) : Sep (w.alloc (.cells cs t)) (.blk b xs t :: L) := by
  subst hb e
  exact h.new ((Below.refl _ _).alloc (Nat.le_refl _) _) (by simpa [Res.holds] using blk_new (w := w) (o := .cells cs t) rfl) (fun k hk => by obtain rfl : k = _ := hk; exact Nat.le_refl _)
theorem Sep.alloc0 {o : Obj} (h : Sep w L) : Sep (w.alloc o) L := h.below ((Below.refl _ _).alloc (Nat.le_refl _) _)
/-- a block that was made in a region -/
theorem Sep.addBlk {cs : Array Value} {t : TypeId} {b : Nat} {xs : List Value} (h : Sep w L) (hb : Below w.heap.size w w') (hm : w'.heap[b]? = some (.cells cs t (0, 0))) (hk : w.heap.size ≤ b) (e : xs = cs.toList) : Sep w' (.blk b xs t :: L) := by
  subst e
  exact h.new hb (by simpa [Res.holds] using hm) (fun k hk' => by obtain rfl : k = b := hk'; exact hk)
theorem Sep.addRow {v : Value} {t : TypeId} {s n : Nat} {xs : List Value} (h : Sep w L) (hb : Below w.heap.size w w') (hm : w'.ownsRow w.heap.size t s v n xs) : Sep w' (.row v t s n xs :: L) :=
  h.new hb (own_base hm) (fun k hk => (hm.lt k hk).1)
theorem Sep.app {v v' : Value} {t : TypeId} {s n n' : Nat} {xs xs' : List Value} {g : Nat} (h : Sep w (.row v t s n xs :: L)) (hg : w.grownBy w' v.ownBlock) (ho : w'.ownsRow 0 t s v' n' xs') (hv : ∀ k, v'.ownBlock = some k → k = g) (hat : v.ownBlock = some g ∨ g = w.heap.size) : Sep w' (.row v' t s n' xs' :: L) := by
  refine h.turn (Leaves.of_grown hg) (fun k _ hk => hk) ho (fun k hk => ?_)
  obtain rfl := hv k hk
  rcases hat with h | h
  · exact .inl h
  · right; omega
theorem Sep.nilRow {t : TypeId} {s : Nat} (h : Sep w L) : Sep w (.row (.slice none 0 0) t s 0 [] :: L) :=
  h.new (Below.refl _ _) (World.ownsRow_nil _ _ _ _) (fun k hk => by cases hk)
/-- a block is a row -/
theorem Sep.asRow {b n c s : Nat} {cs xs : List Value} {t : TypeId} (h : Sep w (.blk b cs t :: L)) (hc : cs.length = c * s) (hn : n ≤ c) (hm : c ≤ maxLen) (e : xs = cs.take (n * s)) : Sep w (.row (.slice (some ⟨b, 0, none⟩) n c) t s n xs :: L) := by
  subst e
  have h0 : w.heap[b]? = some (.cells cs.toArray t (0, 0)) := h.all (.blk b cs t) (by simp)
  refine h.turn (Leaves.of_below (Below.refl _ _) (fun _ => False)) (fun k _ hk => hk.elim) ⟨?_, .inr ⟨b, c, cs.toArray, rfl, Nat.zero_le _, h0, hn, hm, by simpa using hc, by simp⟩⟩ (fun k hk => .inl ?_)
  · rw [List.length_take, hc]; exact Nat.min_eq_left (Nat.mul_le_mul_right _ hn)
  · exact (Option.some.inj hk).symm
theorem Sep.setRow {g n c s i : Nat} {xs xs' : List Value} {t : TypeId} {v : Value} (h : Sep w (.row (.slice (some ⟨g, 0, none⟩) n c) t s n xs :: L)) (hi : i < n * s) (e : xs' = xs.set i v) : Sep (w.setCell ⟨g, i, none⟩ v) (.row (.slice (some ⟨g, 0, none⟩) n c) t s n xs' :: L) := by
  subst e
  have h0 : w.ownsRow 0 t s (.slice (some ⟨g, 0, none⟩) n c) n xs := h.all (.row (.slice (some ⟨g, 0, none⟩) n c) t s n xs) (by simp)
  refine h.turn (Leaves.of_set (p := ⟨g, i, none⟩)) (fun k _ hk => by obtain rfl : k = g := hk; rfl) ?_ (fun k hk => .inl hk)
  obtain ⟨h1, h2⟩ := h0
  refine ⟨by simpa using h1, ?_⟩
  rcases h2 with ⟨h2, _⟩ | ⟨g', c', cur, h2, _, h4, h5, h6, h7, h8⟩
  · cases h2
  · obtain ⟨rfl, rfl⟩ : g = g' ∧ c = c' := by simpa using h2
    exact .inr ⟨g, c, cur.setIfInBounds i v, rfl, Nat.zero_le _, heap_setCell_at h4, h5, h6, by simpa using h7, by rw [Array.toList_setIfInBounds, List.take_set, h8]⟩
theorem Sep.cells {b : Nat} {cs : List Value} {t : TypeId} (h : Sep w L) (hm : Res.blk b cs t ∈ L) : (∀ i, w.cell? ⟨b, i, none⟩ = cs[i]?) ∧ (∀ i, w.frozen? ⟨b, i, none⟩ = false) ∧ b < w.heap.size := by
  have h0 : w.heap[b]? = some (.cells cs.toArray t (0, 0)) := h.all _ hm
  exact ⟨fun i => by simpa using cell_blk h0 i, froz_blk h0, blk_lt h0⟩
theorem Sep.rowOf {v : Value} {t : TypeId} {s n : Nat} {xs : List Value} (h : Sep w L) (hm : Res.row v t s n xs ∈ L) : w.ownsRow 0 t s v n xs := h.all _ hm
theorem Sep.lowOf {B : Nat} {w0 : World} (h : Sep w L) (hm : Res.low B w0 ∈ L) : Below B w0 w := (h.all _ hm).2
theorem Sep.start (w : World) : Sep w [.low w.heap.size w] := ⟨fun r hr => by rw [List.mem_singleton] at hr; subst hr; exact ⟨Nat.le_refl _, Below.refl _ _⟩, List.pairwise_singleton _ _⟩
theorem Sep.ne {b c : Nat} {cs ds : List Value} {t u : TypeId} (h : Sep w (.blk b cs t :: L)) (hm : Res.blk c ds u ∈ L) : b ≠ c := fun e => h.head _ hm b rfl e
theorem Sep.neRow {b : Nat} {cs : List Value} {t u : TypeId} {v : Value} {s n : Nat} {xs : List Value} (h : Sep w (.blk b cs t :: L)) (hm : Res.row v u s n xs ∈ L) : v.ownBlock ≠ some b := fun e => h.head _ hm b rfl e
theorem Sep.neLow {b : Nat} {cs : List Value} {t : TypeId} {B : Nat} {w0 : World} (h : Sep w (.blk b cs t :: L)) (hm : Res.low B w0 ∈ L) : B ≤ b := Nat.le_of_not_lt (h.head _ hm b rfl)
end
/-- parts put in another order, by their numbers -/
def flat (A : List (List Res)) : List Nat → List Res
  | [] => []
  | [i] => A.getD i []
  | i :: j :: r => A.getD i [] ++ flat A (j :: r)
theorem flat_eq (A : List (List Res)) : ∀ l : List Nat, flat A l = l.flatMap fun i => A.getD i []
  | [] => rfl
  | [i] => by simp [flat]
  | i :: j :: r => by rw [flat, flat_eq A (j :: r)]; rfl
theorem Sep.order {w : World} (A : List (List Res)) (i j : List Nat) (h : Sep w (flat A i)) (hp : i.isPerm j = true) : Sep w (flat A j) := by
  refine h.perm ?_
  rw [flat_eq, flat_eq]
  exact (List.isPerm_iff.1 hp).flatMap_right _
def ins (r : Res) : List Res → Nat → List Res
  | L, 0 => r :: L
  | [], _ + 1 => [r]
  | a :: L, n + 1 => a :: ins r L n
def del : List Res → Nat → List Res
  | [], _ => []
  | _ :: L, 0 => L
  | a :: L, n + 1 => a :: del L n
def setN (r : Res) : List Res → Nat → List Res
  | [], _ => []
  | _ :: L, 0 => r :: L
  | a :: L, n + 1 => a :: setN r L n
theorem ins_perm (r : Res) : ∀ (L : List Res) (n : Nat), (r :: L).Perm (ins r L n)
  | L, 0 => by cases L <;> exact List.Perm.refl _
  | [], n + 1 => List.Perm.refl _
  | a :: L, n + 1 => (List.Perm.swap a r L).trans ((ins_perm r L n).cons a)
theorem del_perm {r : Res} : ∀ {L : List Res} {n : Nat}, L[n]? = some r → L.Perm (r :: del L n)
  | [], n, h => by simp at h
  | a :: L, 0, h => by obtain rfl : a = r := by simpa using h
                       exact List.Perm.refl _
  | a :: L, n + 1, h => ((del_perm (L := L) (n := n) (by simpa using h)).cons a).trans (List.Perm.swap r a (del L n))
theorem del_sub : ∀ (L : List Res) (n : Nat), (del L n).Sublist L
  | [], n => List.Sublist.refl _
  | a :: L, 0 => List.sublist_cons_self _ _
  | a :: L, n + 1 => (del_sub L n).cons_cons a
theorem setN_sub (r : Res) : ∀ (L : List Res) (n : Nat), n < L.length → (setN r L n).Perm (r :: del L n)
  | [], n, h => by simp at h
  | a :: L, 0, _ => List.Perm.refl _
  | a :: L, n + 1, h => ((setN_sub r L n (by simpa using h)).cons a).trans (List.Perm.swap r a (del L n))
/-- the n-th part to the front -/
theorem Sep.front {w : World} {L : List Res} (h : Sep w L) (n : Nat) {r : Res} (hr : L[n]? = some r) : Sep w (r :: del L n) := h.perm (del_perm hr)
/-- the first part to the n-th place -/
theorem Sep.back {w : World} {L : List Res} {r : Res} (h : Sep w (r :: L)) (n : Nat) : Sep w (ins r L n) := h.perm (ins_perm r L n)
theorem Sep.drop {w : World} {L : List Res} (h : Sep w L) (n : Nat) : Sep w (del L n) := h.sub (del_sub L n)
/-- the first part takes the n-th one's place (of those behind it) -/
theorem Sep.over {w : World} {L : List Res} {r : Res} (h : Sep w (r :: L)) (n : Nat) (hn : n < L.length) : Sep w (setN r L n) :=
  (h.sub ((del_sub L n).cons_cons r)).perm (setN_sub r L n hn).symm
theorem Sep.toNil {w : World} {L : List Res} (h : Sep w L) (n : Nat) (t : TypeId) (s : Nat) (hn : n < L.length) : Sep w (setN (.row (.slice none 0 0) t s 0 []) L n) := h.nilRow.over n hn
/-- the n-th part is turned -/
theorem Sep.setAt {w : World} {L : List Res} {b i : Nat} {cs cs' : List Value} {t : TypeId} {v : Value} (h : Sep w L) (n : Nat) (hr : L[n]? = some (.blk b cs t)) (e : cs' = cs.set i v) : Sep (w.setCell ⟨b, i, none⟩ v) (ins (.blk b cs' t) (del L n) n) := ((h.front n hr).set e).back n
theorem Sep.rowAt {w : World} {L : List Res} (h : Sep w L) (n : Nat) {v : Value} {t : TypeId} {s m : Nat} {xs : List Value} (hr : L[n]? = some (.row v t s m xs)) : w.ownsRow 0 t s v m xs := h.all (.row v t s m xs) (List.mem_of_getElem? hr)
theorem Sep.cellsAt {w : World} {L : List Res} (h : Sep w L) (n : Nat) {b : Nat} {cs : List Value} {t : TypeId} (hr : L[n]? = some (.blk b cs t)) : (∀ i, w.cell? ⟨b, i, none⟩ = cs[i]?) ∧ (∀ i, w.frozen? ⟨b, i, none⟩ = false) ∧ b < w.heap.size := h.cells (List.mem_of_getElem? hr)
theorem Sep.lowAt {w : World} {L : List Res} (h : Sep w L) (n : Nat) {B : Nat} {w0 : World} (hr : L[n]? = some (.low B w0)) : Below B w0 w := h.lowOf (List.mem_of_getElem? hr)
/-- what the rest of memory lets one read -/
def Reads (F : List Res) (a : Addr) (n : Nat) (f : Nat → Value) : Prop := ∀ w, Sep w F → ∀ k, k < n → w.cell? (a.add k) = some (f k)
end Go.Proofs.YtnjgnbdebkckfaaGreatDoor.K20
namespace Go.Proofs.YtnjgnbdebkckfaaGreatDoor.K21
open Go.RowKit K1 K5 K12 K14 K20
/-- v is a slice whose elements read as L; each takes s cells -/
def Rd {α : Type} (s : Nat) (enc : α → List Value) (w : World) (v : Value) (L : List α) : Prop :=
  ∃ a c, v = .slice a L.length c ∧ L.length ≤ c ∧ (L = [] ∨ ∃ b o, a = some ⟨b, o, none⟩ ∧ b < w.heap.size ∧ ∀ k x, L[k]? = some x → ∀ j u, (enc x)[j]? = some u → w.cell? ⟨b, o + k * s + j, none⟩ = some u)
section
variable {α : Type} {s : Nat} {enc : α → List Value} {w w' : World} {v : Value} {L : List α}
theorem Rd.below (h : Rd s enc w v L) (hb : Below w.heap.size w w') : Rd s enc w' v L := by
  obtain ⟨a, c, h1, h2, h3⟩ := h
  refine ⟨a, c, h1, h2, h3.imp id ?_⟩
  rintro ⟨b, o, h4, h5, h6⟩
  exact ⟨b, o, h4, Nat.lt_of_lt_of_le h5 hb.size, fun k x hx j u hu => (World.cell?_of_block (hb.block b h5)).trans (h6 k x hx j u hu)⟩
theorem Rd.drew (h : Rd s enc w v L) : Rd s enc w.drew v L := h.below (Below.refl _ _).drew
theorem Rd.nil (c : Nat) : Rd s enc w (.slice none 0 c) [] := ⟨none, c, rfl, Nat.zero_le _, .inl rfl⟩
theorem Rd.low {B : Nat} {w0 : World} (h : Rd s enc w0 v L) (hB : w0.heap.size ≤ B) (hb : Below B w0 w) : Rd s enc w v L := h.below (hb.mono hB)
/-- an owned slice is read -/
theorem Rd.of_own {base : Nat} {t : TypeId} (h : w.ownsRow base t s v L.length (L.flatMap enc)) (he : ∀ x ∈ L, (enc x).length = s) : Rd s enc w v L := by
  obtain ⟨h1, h2⟩ := h
  rcases h2 with ⟨rfl, hn⟩ | ⟨g, cap, cur, rfl, _, h4, h5, _, h7, h8⟩
  · have : L = [] := List.length_eq_zero_iff.1 hn
    subst this
    exact Rd.nil 0
  · refine ⟨_, cap, rfl, h5, .inr ⟨g, 0, rfl, blk_lt h4, fun k x hx j u hu => ?_⟩⟩
    rw [cell_blk h4]
    have hj : j < s := by
      have := (List.getElem?_eq_some_iff.1 hu).1
      rw [he x (List.mem_of_getElem? hx)] at this
      exact this
    have hk : k < L.length := (List.getElem?_eq_some_iff.1 hx).1
    have key : ∀ (l : List α) (k : Nat), (∀ x ∈ l, (enc x).length = s) → l[k]? = some x → (l.flatMap enc)[k * s + j]? = some u := by
      intro l
      induction l with
      | nil => intro k _ hx; simp at hx
      | cons y l ih =>
        intro k hl hx
        cases k with
        | zero =>
          simp only [List.getElem?_cons_zero, Option.some.injEq] at hx
          subst hx
          rw [List.flatMap_cons, Nat.zero_mul, Nat.zero_add, List.getElem?_append_left (by rw [hl y (by simp)]; exact hj)]
          exact hu
        | succ k =>
          rw [List.flatMap_cons, List.getElem?_append_right (by rw [hl y (by simp), Nat.succ_mul]; omega), hl y (by simp)]
          rw [show (k + 1) * s + j - s = k * s + j by rw [Nat.succ_mul]; omega]
          exact ih k (fun x hx => hl x (by simp [hx])) (by simpa using hx)
    have := key L k he hx
    rw [← h8, List.getElem?_take] at this
    simp only [Nat.zero_add]
    split at this
    · simpa using this
    · cases this
end
def strE (l : List UInt8) : List Value := [.string ⟨l.toArray⟩]
def intE (n : Int) : List Value := [.int .i64 n]
def boolE (b : Bool) : List Value := [.bool b]
def byteE (c : UInt8) : List Value := [.int .u8 c.toNat]
theorem Rd.cell1 {α : Type} {enc : α → List Value} {w : World} {v : Value} {L : List α} (h : Rd 1 enc w v L) {k : Nat} {x : α} (hx : L[k]? = some x) {u : Value} (hu : enc x = [u]) :
    ∃ b o c, v = .slice (some ⟨b, o, none⟩) L.length c ∧ b < w.heap.size ∧ w.cell? ⟨b, o + k, none⟩ = some u := by
  obtain ⟨a, c, h1, h2, h3⟩ := h
  rcases h3 with rfl | ⟨b, o, rfl, h4, h5⟩
  · simp at hx
  · have := h5 k x hx 0 u (by rw [hu]; rfl)
    rw [Nat.mul_one, Nat.add_zero] at this
    exact ⟨b, o, c, h1, h4, this⟩
/-- one element, boxed by the caller -/
theorem Rd.one {α : Type} {enc : α → List Value} {w : World} {b c : Nat} {x : α} {u : Value} (hu : enc x = [u]) (hc : 1 ≤ c) (hb : b < w.heap.size) (h : w.cell? ⟨b, 0, none⟩ = some u) : Rd 1 enc w (.slice (some ⟨b, 0, none⟩) 1 c) [x] := by
  refine ⟨_, c, rfl, hc, .inr ⟨b, 0, rfl, hb, fun k y hy j v hv => ?_⟩⟩
  obtain rfl : k = 0 := by have := (List.getElem?_eq_some_iff.1 hy).1; simpa using this
  obtain rfl : x = y := by simpa using hy
  rw [hu] at hv
  obtain rfl : j = 0 := by have := (List.getElem?_eq_some_iff.1 hv).1; simpa using this
  obtain rfl : u = v := by simpa using hv
  exact h
theorem Rd.list {α : Type} {enc : α → List Value} {w : World} {b o n c : Nat} {f : Nat → α} {u : Nat → Value} (hu : ∀ k, k < n → enc (f k) = [u k]) (hc : n ≤ c) (hb : b < w.heap.size) (h : ∀ k, k < n → w.cell? ⟨b, o + k, none⟩ = some (u k)) : Rd 1 enc w (.slice (some ⟨b, o, none⟩) n c) ((List.range n).map f) := by
  refine ⟨_, c, by simp, by simpa using hc, .inr ⟨b, o, rfl, hb, fun k y hy j v hv => ?_⟩⟩
  have hk : k < n := by have := (List.getElem?_eq_some_iff.1 hy).1; simpa using this
  rw [List.getElem?_map, List.getElem?_range hk] at hy
  simp only [Option.map_some, Option.some.injEq] at hy
  subst hy
  rw [hu k hk] at hv
  obtain rfl : j = 0 := by have := (List.getElem?_eq_some_iff.1 hv).1; simpa using this
  obtain rfl : u k = v := by simpa using hv
  simpa using h k hk
end Go.Proofs.YtnjgnbdebkckfaaGreatDoor.K21
namespace Go.Proofs.YtnjgnbdebkckfaaGreatDoor.K22
open Go.RowKit Go.Lib K1 K5 K12 K14 K20 K21
section
variable {P : Program} {w : World}
theorem wpList_appS {ops : Array Oper} {rest : List Oper} {o : Oper} {a : Act} {Q : Exit → Act → World → Prop} (hgd : o.guard = none) (s x : Operand) (t : TypeId)
    (ho : o.op = .call { callee := .builtin .append, args := #[s, x], argTypes := #[t, t] })
    (e : TypeId) (i : TypeInfo) (z : Value) (size bytes : Nat) (ht : P.underlying t = some (.slice e)) (hi : P.info? e = some i) (hz : i.zero = some z)
    (hsize : i.size = size) (hby : i.bytes = bytes) (hzs : z.cells.size = size) (hsz : 0 < size)
    (v : Value) (n : Nat) (xs : List Value) (F : List Res) (hs : a.eval s = v) (hS : Sep w (.row v e size n xs :: F))
    (ad : Addr) (m c : Nat) (news : List Value) (hx : a.eval x = .slice (some ad) m c) (hl : news.length = m * size) (hnews : ∀ j u, news[j]? = some u → w.cell? (ad.add j) = some u) (h1 : ∀ u ∈ news, u.oneCell' = true)
    (hm : 0 < m) (hbytes : (n + m) * bytes ≤ 140737488355328) (hb1 : 1 ≤ bytes)
    (h : ∀ g cap w', Sep w' (.row (.slice (some ⟨g, 0, none⟩) (n + m) cap) e size (n + m) (xs ++ news) :: F) → w.heap.size ≤ w'.heap.size → wpList P ops Q rest (a.put o.dst (.slice (some ⟨g, 0, none⟩) (n + m) cap)) w') : wpList P ops Q (o :: rest) a w := by
  have h2 : n + m ≤ (n + m) * bytes := Nat.le_mul_of_pos_right _ hb1
  refine wpList_append_lies w hgd s x t ho 0 e i z size bytes ht hi hz hsize hby hzs hsz v n xs hs (hS.rowOf (by simp)) ad m c news hx hl hnews h1 hm (by unfold maxLen; omega) hbytes (Nat.zero_le _) _ rfl ?_
  intro g cap w' hown hg hat hlt
  exact h g cap w' (hS.app hg hown (fun k hk => (Option.some.inj hk).symm) hat) hg.size
theorem run_appStr (t u ty e : TypeId) (i : TypeInfo) (ht : P.underlying t = some (.slice e)) (hu : P.underlying u = some .string) (hi : P.info? e = some i) (hz : i.zero = some (.int .u8 0)) (hsize : i.size = 1) (hby : i.bytes = 1)
    (v : Value) (n : Nat) (xs : List Value) (hown : w.ownsRow 0 e 1 v n xs) (s : ByteArray) (hb : n + s.size ≤ 140737488355328) :
    ∃ v' w', (Builtin.append_ #[t, u] ty #[v, .string s]).run P w = .ok v' w' ∧ w'.ownsRow 0 e 1 v' (n + s.size) (xs ++ strCells s) ∧ w.grownBy w' v.ownBlock ∧ (∀ k, v'.ownBlock = some k → v.ownBlock = some k ∨ w.heap.size ≤ k) ∧ (v' = .slice none 0 0 ↔ v = .slice none 0 0 ∧ s.size = 0) := by
  have h63 : n + s.size ≤ maxLen := by unfold maxLen; omega
  have hsmall : n + s.size ≤ 9223372036854775807 := by omega
  obtain ⟨v', w', hr, ho, hg, hn⟩ := run_append_own_string (P := P) w 0 t u ty e i ht hu hi hz hsize hby v n xs hown s h63 hb (Nat.zero_le _)
  refine ⟨v', w', hr, ho, hg, ?_, hn⟩
  have hxl : xs.length = n := by simpa using hown.1
  rcases hown.2 with ⟨rfl, rfl⟩ | ⟨g, cap, cur, rfl, hbg, hgc, hnc, hcm, hcs, htake⟩
  · have hx : xs = [] := List.eq_nil_of_length_eq_zero hxl
    subst hx
    obtain ⟨v2, w2, hr2, ho2, _, _⟩ := run_append_own_string (P := P) w w.heap.size t u ty e i ht hu hi hz hsize hby (.slice none 0 0) 0 [] (World.ownsRow_nil _ _ _ _) s h63 hb (Nat.le_refl _)
    rw [hr2] at hr
    obtain ⟨rfl, rfl⟩ : v2 = v' ∧ w2 = w' := by simpa using hr
    exact fun k hk => .inr (ho2.lt k hk).1
  · intro k hk
    by_cases hroom : n + s.size ≤ cap
    · have hr2 := run_append_room_string (P := P) w t u ty e i ht hu hi hsize g n cap cur hgc s hroom (by omega)
      rw [hr2] at hr
      obtain ⟨rfl, rfl⟩ : _ = v' ∧ _ = w' := by simpa using hr
      exact .inl hk
    · have holds : ∀ j u, xs[j]? = some u → w.cell? ((⟨g, 0, none⟩ : Addr).add j) = some u := hown.cells (g := g) rfl
      have hr2 := run_append_grow_string (P := P) w t u ty e i (.int .u8 0) ht hu hi hz ⟨g, 0, none⟩ n cap xs (by rw [hsize]; simpa using hxl) holds s (by omega) (by omega) (by rw [hby]; exact growslice_fits (by omega) (by omega))
      rw [hr2] at hr
      obtain ⟨rfl, rfl⟩ : _ = v' ∧ _ = w' := by simpa using hr
      right
      have := Option.some.inj hk
      simp only at this
      omega
theorem wpList_appStrS {ops : Array Oper} {rest : List Oper} {o : Oper} {a : Act} {Q : Exit → Act → World → Prop} (hgd : o.guard = none) (sl x : Operand) (t u : TypeId)
    (ho : o.op = .call { callee := .builtin .append, args := #[sl, x], argTypes := #[t, u] })
    (e : TypeId) (i : TypeInfo) (ht : P.underlying t = some (.slice e)) (hu : P.underlying u = some .string) (hi : P.info? e = some i) (hz : i.zero = some (.int .u8 0)) (hsize : i.size = 1) (hby : i.bytes = 1)
    (v : Value) (n : Nat) (xs : List Value) (F : List Res) (hs : a.eval sl = v) (hS : Sep w (.row v e 1 n xs :: F)) (s : ByteArray) (hx : a.eval x = .string s) (hbytes : n + s.size ≤ 140737488355328)
    (h : ∀ v' w', Sep w' (.row v' e 1 (n + s.size) (xs ++ strCells s) :: F) → w.heap.size ≤ w'.heap.size → wpList P ops Q rest (a.put o.dst v') w') : wpList P ops Q (o :: rest) a w := by
  refine wpList_plain hgd fun K hK => ?_
  obtain ⟨v', w', hr, h2, h3, h4, _⟩ := run_appStr (P := P) t u o.type e i ht hu hi hz hsize hby v n xs (hS.rowOf (by simp)) s hbytes
  unfold Oper.wp execOp
  simp only [ho, resolve, invoke, builtin, Sem.run_bind, Sem.run_pure, Result.andThen_ok, List.map_toArray, List.map_cons, List.map_nil, hs, hx, hr]
  refine hK _ _ (h v' w' (hS.turn (Leaves.of_grown h3) (fun k _ hk => hk) h2 fun k hk => ?_) h3.size)
  rcases h4 k hk with h5 | h5
  · exact .inl h5
  · exact .inr h5
end
/-- new bytes in a row -/
theorem news_of {w : World} {b : Nat} {cs : Array Value} {t : TypeId} (h : w.heap[b]? = some (.cells cs t (0, 0))) : ∀ j u, cs.toList[j]? = some u → w.cell? ((⟨b, 0, none⟩ : Addr).add j) = some u := World.news_of_block h
end Go.Proofs.YtnjgnbdebkckfaaGreatDoor.K22
namespace Go.Proofs.YtnjgnbdebkckfaaGreatDoor.K25
open Go.RowKit K1 K5 K12 K14 K20 K21
theorem Rd.news1 {α : Type} {enc : α → List Value} {f : α → Value} {w : World} {b o n c : Nat} {L : List α} (h : Rd 1 enc w (.slice (some ⟨b, o, none⟩) n c) L) (he : ∀ x, enc x = [f x]) : ∀ j u, (L.map f)[j]? = some u → w.cell? ((⟨b, o, none⟩ : Addr).add j) = some u := by
  intro j u hu
  rw [List.getElem?_map] at hu
  obtain ⟨x, hx, rfl⟩ := Option.map_eq_some_iff.1 hu
  obtain ⟨b', o', c', hv, _, hc⟩ := h.cell1 hx (he x)
  simp only [Value.slice.injEq, Option.some.injEq, Addr.mk.injEq, and_true] at hv
  obtain ⟨⟨rfl, rfl⟩, _, _⟩ := hv
  unfold Addr.add
  split
  · subst j; exact hc
  · exact hc
/-- the first elements of an owned row are read -/
theorem Rd.cut {α : Type} {enc : α → List Value} {f : α → Value} {w : World} {g m n c : Nat} {t : TypeId} {L M : List α} (h : w.ownsRow 0 t 1 (.slice (some ⟨g, 0, none⟩) m c) m ((L ++ M).map f)) (he : ∀ x, enc x = [f x]) (hn : n = L.length) : Rd 1 enc w (.slice (some ⟨g, 0, none⟩) n c) L := by
  subst hn
  have hl := h.1
  simp only [List.length_map, List.length_append, Nat.mul_one] at hl
  rcases h.2 with ⟨hh, _⟩ | ⟨g', cap, cur, hh, _, hg, hnc, _, _, _⟩
  · cases hh
  · simp only [Value.slice.injEq, Option.some.injEq, Addr.mk.injEq, and_true, true_and] at hh
    obtain ⟨rfl, rfl⟩ := hh
    refine ⟨_, c, rfl, by omega, .inr ⟨g, 0, rfl, blk_lt hg, fun k x hx j u hu => ?_⟩⟩
    rw [he x] at hu
    obtain rfl : j = 0 := by have := (List.getElem?_eq_some_iff.1 hu).1; simpa using this
    obtain rfl : f x = u := by simpa using hu
    have := h.cells rfl k (f x) (by rw [List.getElem?_map, List.getElem?_append_left (List.getElem?_eq_some_iff.1 hx).1, hx]; rfl)
    have hadd : (⟨g, 0, none⟩ : Addr).add k = ⟨g, k, none⟩ := by unfold Addr.add; split <;> simp_all
    rw [hadd] at this
    simpa using this
theorem own_cap {w : World} {g n c : Nat} {e : TypeId} {s : Nat} {xs : List Value} (h : w.ownsRow 0 e s (.slice (some ⟨g, 0, none⟩) n c) n xs) : n ≤ c ∧ c ≤ 9223372036854775807 := by
  rcases h.2 with ⟨hh, _⟩ | ⟨g', cap, cur, hh, hb, hg, hnc, hcm, hcs, ht⟩
  · cases hh
  · simp only [Value.slice.injEq, Option.some.injEq, Addr.mk.injEq, and_true, true_and] at hh
    obtain ⟨rfl, rfl⟩ := hh
    unfold maxLen at hcm
    exact ⟨hnc, hcm⟩
theorem own_at {w : World} {g n c : Nat} {e : TypeId} {s : Nat} {xs : List Value} (h : w.ownsRow 0 e s (.slice (some ⟨g, 0, none⟩) n c) n xs) {j : Nat} {u : Value} (hu : xs[j]? = some u) : w.cell? ⟨g, j, none⟩ = some u := by
  have := h.cells rfl j u hu
  have hadd : (⟨g, 0, none⟩ : Addr).add j = ⟨g, j, none⟩ := by unfold Addr.add; split <;> simp_all
  rwa [hadd] at this
theorem Rd.len {α : Type} {s : Nat} {enc : α → List Value} {w : World} {v : Value} {L : List α} (h : Rd s enc w v L) : ∃ a c, v = .slice a L.length c ∧ L.length ≤ c := by
  obtain ⟨a, c, h1, h2, _⟩ := h
  exact ⟨a, c, h1, h2⟩
end Go.Proofs.YtnjgnbdebkckfaaGreatDoor.K25
namespace Go.Proofs.YtnjgnbdebkckfaaGreatDoor.K30
open Go.RowKit K1 K5 K12 K14 K20 K21
/-- r stands in L; what is left of it is L' -/
inductive Rm : List Res → Res → List Res → Prop
  | here {r : Res} {L : List Res} : Rm (r :: L) r L
  | there {s r : Res} {L L' : List Res} : Rm L r L' → Rm (s :: L) r (s :: L')
/-- r stands in L; L' has r' in its place -/
inductive Upd : List Res → Res → Res → List Res → Prop
  | here {r r' : Res} {L : List Res} : Upd (r :: L) r r' (r' :: L)
  | there {s r r' : Res} {L L' : List Res} : Upd L r r' L' → Upd (s :: L) r r' (s :: L')
theorem Rm.perm {L L' : List Res} {r : Res} (h : Rm L r L') : L.Perm (r :: L') := by
  induction h with
  | here => exact List.Perm.refl _
  | there _ ih => exact (ih.cons _).trans (List.Perm.swap _ _ _)
theorem Upd.perm {L L' : List Res} {r r' : Res} (h : Upd L r r' L') : ∃ D, L.Perm (r :: D) ∧ L'.Perm (r' :: D) := by
  induction h with
  | here => exact ⟨_, List.Perm.refl _, List.Perm.refl _⟩
  | @there s r r' L L' _ ih =>
    obtain ⟨D, h1, h2⟩ := ih
    exact ⟨s :: D, (h1.cons s).trans (List.Perm.swap _ _ _), (h2.cons s).trans (List.Perm.swap _ _ _)⟩
section
variable {w : World} {L L' L1 L2 L3 L4 L5 L6 : List Res} {r r' r1 r2 r3 r4 r5 r6 : Res}
theorem _root_.Go.Proofs.YtnjgnbdebkckfaaGreatDoor.K20.Sep.pick (h : Sep w L) (h1 : Rm L r1 L1) : Sep w (r1 :: L1) := h.perm h1.perm
theorem _root_.Go.Proofs.YtnjgnbdebkckfaaGreatDoor.K20.Sep.pick2 (h : Sep w L) (h1 : Rm L r1 L1) (h2 : Rm L1 r2 L2) : Sep w (r1 :: r2 :: L2) := h.perm (h1.perm.trans (h2.perm.cons _))
theorem _root_.Go.Proofs.YtnjgnbdebkckfaaGreatDoor.K20.Sep.pick3 (h : Sep w L) (h1 : Rm L r1 L1) (h2 : Rm L1 r2 L2) (h3 : Rm L2 r3 L3) : Sep w (r1 :: r2 :: r3 :: L3) := (h.pick2 h1 h2).perm ((h3.perm.cons _).cons _)
theorem _root_.Go.Proofs.YtnjgnbdebkckfaaGreatDoor.K20.Sep.pick4 (h : Sep w L) (h1 : Rm L r1 L1) (h2 : Rm L1 r2 L2) (h3 : Rm L2 r3 L3) (h4 : Rm L3 r4 L4) : Sep w (r1 :: r2 :: r3 :: r4 :: L4) := (h.pick3 h1 h2 h3).perm (((h4.perm.cons _).cons _).cons _)
theorem _root_.Go.Proofs.YtnjgnbdebkckfaaGreatDoor.K20.Sep.pick5 (h : Sep w L) (h1 : Rm L r1 L1) (h2 : Rm L1 r2 L2) (h3 : Rm L2 r3 L3) (h4 : Rm L3 r4 L4) (h5 : Rm L4 r5 L5) : Sep w (r1 :: r2 :: r3 :: r4 :: r5 :: L5) := (h.pick4 h1 h2 h3 h4).perm ((((h5.perm.cons _).cons _).cons _).cons _)
theorem _root_.Go.Proofs.YtnjgnbdebkckfaaGreatDoor.K20.Sep.pick6 (h : Sep w L) (h1 : Rm L r1 L1) (h2 : Rm L1 r2 L2) (h3 : Rm L2 r3 L3) (h4 : Rm L3 r4 L4) (h5 : Rm L4 r5 L5) (h6 : Rm L5 r6 L6) : Sep w (r1 :: r2 :: r3 :: r4 :: r5 :: r6 :: L6) := (h.pick5 h1 h2 h3 h4 h5).perm (((((h6.perm.cons _).cons _).cons _).cons _).cons _)
theorem _root_.Go.Proofs.YtnjgnbdebkckfaaGreatDoor.K20.Sep.setU {b i : Nat} {cs : List Value} {t : TypeId} {v : Value} (h : Sep w L) (hu : Upd L (.blk b cs t) (.blk b (cs.set i v) t) L') : Sep (w.setCell ⟨b, i, none⟩ v) L' := by
  obtain ⟨D, h1, h2⟩ := hu.perm
  exact ((h.perm h1).set rfl).perm h2.symm
theorem _root_.Go.Proofs.YtnjgnbdebkckfaaGreatDoor.K20.Sep.allocT {cs : Array Value} {t : TypeId} (h : Sep w L) : Sep (w.alloc (.cells cs t)) (.blk w.heap.size cs.toList t :: L) := h.alloc rfl rfl
theorem _root_.Go.Proofs.YtnjgnbdebkckfaaGreatDoor.K20.Sep.setRU {g n c s i : Nat} {xs : List Value} {t : TypeId} {v : Value} (h : Sep w L) (hu : Upd L (.row (.slice (some ⟨g, 0, none⟩) n c) t s n xs) (.row (.slice (some ⟨g, 0, none⟩) n c) t s n (xs.set i v)) L') (hi : i < n * s) : Sep (w.setCell ⟨g, i, none⟩ v) L' := by
  obtain ⟨D, h1, h2⟩ := hu.perm
  exact ((h.perm h1).setRow hi rfl).perm h2.symm
theorem _root_.Go.Proofs.YtnjgnbdebkckfaaGreatDoor.K20.Sep.here (h : Sep w L) {b : Nat} {cs : List Value} {t : TypeId} (h1 : Rm L (.blk b cs t) L1) : (∀ i, w.cell? ⟨b, i, none⟩ = cs[i]?) ∧ (∀ i, w.frozen? ⟨b, i, none⟩ = false) ∧ b < w.heap.size := (h.pick h1).cellsAt 0 rfl
theorem _root_.Go.Proofs.YtnjgnbdebkckfaaGreatDoor.K20.Sep.hereRow (h : Sep w L) {v : Value} {s n : Nat} {xs : List Value} {t : TypeId} (h1 : Rm L (.row v t s n xs) L1) : w.ownsRow 0 t s v n xs := (h.pick h1).rowAt 0 rfl
theorem _root_.Go.Proofs.YtnjgnbdebkckfaaGreatDoor.K20.Sep.hereLow (h : Sep w L) {B : Nat} {w0 : World} (h1 : Rm L (.low B w0) L1) : Below B w0 w := (h.pick h1).lowAt 0 rfl
end
theorem _root_.Go.Proofs.YtnjgnbdebkckfaaGreatDoor.K20.Sep.end1 {w : World} {L F M1 : List Res} {s1 : Res} (h : Sep w L) (h1 : Rm L s1 M1) (hF : F.Sublist M1) : Sep w (s1 :: F) := (h.pick h1).sub (hF.cons_cons _)
theorem _root_.Go.Proofs.YtnjgnbdebkckfaaGreatDoor.K20.Sep.end2 {w : World} {L F M1 M2 : List Res} {s1 s2 : Res} (h : Sep w L) (h1 : Rm L s1 M1) (h2 : Rm M1 s2 M2) (hF : F.Sublist M2) : Sep w (s1 :: s2 :: F) := (h.perm (h1.perm.trans (h2.perm.cons _))).sub ((hF.cons_cons _).cons_cons _)
theorem _root_.Go.Proofs.YtnjgnbdebkckfaaGreatDoor.K20.Sep.end3 {w : World} {L F M1 M2 M3 : List Res} {s1 s2 s3 : Res} (h : Sep w L) (h1 : Rm L s1 M1) (h2 : Rm M1 s2 M2) (h3 : Rm M2 s3 M3) (hF : F.Sublist M3) : Sep w (s1 :: s2 :: s3 :: F) := (h.perm ((h1.perm.trans (h2.perm.cons _)).trans ((h3.perm.cons _).cons _))).sub (((hF.cons_cons _).cons_cons _).cons_cons _)
theorem _root_.Go.Proofs.YtnjgnbdebkckfaaGreatDoor.K20.Sep.end4 {w : World} {L F M1 M2 M3 M4 : List Res} {s1 s2 s3 s4 : Res} (h : Sep w L) (h1 : Rm L s1 M1) (h2 : Rm M1 s2 M2) (h3 : Rm M2 s3 M3) (h4 : Rm M3 s4 M4) (hF : F.Sublist M4) : Sep w (s1 :: s2 :: s3 :: s4 :: F) := (h.perm (((h1.perm.trans (h2.perm.cons _)).trans ((h3.perm.cons _).cons _)).trans (((h4.perm.cons _).cons _).cons _))).sub ((((hF.cons_cons _).cons_cons _).cons_cons _).cons_cons _)
theorem _root_.Go.Proofs.YtnjgnbdebkckfaaGreatDoor.K20.Sep.end5 {w : World} {L F M1 M2 M3 M4 M5 : List Res} {s1 s2 s3 s4 s5 : Res} (h : Sep w L) (h1 : Rm L s1 M1) (h2 : Rm M1 s2 M2) (h3 : Rm M2 s3 M3) (h4 : Rm M3 s4 M4) (h5 : Rm M4 s5 M5) (hF : F.Sublist M5) : Sep w (s1 :: s2 :: s3 :: s4 :: s5 :: F) := (h.perm ((((h1.perm.trans (h2.perm.cons _)).trans ((h3.perm.cons _).cons _)).trans (((h4.perm.cons _).cons _).cons _)).trans ((((h5.perm.cons _).cons _).cons _).cons _))).sub (((((hF.cons_cons _).cons_cons _).cons_cons _).cons_cons _).cons_cons _)
theorem _root_.Go.Proofs.YtnjgnbdebkckfaaGreatDoor.K20.Sep.end6 {w : World} {L F M1 M2 M3 M4 M5 M6 : List Res} {s1 s2 s3 s4 s5 s6 : Res} (h : Sep w L) (h1 : Rm L s1 M1) (h2 : Rm M1 s2 M2) (h3 : Rm M2 s3 M3) (h4 : Rm M3 s4 M4) (h5 : Rm M4 s5 M5) (h6 : Rm M5 s6 M6) (hF : F.Sublist M6) : Sep w (s1 :: s2 :: s3 :: s4 :: s5 :: s6 :: F) := (h.perm (((((h1.perm.trans (h2.perm.cons _)).trans ((h3.perm.cons _).cons _)).trans (((h4.perm.cons _).cons _).cons _)).trans ((((h5.perm.cons _).cons _).cons _).cons _)).trans (((((h6.perm.cons _).cons _).cons _).cons _).cons _))).sub ((((((hF.cons_cons _).cons_cons _).cons_cons _).cons_cons _).cons_cons _).cons_cons _)
theorem _root_.Go.Proofs.YtnjgnbdebkckfaaGreatDoor.K20.Sep.end7 {w : World} {L F M1 M2 M3 M4 M5 M6 M7 : List Res} {s1 s2 s3 s4 s5 s6 s7 : Res} (h : Sep w L) (h1 : Rm L s1 M1) (h2 : Rm M1 s2 M2) (h3 : Rm M2 s3 M3) (h4 : Rm M3 s4 M4) (h5 : Rm M4 s5 M5) (h6 : Rm M5 s6 M6) (h7 : Rm M6 s7 M7) (hF : F.Sublist M7) : Sep w (s1 :: s2 :: s3 :: s4 :: s5 :: s6 :: s7 :: F) := (h.perm ((((((h1.perm.trans (h2.perm.cons _)).trans ((h3.perm.cons _).cons _)).trans (((h4.perm.cons _).cons _).cons _)).trans ((((h5.perm.cons _).cons _).cons _).cons _)).trans (((((h6.perm.cons _).cons _).cons _).cons _).cons _)).trans ((((((h7.perm.cons _).cons _).cons _).cons _).cons _).cons _))).sub (((((((hF.cons_cons _).cons_cons _).cons_cons _).cons_cons _).cons_cons _).cons_cons _).cons_cons _)
theorem _root_.Go.Proofs.YtnjgnbdebkckfaaGreatDoor.K20.Sep.end8 {w : World} {L F M1 M2 M3 M4 M5 M6 M7 M8 : List Res} {s1 s2 s3 s4 s5 s6 s7 s8 : Res} (h : Sep w L) (h1 : Rm L s1 M1) (h2 : Rm M1 s2 M2) (h3 : Rm M2 s3 M3) (h4 : Rm M3 s4 M4) (h5 : Rm M4 s5 M5) (h6 : Rm M5 s6 M6) (h7 : Rm M6 s7 M7) (h8 : Rm M7 s8 M8) (hF : F.Sublist M8) : Sep w (s1 :: s2 :: s3 :: s4 :: s5 :: s6 :: s7 :: s8 :: F) := (h.perm (((((((h1.perm.trans (h2.perm.cons _)).trans ((h3.perm.cons _).cons _)).trans (((h4.perm.cons _).cons _).cons _)).trans ((((h5.perm.cons _).cons _).cons _).cons _)).trans (((((h6.perm.cons _).cons _).cons _).cons _).cons _)).trans ((((((h7.perm.cons _).cons _).cons _).cons _).cons _).cons _)).trans (((((((h8.perm.cons _).cons _).cons _).cons _).cons _).cons _).cons _))).sub ((((((((hF.cons_cons _).cons_cons _).cons_cons _).cons_cons _).cons_cons _).cons_cons _).cons_cons _).cons_cons _)
theorem _root_.Go.Proofs.YtnjgnbdebkckfaaGreatDoor.K20.Sep.end9 {w : World} {L F M1 M2 M3 M4 M5 M6 M7 M8 M9 : List Res} {s1 s2 s3 s4 s5 s6 s7 s8 s9 : Res} (h : Sep w L) (h1 : Rm L s1 M1) (h2 : Rm M1 s2 M2) (h3 : Rm M2 s3 M3) (h4 : Rm M3 s4 M4) (h5 : Rm M4 s5 M5) (h6 : Rm M5 s6 M6) (h7 : Rm M6 s7 M7) (h8 : Rm M7 s8 M8) (h9 : Rm M8 s9 M9) (hF : F.Sublist M9) : Sep w (s1 :: s2 :: s3 :: s4 :: s5 :: s6 :: s7 :: s8 :: s9 :: F) := (h.perm ((((((((h1.perm.trans (h2.perm.cons _)).trans ((h3.perm.cons _).cons _)).trans (((h4.perm.cons _).cons _).cons _)).trans ((((h5.perm.cons _).cons _).cons _).cons _)).trans (((((h6.perm.cons _).cons _).cons _).cons _).cons _)).trans ((((((h7.perm.cons _).cons _).cons _).cons _).cons _).cons _)).trans (((((((h8.perm.cons _).cons _).cons _).cons _).cons _).cons _).cons _)).trans ((((((((h9.perm.cons _).cons _).cons _).cons _).cons _).cons _).cons _).cons _))).sub (((((((((hF.cons_cons _).cons_cons _).cons_cons _).cons_cons _).cons_cons _).cons_cons _).cons_cons _).cons_cons _).cons_cons _)
/-- a row and a block, both new -/
theorem _root_.Go.Proofs.YtnjgnbdebkckfaaGreatDoor.K20.Sep.addBlkRow {w w' : World} {L : List Res} {v : Value} {t : TypeId} {s n : Nat} {xs ys : List Value} {b : Nat} {cs : Array Value} {u : TypeId} (h : Sep w L) (hb : Below w.heap.size w w') (hr : w'.ownsRow w.heap.size t s v n xs) (hm : w'.heap[b]? = some (.cells cs u (0, 0))) (hk : w.heap.size ≤ b) (hu : u ≠ t) (e : ys = cs.toList) : Sep w' (.blk b ys u :: .row v t s n xs :: L) := by
  subst e
  have h1 := h.addRow hb hr
  refine ⟨fun r hr' => ?_, List.pairwise_cons.2 ⟨fun r hr' k hk1 hk2 => ?_, h1.apart⟩⟩
  · rcases List.mem_cons.1 hr' with rfl | hr'
    · simpa [Res.holds] using hm
    · exact h1.all r hr'
  · obtain rfl : k = b := hk1
    rcases List.mem_cons.1 hr' with rfl | hr'
    · rcases hr.2 with ⟨rfl, _⟩ | ⟨g, c, cur, rfl, _, hg, _⟩
      · cases hk2
      · obtain rfl : g = k := Option.some.inj hk2
        rw [hg] at hm
        simp only [Option.some.injEq, Obj.cells.injEq] at hm
        exact hu hm.2.1.symm
    · have := Res.lt (h.all r hr') hk2
      omega
/-- an owned row, cell by cell -/
theorem row_cells {w : World} {g n c s : Nat} {t : TypeId} {xs : List Value} (h : w.ownsRow 0 t s (.slice (some ⟨g, 0, none⟩) n c) n xs) : (∀ i, i < n * s → w.cell? ⟨g, i, none⟩ = xs[i]?) ∧ (∀ i, w.frozen? ⟨g, i, none⟩ = false) ∧ g < w.heap.size ∧ n ≤ c ∧ xs.length = n * s := by
  obtain ⟨h1, h2⟩ := h
  rcases h2 with ⟨hh, _⟩ | ⟨g', cap, cur, hh, _, hg, hnc, hcm, hcs, ht⟩
  · cases hh
  · simp only [Value.slice.injEq, Option.some.injEq, Addr.mk.injEq, and_true, true_and] at hh
    obtain ⟨rfl, rfl⟩ := hh
    refine ⟨fun i hi => ?_, froz_blk hg, blk_lt hg, hnc, h1⟩
    rw [cell_blk hg, ← ht, List.getElem?_take, if_pos hi]
    simp
theorem atR {P : Program} {id : Nat} {l : Array Oper} {d : Bool} {Q : Exit → Act → World → Prop} {a : Act} {w : World} (h : (Code.region id l d).wp P Q a w) : (Code.region id l d).wp P Q a w := h
theorem atOp {P : Program} {ops : Array Oper} {Q : Exit → Act → World → Prop} {rest : List Oper} {a : Act} {w : World} {d : Tmp} {c : Call} {t : TypeId} {p : String} {af : Array Edge} {g : Option (Nat × Bool)} (h : wpList P ops Q (⟨some d, .call c, t, p, af, g⟩ :: rest) a w) : wpList P ops Q (⟨some d, .call c, t, p, af, g⟩ :: rest) a w := h
/-- the world under a name, its parts beside it -/
theorem wp_at {P : Program} {c : Code} {Q : Exit → Act → World → Prop} {a : Act} {w : World} {L : List Res} (h : Sep w L) (k : ∀ x, Sep x L → c.wp P Q a x) : c.wp P Q a w := k w h
theorem calls_at {P : Program} {f : FuncId} {args : Array Value} {Q : Ending → World → Prop} {w : World} {L : List Res} (h : Sep w L) (k : ∀ x, Sep x L → Calls P f args x Q) : Calls P f args w Q := k w h
theorem list_at {P : Program} {ops : Array Oper} {Q : Exit → Act → World → Prop} {l : List Oper} {a : Act} {w : World} {L : List Res} (h : Sep w L) (k : ∀ x, Sep x L → wpList P ops Q l a x) : wpList P ops Q l a w := k w h
theorem low_end {w w0 : World} {B : Nat} {L L' : List Res} (h : Sep w L) (hm : Rm L (.low B w0) L') : Below B w0 w := h.hereLow hm
theorem sep_end {w : World} {L T : List Res} (h : Sep w L) (k : Sep w L → Sep w T) : Sep w T := k h
end Go.Proofs.YtnjgnbdebkckfaaGreatDoor.K30
namespace Go.Proofs.YtnjgnbdebkckfaaGreatDoor.K23
open Go.RowKit K1 K3 K5 K11 K12
def pickOps (l : List Oper) : List Nat → List (Nat × Oper)
  | [] => []
  | i :: r => match l[i]? with
    | some o => (i, o) :: pickOps l r
    | none => pickOps l r
theorem pickOps_spec (l : List Oper) : ∀ (r : List Nat), ∀ p ∈ pickOps l r, l[p.1]? = some p.2
  | [], p, h => by cases h
  | i :: r, p, h => by
    unfold pickOps at h
    cases hi : l[i]? with
    | none => rw [hi] at h; exact pickOps_spec l r p h
    | some o =>
      rw [hi] at h
      rcases List.mem_cons.1 h with rfl | h
      · exact hi
      · exact pickOps_spec l r p h
section
variable {P : Program} {a : Act}
theorem wp_region_quietO {id : Nat} {Q : Exit → Act → World → Prop} {w : World} {l : List Oper} (U Fl : List Nat) (n : Nat) (r : List Nat) (hm : P.follows .mixedOrders = true)
    (hB : fitB l.toArray U Fl n (pickOps l r) = true) (hQ : ∀ c a d v w, Q (.panic c) (Act.put a d v) w → Q (.panic c) a w)
    (h : wpZ P l.toArray [] (C0e (fun x => Below w.heap.size w x)) [] U Fl (fun a' L => ∀ w', Below w.heap.size w w' → Holds L w' → wpList P l.toArray Q (l.drop n) a' w') (pickOps l r) a []) : (Code.region id l.toArray true).wp P Q a w :=
  wp_region_walk [] (C0e (fun x => Below w.heap.size w x)) [] U Fl n _ hm hB (fun p hp => by
    rw [List.getElem?_toArray]
    exact pickOps_spec l r p hp) hQ C0e.es ((Below.refl _ _).drew) h
end
end Go.Proofs.YtnjgnbdebkckfaaGreatDoor.K23
namespace Go.Proofs.YtnjgnbdebkckfaaGreatDoor.K32
open Go.RowKit K1 K3 K5 K11 K12 K20 K30
theorem rm {p : Prop} (h : p := by (repeat (first | exact K30.Rm.here | apply K30.Rm.there))) : p := h
theorem sub {p : Prop} (h : p := by repeat (first | exact List.Sublist.refl _ | apply List.Sublist.cons)) : p := h
theorem fnd {p : Prop} (h : p := by (repeat' (first | (with_reducible exact HS.out) | (with_reducible exact K30.Upd.here) | (with_reducible apply K30.Upd.there) | (with_reducible apply Sep.drew) | (with_reducible apply Sep.allocT) | (with_reducible apply Sep.setU)))) : p := h
theorem fnd0 {p : Prop} (h : p := by (repeat' (first | (with_reducible exact HS.out) | (with_reducible exact K30.Upd.here) | (with_reducible apply K30.Upd.there) | (with_reducible apply Sep.drew) | (with_reducible apply Sep.alloc0) | (with_reducible apply Sep.setU)))) : p := h
theorem fndG {p : Prop} (h : p := by (repeat' (first | (with_reducible exact HS.out) | (with_reducible exact K30.Upd.here) | (with_reducible apply K30.Upd.there) | (with_reducible apply Sep.drew) | (with_reducible apply Sep.allocT) | (with_reducible apply Sep.setRU (g := gb)) | (focus (omega; done)) | (with_reducible apply Sep.setU)))) : p := h
/-- a region's head: the world under a name, its parts beside it -/
theorem atW {P : Program} (id : Nat) {l : Array Oper} {d : Bool} {Q : Exit → Act → World → Prop} {a : Act} {w : World} {L : List Res} (k : ∀ x, Sep x L → (Code.region id l d).wp P Q a x) (h : Sep w L := by (repeat' (first | (with_reducible exact HS.out) | (with_reducible exact K30.Upd.here) | (with_reducible apply K30.Upd.there) | (with_reducible apply Sep.drew) | (with_reducible apply Sep.allocT) | (with_reducible apply Sep.setU)))) : (Code.region id l d).wp P Q a w := k w h
theorem ca {P : Program} {f : FuncId} {args : Array Value} {Q : Ending → World → Prop} {w : World} {L : List Res} (k : ∀ x, Sep x L → Calls P f args x Q) (h : Sep w L := by (repeat' (first | (with_reducible exact HS.out) | (with_reducible exact K30.Upd.here) | (with_reducible apply K30.Upd.there) | (with_reducible apply Sep.drew) | (with_reducible apply Sep.allocT) | (with_reducible apply Sep.setU)))) : Calls P f args w Q := k w h
theorem e3 {p : Prop} (h : p := by ((with_reducible apply K30.sep_end); exact K32.fnd; intro hs; (try simp only [emV_sets] at hs); exact hs.end3 K32.rm K32.rm K32.rm K32.sub)) : p := h
theorem e3G {p : Prop} (h : p := by ((with_reducible apply K30.sep_end); exact K32.fndG; intro hs; (try simp only [emV_sets] at hs); exact hs.end3 K32.rm K32.rm K32.rm K32.sub)) : p := h
theorem ev : type_of% @BigFrame.eval_const ∧ type_of% @BigFrame.eval_global ∧ type_of% @BigFrame.eval_func := ⟨BigFrame.eval_const, BigFrame.eval_global, BigFrame.eval_func⟩
theorem unw : type_of% @IntWalk.i64_in ∧ type_of% @IntWalk.i32_in ∧ type_of% @IntWalk.u8_in := ⟨IntWalk.i64_in, IntWalk.i32_in, IntWalk.u8_in⟩
section
variable {P : Program}
theorem reg0 {a : Act} {id : Nat} {Q : Exit → Act → World → Prop} {w : World} {l : List Oper} (U Fl : List Nat) (n : Nat)
    (h : wpZ P l.toArray [] (C0e (fun x => Below w.heap.size w x)) [] U Fl (fun a' L => ∀ w', Below w.heap.size w w' → Holds L w' → wpList P l.toArray Q (l.drop n) a' w') (numbered 0 (l.take n)) a [])
    (hm : P.follows .mixedOrders = true := by kernel_rfl) (hB : fitB l.toArray U Fl n (numbered 0 (l.take n)) = true := by kernel_rfl)
    (hQ : ∀ c a d v w, Q (.panic c) (Act.put a d v) w → Q (.panic c) a w := by exact (fun _ _ dx _ _ hx => by cases dx <;> first | exact hx | (simp only [Exit.then, Exit.inBlock] at hx ⊢; exact hx))) : (Code.region id l.toArray true).wp P Q a w :=
  wp_region_quiet0 U Fl n hm hB hQ h
theorem regO {a : Act} {id : Nat} {Q : Exit → Act → World → Prop} {w : World} {l : List Oper} (U Fl : List Nat) (n : Nat) (r : List Nat)
    (h : wpZ P l.toArray [] (C0e (fun x => Below w.heap.size w x)) [] U Fl (fun a' L => ∀ w', Below w.heap.size w w' → Holds L w' → wpList P l.toArray Q (l.drop n) a' w') (K23.pickOps l r) a [])
    (hm : P.follows .mixedOrders = true := by kernel_rfl) (hB : fitB l.toArray U Fl n (K23.pickOps l r) = true := by kernel_rfl)
    (hQ : ∀ c a d v w, Q (.panic c) (Act.put a d v) w → Q (.panic c) a w := by exact (fun _ _ dx _ _ hx => by cases dx <;> first | exact hx | (simp only [Exit.then, Exit.inBlock] at hx ⊢; exact hx))) : (Code.region id l.toArray true).wp P Q a w :=
  K23.wp_region_quietO U Fl n r hm hB hQ h
variable {ops : Array Oper} {S : List Nat} {D : World → Prop} {U Fl : List Nat} {Fin : Act → List Fact → Prop} {i : Nat} {o : Oper} {rest : List (Nat × Oper)} {a : Act} {L : List Fact}
/-- a step without a call -/
theorem zd {v : Value} {B : Nat} {W : World}
    (hK : wpZ P ops S (C0e (fun x => Below B W x)) [] U Fl Fin rest (a.put o.dst v) ((i, fun _ => True) :: L))
    (hi : i ∉ ([] : List Nat) := by decide) (hfl : i ∉ Fl := by decide) (hg : B ≤ W.heap.size := by simp)
    (h : Region.wanted o (yielded ops a.tmps) = true := by (first | rfl | (go_simp; done)))
    (h1 : ∀ bs, Okb ops bs i → ∀ w, C0e (fun x => Below B W x) bs w → (∀ p ∈ L, ancB ops i p.1 = true → p.2 w) → zAt P o a (fun u w' => u = v ∧ Below w.heap.size w w') w := by
      (intro bs hok wx hwx hL; (have hwx : Below _ _ wx := hwx; have hcx := cellA hwx; have hfx := frozA hwx; have hzx := hwx.size; (try simp at hzx)); unfold zAt; (try simp [go_sem, BigFrame.eval_const, BigFrame.eval_global, BigFrame.eval_func, ↓IntWalk.iteOmega, *]); (try simp (disch := omega) only [IntWalk.i64_in, IntWalk.i32_in, IntWalk.u8_in]); (try simp only [zUpon]); exact ⟨rfl, Below.refl _ _⟩)) :
    wpZ P ops S (C0e (fun x => Below B W x)) [] U Fl Fin ((i, o) :: rest) a L :=
  wz_do hi hfl C0e.es (growsB hg) h ⟨v, h1, hK⟩
/-- a step with a call: its law first -/
theorem zc {B : Nat} {W : World} 
    (h1 : ∃ v, (∀ bs, Okb ops bs i → ∀ w, C0e (fun x => Below B W x) bs w → (∀ p ∈ L, ancB ops i p.1 = true → p.2 w) → zAt P o a (fun u w' => u = v ∧ Below w.heap.size w w') w) ∧ wpZ P ops S (C0e (fun x => Below B W x)) [] U Fl Fin rest (a.put o.dst v) ((i, fun _ => True) :: L))
    (hi : i ∉ ([] : List Nat) := by decide) (hfl : i ∉ Fl := by decide) (hg : B ≤ W.heap.size := by simp)
    (h : Region.wanted o (yielded ops a.tmps) = true := by (first | rfl | (go_simp; done))) :
    wpZ P ops S (C0e (fun x => Below B W x)) [] U Fl Fin ((i, o) :: rest) a L :=
  wz_do hi hfl C0e.es (growsB hg) h h1
/-- a step that looks at no memory -/
theorem zf {v : Value} {C : World → Prop}
    (hK : wpZ P ops S (C0e C) [] U Fl Fin rest (a.put o.dst v) ((i, fun _ => True) :: L))
    (hi : i ∉ ([] : List Nat) := by decide)
    (h : Region.wanted o (yielded ops a.tmps) = true := by (first | rfl | (go_simp; done)))
    (h1 : ∀ w, (execOp a.eval o).run P w = .ok (.value v) w := by
      (intro wx; (try simp [go_sem, BigFrame.eval_const, BigFrame.eval_global, BigFrame.eval_func, ↓IntWalk.iteOmega, *]); (try simp (disch := omega) only [IntWalk.i64_in, IntWalk.i32_in, IntWalk.u8_in]); (first | done | rfl))) :
    wpZ P ops S (C0e C) [] U Fl Fin ((i, o) :: rest) a L :=
  wz_flo hi C0e.es h ⟨v, h1, hK⟩
end
end Go.Proofs.YtnjgnbdebkckfaaGreatDoor.K32
