/- a region that draws its order: one walk serves every order; values may be new memory, several operations may have effects -/
import Derived.Test.YtjlamnioknbcaaaDoorK3
import Derived.Test.YtjlamnioknbcaaaDoorK5
namespace Go.Proofs.YtjlamnioknbcaaaDoor.K11
set_option linter.unusedVariables false
set_option linter.unusedSimpArgs false
open Go.RowKit K3 K5

/-- operation i waits for j, directly or through others -/
def ancB (ops : Array Oper) (i j : Nat) : Bool := ((Region.before ops).getD i 0).testBit j

section anc
variable {ops : Array Oper}
def gath (acc : Array Nat) (o : Oper) : Nat := o.after.foldl (fun s e => if Region.binds .any e then s ||| 2 ^ e.on ||| acc.getD e.on 0 else s) 0
theorem before_eq : Region.before ops = ops.foldl (init := #[]) fun acc o => acc.push (gath acc o) := rfl
theorem gath_bit {acc : Array Nat} {l : List Edge} {j : Nat} : ∀ s : Nat, (l.foldl (fun s e => if Region.binds .any e then s ||| 2 ^ e.on ||| acc.getD e.on 0 else s) s).testBit j = true →
    s.testBit j = true ∨ ∃ e ∈ l, Region.binds .any e = true ∧ (j = e.on ∨ (acc.getD e.on 0).testBit j = true) := by
  induction l with
  | nil => intro s h; exact .inl h
  | cons e l ih =>
    intro s h
    simp only [List.foldl_cons] at h
    rcases ih _ h with h | ⟨e', he, h⟩
    · split at h
      · rename_i hb
        simp only [Nat.testBit_or, Bool.or_eq_true, Nat.testBit_two_pow, decide_eq_true_eq] at h
        rcases h with (h | h) | h
        · exact .inl h
        · exact .inr ⟨e, by simp, hb, .inl h.symm⟩
        · exact .inr ⟨e, by simp, hb, .inr h⟩
      · exact .inl h
    · exact .inr ⟨e', by simp [he], h⟩
def Closed (ops : Array Oper) (listed : Array Bool) : Prop := ∀ j oj, ops[j]? = some oj → listed.getD j false = true → ∀ e ∈ oj.after, Region.binds .any e = true → listed.getD e.on false = true
theorem anc_inv {listed : Array Bool} (hc : Closed ops listed) : ∀ (l2 l1 : List Oper) (acc : Array Nat), ops.toList = l1 ++ l2 → acc.size = l1.length →
    (∀ i j, (acc.getD i 0).testBit j = true → listed.getD i false = true → listed.getD j false = true) →
    ∀ i j, ((l2.foldl (fun acc o => acc.push (gath acc o)) acc).getD i 0).testBit j = true → listed.getD i false = true → listed.getD j false = true := by
  intro l2
  induction l2 with
  | nil => intro l1 acc _ _ h; exact h
  | cons o l2 ih =>
    intro l1 acc hl hs h
    refine ih (l1 ++ [o]) (acc.push (gath acc o)) (by simpa using hl) (by simp [hs]) ?_
    intro i j hb hi
    by_cases hlt : i < acc.size
    · refine h i j ?_ hi
      simpa [Array.getElem?_push, show i ≠ acc.size by omega] using hb
    · by_cases heq : i = acc.size
      · subst heq
        have ho : ops[acc.size]? = some o := by
          rw [← Array.getElem?_toList, hl, hs]; simp
        simp only [Array.getD_eq_getD_getElem?, Array.getElem?_push, if_true, Option.getD_some] at hb
        unfold gath at hb
        rw [← Array.foldl_toList] at hb
        rcases gath_bit 0 hb with hb | ⟨e, he, hbd, hb⟩
        · simp at hb
        · have hon := hc _ o ho hi e (by simpa using he) hbd
          rcases hb with rfl | hb
          · exact hon
          · exact h _ _ hb hon
      · have : (acc.push (gath acc o)).getD i 0 = 0 := by
          rw [Array.getD_eq_getD_getElem?, Array.getElem?_eq_none (by simp; omega)]; rfl
        rw [this] at hb
        simp at hb
theorem anc_closed {listed : Array Bool} (hc : Closed ops listed) {i j : Nat} (h : ancB ops i j = true) (hi : listed.getD i false = true) : listed.getD j false = true := by
  unfold ancB at h
  rw [before_eq, ← Array.foldl_toList] at h
  exact anc_inv hc ops.toList [] #[] (by simp) (by simp) (fun i j h => by simp at h) i j h hi
theorem Closed.set {listed : Array Bool} (hc : Closed ops listed) {i : Nat} (hi : i ∈ Region.ready .any ops listed) : Closed ops (listed.setIfInBounds i true) := by
  obtain ⟨_, oi, hoi, hall⟩ := mem_ready.1 hi
  intro j oj hj hl e he hb
  by_cases hij : i = j
  · subst hij
    obtain rfl : oj = oi := Option.some.inj (hj.symm.trans hoi)
    exact getD_set_true (hall e he hb)
  · rw [getD_set_ne false hij] at hl
    exact getD_set_true (hc j oj hj hl e he hb)
theorem anc_ready {listed : Array Bool} (hc : Closed ops listed) {i j : Nat} (hi : i ∈ Region.ready .any ops listed) (hil : i < listed.size) (h : ancB ops i j = true) (hne : j ≠ i) : listed.getD j false = true := by
  have := anc_closed (hc.set hi) h (by simp [hil])
  rwa [getD_set_ne false (Ne.symm hne)] at this
end anc

def isCall : Op → Bool
  | .call _ => true
  | _ => false
def zUpon (P : Program) (cl : Bool) (K : Value → World → Prop) : Result Next → Prop
  | .ok (.value u) w' => K u w'
  | .ok .skip w' => K undef w'
  | .ok (.enter f args) w' => cl = true ∧ Calls P f args w' (fun e w'' => ∃ v, e = .returned v ∧ K v w'')
  | _ => False
def zAt (P : Program) (o : Oper) (a : Act) (K : Value → World → Prop) (w : World) : Prop := zUpon P (isCall o.op) K ((execOp a.eval o).run P w)
section z
variable {P : Program} {o : Oper} {a : Act} {w : World}
theorem zAt.mono {K K' : Value → World → Prop} (h : zAt P o a K w) (hk : ∀ v w', K v w' → K' v w') : zAt P o a K' w := by
  unfold zAt at *
  generalize (execOp a.eval o).run P w = r at *
  cases r with
  | ok n w' =>
    cases n <;> simp only [zUpon] at h ⊢
    case value => exact hk _ _ h
    case skip => exact hk _ _ h
    case enter f args => exact ⟨h.1, h.2.mono fun e w'' ⟨v, e1, e2⟩ => ⟨v, e1, hk _ _ e2⟩⟩
  | halt x w' => simp only [zUpon] at h
theorem zAt.all {α : Type} {K : α → Value → World → Prop} (hc : isCall o.op = false) (x0 : α) (h : ∀ x, zAt P o a (K x) w) : zAt P o a (fun v w' => ∀ x, K x v w') w := by
  have h0 := h x0
  unfold zAt at *
  generalize (execOp a.eval o).run P w = r at *
  cases r with
  | ok n w' =>
    cases n <;> simp only [zUpon] at h h0 ⊢
    case value => exact h
    case skip => exact h
    case enter f args => rw [hc] at h0; exact absurd h0.1 (by simp)
  | halt x w' => simp only [zUpon] at h0
theorem zAt.congr {a' : Act} {K : Value → World → Prop} (he : execOp a'.eval o = execOp a.eval o) (h : zAt P o a K w) : zAt P o a' K w := by
  unfold zAt at *
  rw [he]
  exact h
theorem wp_of_zAt {K : Value → World → Prop} {next : Act → World → Prop} {Q : Exit → Act → World → Prop} (h : zAt P o a K w) (hk : ∀ v w', K v w' → next (a.put o.dst v) w') : o.wp P a w next Q := by
  unfold zAt at h
  unfold Oper.wp
  generalize (execOp a.eval o).run P w = r at *
  cases r with
  | ok n w' =>
    cases n <;> simp only [zUpon] at h <;> simp only [Oper.upon]
    case value => exact hk _ _ h
    case skip => exact hk _ _ h
    case enter f args => exact h.2.mono fun e w'' ⟨v, e1, e2⟩ => by subst e1; exact hk _ _ e2
  | halt x w' => simp only [zUpon] at h
end z

/-- a fact on the world that stands while only blocks of S, and new ones, are written -/
def Stab (S : List Nat) (f : World → Prop) : Prop := ∀ w w', Fr w.heap.size S w w' → f w → f w'
abbrev Fact := Nat × (World → Prop)
def upd (bs : Nat → Bool) (i : Nat) : Nat → Bool := fun x => bs x || x == i
/-- which operations may have come when i comes up -/
structure Okb (ops : Array Oper) (bs : Nat → Bool) (i : Nat) : Prop where
  self : bs i = false
  later : ∀ e, ancB ops e i = true → bs e = false
  sooner : ∀ e, ancB ops i e = true → bs e = true
  closed : ∀ e e', ancB ops e e' = true → bs e = true → bs e' = true

def slot (A : Act) (d : Option Tmp) : Value := match d with | some t => A.tmps.getD t undef | none => undef

section tree
variable (P : Program) (ops : Array Oper) (S : List Nat) (C : (Nat → Bool) → World → Prop) (es U Fl : List Nat) (Fin : Act → List Fact → Prop)

def RO (i : Nat) (o : Oper) (a : Act) (L : List Fact) (G : Value → Prop) (f : Value → World → Prop) : Prop :=
  ∀ bs, Okb ops bs i → ∀ w, C bs w → (∀ p ∈ L, ancB ops i p.1 = true → p.2 w) →
    zAt P o a (fun v w' => C (upd bs i) w' ∧ Fr w.heap.size S w w' ∧ G v ∧ f v w') w

/-- the walk -/
def wpZ : List (Nat × Oper) → Act → List Fact → Prop
  | [], a, L => Fin a L
  | (i, o) :: rest, a, L =>
    (Region.wanted o (yielded ops a.tmps) = false ∧ i ∉ es ∧ wpZ rest (a.put o.dst undef) ((i, fun _ => True) :: L)) ∨
    (Region.wanted o (yielded ops a.tmps) = true ∧ ∃ (G : Value → Prop) (f : Value → World → Prop), (∀ v, G v → Stab S (f v)) ∧ (∃ v, G v) ∧ (i ∉ U → ∃ c, ∀ v, G v → v = c) ∧ (i ∈ Fl → ∃ c, ∀ w, (execOp a.eval o).run P w = .ok (.value c) w) ∧
      RO P ops S C i o a L G f ∧ ∀ v, G v → wpZ rest (a.put o.dst v) ((i, f v) :: L))

/-- the same, some operations having come -/
def Tree (listed : Array Bool) (A : Act) (W : World) : List (Nat × Oper) → Act → List Fact → Prop
  | [], a, L => Fin a L
  | (i, o) :: rest, a, L =>
    if listed.getD i false = true then ∃ f : World → Prop, Stab S f ∧ f W ∧ Tree listed A W rest (a.put o.dst (slot A o.dst)) ((i, f) :: L)
    else (Region.wanted o (yielded ops a.tmps) = false ∧ i ∉ es ∧ Tree listed A W rest (a.put o.dst undef) ((i, fun _ => True) :: L)) ∨
    (Region.wanted o (yielded ops a.tmps) = true ∧ ∃ (G : Value → Prop) (f : Value → World → Prop), (∀ v, G v → Stab S (f v)) ∧ (∃ v, G v) ∧ (i ∉ U → ∃ c, ∀ v, G v → v = c) ∧ (i ∈ Fl → ∃ c, ∀ w, (execOp a.eval o).run P w = .ok (.value c) w) ∧
      RO P ops S C i o a L G f ∧ ∀ v, G v → Tree listed A W rest (a.put o.dst v) ((i, f v) :: L))
end tree
section tree2
variable {P : Program} {ops : Array Oper} {S : List Nat} {C : (Nat → Bool) → World → Prop} {es U Fl : List Nat} {Fin : Act → List Fact → Prop}

theorem tree_of_wpZ {m : Nat} {A : Act} {W : World} : ∀ (l : List (Nat × Oper)) (a : Act) (L : List Fact), wpZ P ops S C es U Fl Fin l a L → Tree P ops S C es U Fl Fin (Array.replicate m false) A W l a L
  | [], a, L, h => h
  | (i, o) :: rest, a, L, h => by
    unfold Tree
    unfold wpZ at h
    rw [if_neg (by rw [getD_replicate_false]; simp)]
    rcases h with ⟨h1, h2, h3⟩ | ⟨h1, G, f, h2, h3, h4, hfl, h5, h6⟩
    · exact .inl ⟨h1, h2, tree_of_wpZ rest _ _ h3⟩
    · exact .inr ⟨h1, G, f, h2, h3, h4, hfl, h5, fun v hv => tree_of_wpZ rest _ _ (h6 v hv)⟩

theorem slot_put_ne {A : Act} {d e : Option Tmp} {v : Value} (h : ∀ t, d = some t → e ≠ some t) : slot (A.put d v) e = slot A e := by
  cases e with
  | none => rfl
  | some t =>
    cases d with
    | none => rfl
    | some u =>
      have hne : u ≠ t := fun e => h u rfl (by rw [e])
      simp [slot, Act.put, Array.getElem?_setIfInBounds_ne hne]
theorem put_slot {a A : Act} (hs : a.tmps.size = A.tmps.size) (d : Option Tmp) (v : Value) : a.put d (slot (A.put d v) d) = a.put d v := by
  cases d with
  | none => rfl
  | some t =>
    by_cases ht : t < A.tmps.size
    · simp [slot, Act.put, ht]
    · simp only [Act.put]
      have h1 : a.tmps.size ≤ t := hs ▸ Nat.le_of_not_lt ht
      rw [Array.setIfInBounds_eq_of_size_le h1, Array.setIfInBounds_eq_of_size_le h1]

theorem tree_later {listed : Array Bool} {A : Act} {W W' : World} {j : Nat} {dj : Option Tmp} {v : Value} (hF : Fr W.heap.size S W W') : ∀ (l : List (Nat × Oper)) (a : Act) (L : List Fact),
    (∀ p ∈ l, p.1 ≠ j ∧ ∀ t, dj = some t → p.2.dst ≠ some t) → Tree P ops S C es U Fl Fin listed A W l a L → Tree P ops S C es U Fl Fin (listed.setIfInBounds j true) (A.put dj v) W' l a L
  | [], a, L, _, h => h
  | (i, o) :: rest, a, L, hp, h => by
    obtain ⟨h1, h2⟩ := hp (i, o) (by simp)
    have ih := fun a L h => tree_later (listed := listed) (A := A) (v := v) hF rest a L (fun p hm => hp p (by simp [hm])) h
    unfold Tree at h ⊢
    rw [getD_set_ne false (Ne.symm h1)]
    split at h
    · rename_i hl
      rw [if_pos hl]
      obtain ⟨f, g1, g2, g3⟩ := h
      refine ⟨f, g1, g1 _ _ hF g2, ?_⟩
      rw [slot_put_ne h2]
      exact ih _ _ g3
    · rename_i hl
      rw [if_neg hl]
      rcases h with ⟨h1, h2, h3⟩ | ⟨h1, G, f, h2, h3, h4, hfl, h5, h6⟩
      · exact .inl ⟨h1, h2, ih _ _ h3⟩
      · exact .inr ⟨h1, G, f, h2, h3, h4, hfl, h5, fun v hv => ih _ _ (h6 v hv)⟩

/-- how the walk's frame stands to the frame of what has come -/
structure Agr (listed : Array Bool) (A a0 a : Act) (l1 : List (Nat × Oper)) : Prop where
  size : a.tmps.size = A.tmps.size
  defers : a.defers = A.defers
  here : ∀ p ∈ l1, listed.getD p.1 false = true → ∀ t, p.2.dst = some t → a.tmps[t]? = A.tmps[t]?
  away : ∀ t, (∀ p ∈ l1, p.2.dst ≠ some t) → a.tmps[t]? = a0.tmps[t]?

theorem put_get_ne {a : Act} {d : Option Tmp} {v : Value} {t : Nat} (h : d ≠ some t) : (a.put d v).tmps[t]? = a.tmps[t]? := by
  cases d with
  | none => rfl
  | some u =>
    have hne : u ≠ t := fun e => h (by rw [e])
    simp [Act.put, Array.getElem?_setIfInBounds_ne hne]
theorem put_size (a : Act) (d : Option Tmp) (v : Value) : (a.put d v).tmps.size = a.tmps.size := by cases d <;> simp [Act.put]
theorem put_defers (a : Act) (d : Option Tmp) (v : Value) : (a.put d v).defers = a.defers := by cases d <;> rfl

theorem Agr.push_un {listed : Array Bool} {A a0 a : Act} {l1 : List (Nat × Oper)} {i : Nat} {o : Oper} (h : Agr listed A a0 a l1) (hi : listed.getD i false ≠ true)
    (hd : ∀ p ∈ l1, ∀ t, p.2.dst = some t → o.dst ≠ some t) (v : Value) : Agr listed A a0 (a.put o.dst v) (l1 ++ [(i, o)]) := by
  refine ⟨by rw [put_size, h.size], by rw [put_defers, h.defers], fun p hp hl t ht => ?_, fun t ht => ?_⟩
  · rw [List.mem_append, List.mem_singleton] at hp
    rcases hp with hp | rfl
    · rw [put_get_ne (hd p hp t ht)]; exact h.here p hp hl t ht
    · exact absurd hl hi
  · rw [put_get_ne (ht (i, o) (by simp))]
    exact h.away t fun p hp => ht p (by simp [hp])
theorem Agr.push_in {listed : Array Bool} {A a0 a : Act} {l1 : List (Nat × Oper)} {i : Nat} {o : Oper} (h : Agr listed A a0 a l1)
    (hd : ∀ p ∈ l1, ∀ t, p.2.dst = some t → o.dst ≠ some t) : Agr listed A a0 (a.put o.dst (slot A o.dst)) (l1 ++ [(i, o)]) := by
  refine ⟨by rw [put_size, h.size], by rw [put_defers, h.defers], fun p hp hl t ht => ?_, fun t ht => ?_⟩
  · rw [List.mem_append, List.mem_singleton] at hp
    rcases hp with hp | rfl
    · rw [put_get_ne (hd p hp t ht)]; exact h.here p hp hl t ht
    · simp only at ht
      rw [ht]
      by_cases hlt : t < A.tmps.size
      · simp [Act.put, slot, hlt, h.size]
      · simp only [Act.put]
        have h1 : A.tmps.size ≤ t := Nat.le_of_not_lt hlt
        have h2 : a.tmps.size = A.tmps.size := h.size
        rw [Array.getElem?_eq_none (by simpa [h2] using h1), Array.getElem?_eq_none h1]
  · rw [put_get_ne (ht (i, o) (by simp))]
    exact h.away t fun p hp => ht p (by simp [hp])

theorem exec_same {o : Oper} {a A : Act} (hs : ∀ cs b, o.op ≠ .select cs b) (h : ∀ t ∈ o.looksAt ops, a.tmps[t]? = A.tmps[t]?) : execOp a.eval o = execOp A.eval o :=
  execOp_congr o hs fun x hx => by
    cases x with
    | tmp t =>
      have := h t (List.mem_append_left _ (List.mem_filterMap.2 ⟨.tmp t, by simpa using hx, rfl⟩))
      simp only [Act.eval, Array.getD_eq_getD_getElem?, this]
    | const v => rfl
    | global g => rfl
    | func f => rfl
theorem wanted_same {o : Oper} {a A : Act} (h : ∀ t ∈ o.looksAt ops, a.tmps[t]? = A.tmps[t]?) : Region.wanted o (yielded ops a.tmps) = Region.wanted o (yielded ops A.tmps) := by
  unfold Region.wanted
  cases hg : o.guard with
  | none => rfl
  | some gw =>
    obtain ⟨g, want⟩ := gw
    have hy : yielded ops a.tmps g = yielded ops A.tmps g := by
      unfold yielded
      cases ht : (ops[g]?).bind (·.dst) with
      | none => rfl
      | some t =>
        have := h t (by simp [Oper.looksAt, hg, ht])
        simp [this]
    simp only [hy]

/-- what is asked of the order that is walked -/
structure Fit (ops : Array Oper) (U : List Nat) (n : Nat) (lo : List (Nat × Oper)) : Prop where
  sel : Region.noSelect ops = true
  are : ∀ p ∈ lo, p.1 < n ∧ ops[p.1]? = some p.2
  all : ∀ i, i < n → ∃ p ∈ lo, p.1 = i
  once : lo.Pairwise fun p q => p.1 ≠ q.1 ∧ ancB ops p.1 q.1 = false ∧ (isCall q.2.op = true → p.1 ∈ U → ancB ops q.1 p.1 = true)
  dsts : ∀ p ∈ lo, ∀ q ∈ lo, p.1 ≠ q.1 → ∀ t, p.2.dst = some t → q.2.dst ≠ some t
  looks : ∀ p ∈ lo, ∀ q ∈ lo, ∀ t, p.2.dst = some t → t ∈ q.2.looksAt ops → ancB ops q.1 p.1 = true ∨ ancB ops p.1 q.1 = true
  irrefl : ∀ i, i < n → ancB ops i i = false

theorem tree_exec {n : Nat} {lo : List (Nat × Oper)} (fit : Fit ops U n lo) {listed : Array Bool} {A a0 : Act} {W : World} (hcl : Closed ops listed) (hsz : listed.size = ops.size) (hno : n ≤ ops.size)
    (hA : ∀ t, (∀ p ∈ lo, listed.getD p.1 false = true → p.2.dst ≠ some t) → A.tmps[t]? = a0.tmps[t]?)
    (hes : ∀ i, i ∉ es → ∀ bs w, C bs w → C (upd bs i) w) (hC : C (fun x => listed.getD x false) W) {j : Nat} {oj : Oper} (hj : (j, oj) ∈ lo) (hr : j ∈ Region.ready .any ops listed) :
    ∀ (l l1 : List (Nat × Oper)) (a : Act) (L : List Fact), l1 ++ l = lo → Agr listed A a0 a l1 → (∀ p ∈ L, listed.getD p.1 false = true → p.2 W) → (j, oj) ∈ l → Tree P ops S C es U Fl Fin listed A W l a L →
      (Region.wanted oj (yielded ops A.tmps) = false ∧ j ∉ es ∧ Tree P ops S C es U Fl Fin (listed.setIfInBounds j true) (A.put oj.dst undef) W l a L) ∨
      (Region.wanted oj (yielded ops A.tmps) = true ∧ (j ∈ Fl → ∃ c, ∀ w, (execOp A.eval oj).run P w = .ok (.value c) w) ∧ zAt P oj A (fun v W' => C (upd (fun x => listed.getD x false) j) W' ∧ Fr W.heap.size S W W' ∧ Tree P ops S C es U Fl Fin (listed.setIfInBounds j true) (A.put oj.dst v) W' l a L) W) := by
  have hjn := fit.are _ hj
  have hjlt : j < listed.size := by have := hjn.1; simp only at this; omega
  have hjun := getD_both (mem_ready.1 hr).1
  intro l
  induction l with
  | nil => intro l1 a L _ _ _ hm; cases hm
  | cons p rest ih =>
    obtain ⟨i, o⟩ := p
    intro l1 a L hl hag hL hm hT
    have hmem : (i, o) ∈ lo := by rw [← hl]; simp
    have hon := fit.once
    rw [← hl, List.pairwise_append] at hon
    obtain ⟨_, hon2, hon3⟩ := hon
    have hdl : ∀ p ∈ l1, ∀ t, p.2.dst = some t → o.dst ≠ some t := fun p hp t ht => fit.dsts p (by rw [← hl]; simp [hp]) (i, o) hmem (hon3 p hp (i, o) (by simp)).1 t ht
    have hfl : Fr W.heap.size S W W := Fr.refl _ _ _
    by_cases hij : i = j
    · subst hij
      obtain rfl : o = oj := Option.some.inj ((fit.are _ hmem).2.symm.trans hjn.2)
      have hlook : ∀ t ∈ o.looksAt ops, a.tmps[t]? = A.tmps[t]? := by
        intro t ht
        by_cases hex : ∃ p ∈ lo, p.2.dst = some t
        · obtain ⟨p, hp, hpt⟩ := hex
          rcases fit.looks p hp (i, o) hmem t hpt ht with h | h
          · have hne : p.1 ≠ i := fun e => by rw [e] at h; simp only at h; rw [fit.irrefl i hjn.1] at h; cases h
            have hpl := anc_ready hcl hr hjlt h hne
            have hp1 : p ∈ l1 := by
              rw [← hl, List.mem_append] at hp
              rcases hp with hp | hp
              · exact hp
              · rw [List.mem_cons] at hp
                rcases hp with rfl | hp
                · exact absurd rfl hne
                · have := (List.pairwise_cons.1 hon2).1 p hp
                  simp only at this
                  rw [this.2.1] at h
                  cases h
            exact hag.here p hp1 hpl t hpt
          · have hpl : listed.getD p.1 false ≠ true := fun e => by
              have := anc_closed hcl h e
              simp only at this
              rw [hjun] at this
              cases this
            have hn1 : ∀ q ∈ l1, q.2.dst ≠ some t := fun q hq hqt => by
              have hqlo : q ∈ lo := by rw [← hl]; simp [hq]
              by_cases hqp : q.1 = p.1
              · have := (hon3 q hq (i, o) (by simp)).2.1
                rw [hqp] at this
                simp only at this h
                rw [this] at h
                cases h
              · exact fit.dsts q hqlo p hp hqp t hqt hpt
            have hn2 : ∀ q ∈ lo, listed.getD q.1 false = true → q.2.dst ≠ some t := fun q hq hql hqt => by
              by_cases hqp : q.1 = p.1
              · rw [hqp] at hql; exact hpl hql
              · exact fit.dsts q hq p hp hqp t hqt hpt
            rw [hag.away t hn1, hA t hn2]
        · rw [hag.away t fun p hp e => hex ⟨p, by rw [← hl]; simp [hp], e⟩, hA t fun p hp _ e => hex ⟨p, hp, e⟩]
      have hw := wanted_same hlook
      have hx := exec_same (fun cs b => Region.noSelect_spec fit.sel i o cs b hjn.2) hlook
      have hrest : ∀ p ∈ rest, p.1 ≠ i ∧ ∀ t, o.dst = some t → p.2.dst ≠ some t := fun p hp => by
        have h1 := ((List.pairwise_cons.1 hon2).1 p hp).1
        exact ⟨fun e => h1 e.symm, fun t ht => fit.dsts (i, o) hmem p (by rw [← hl]; simp [hp]) h1 t ht⟩
      have hset : (listed.setIfInBounds i true).getD i false = true := by simp [hjlt]
      unfold Tree at hT
      rw [if_neg (by rw [hjun]; simp)] at hT
      rcases hT with ⟨h1, h2, h3⟩ | ⟨h1, G, f, h2, h3, h4, hfl, h5, h6⟩
      · refine .inl ⟨by rw [← hw]; exact h1, h2, ?_⟩
        unfold Tree
        rw [if_pos hset]
        refine ⟨fun _ => True, fun _ _ _ _ => trivial, trivial, ?_⟩
        rw [put_slot hag.size]
        exact tree_later hfl rest _ _ hrest h3
      · refine .inr ⟨by rw [← hw]; exact h1, (by rw [← hx]; exact hfl), ?_⟩
        have hlat : ∀ e, ancB ops e i = true → listed.getD e false = false := fun e he => by
          cases hle : listed.getD e false with
          | false => rfl
          | true => have := anc_closed hcl he hle; rw [hjun] at this; cases this
        have hsoo : ∀ e, ancB ops i e = true → listed.getD e false = true := fun e he => anc_ready hcl hr hjlt he (fun e' => by rw [e', fit.irrefl i hjn.1] at he; cases he)
        have hz := h5 (fun x => listed.getD x false) ⟨hjun, hlat, hsoo, fun e e' he hle => anc_closed hcl he hle⟩ W hC
          (fun p hp hpa => hL p hp (hsoo _ hpa))
        refine (hz.congr hx.symm).mono fun v W' ⟨g1, g2, g3, g4⟩ => ⟨g1, g2, ?_⟩
        unfold Tree
        rw [if_pos hset]
        refine ⟨f v, h2 v g3, g4, ?_⟩
        rw [put_slot hag.size]
        exact tree_later g2 rest _ _ hrest (h6 v g3)
    · have hm' : (j, oj) ∈ rest := by
        rw [List.mem_cons] at hm
        rcases hm with h | h
        · cases h; exact absurd rfl hij
        · exact h
      have hset : (listed.setIfInBounds j true).getD i false = listed.getD i false := getD_set_ne false (Ne.symm hij)
      have hdne : ∀ t, oj.dst = some t → o.dst ≠ some t := fun t ht => fit.dsts (j, oj) hj (i, o) hmem (Ne.symm hij) t ht
      by_cases hil : listed.getD i false = true
      · unfold Tree at hT
        rw [if_pos hil] at hT
        obtain ⟨f, g1, g2, g3⟩ := hT
        have := ih (l1 ++ [(i, o)]) _ ((i, f) :: L) (by simpa using hl) (hag.push_in hdl) (fun p hp hpl => by
          rw [List.mem_cons] at hp
          rcases hp with rfl | hp
          · exact g2
          · exact hL p hp hpl) hm' g3
        rcases this with ⟨h1, h2, h3⟩ | ⟨h1, hfo, h2⟩
        · refine .inl ⟨h1, h2, ?_⟩
          unfold Tree
          rw [hset, if_pos hil]
          exact ⟨f, g1, g2, by rw [slot_put_ne hdne]; exact h3⟩
        · refine .inr ⟨h1, hfo, h2.mono fun v W' ⟨k1, k2, k3⟩ => ⟨k1, k2, ?_⟩⟩
          unfold Tree
          rw [hset, if_pos hil]
          exact ⟨f, g1, g1 _ _ k2 g2, by rw [slot_put_ne hdne]; exact k3⟩
      · unfold Tree at hT
        rw [if_neg hil] at hT
        rcases hT with ⟨h1, h2, h3⟩ | ⟨h1, G, f, h2, h3, h4, hfl, h5, h6⟩
        · have := ih (l1 ++ [(i, o)]) _ ((i, fun _ => True) :: L) (by simpa using hl) (hag.push_un hil hdl undef) (fun p hp hpl => by
            rw [List.mem_cons] at hp
            rcases hp with rfl | hp
            · trivial
            · exact hL p hp hpl) hm' h3
          rcases this with ⟨k1, k2, k3⟩ | ⟨k1, hfo, k2⟩
          · refine .inl ⟨k1, k2, ?_⟩
            unfold Tree
            rw [hset, if_neg hil]
            exact .inl ⟨h1, h2, k3⟩
          · refine .inr ⟨k1, hfo, k2.mono fun v W' ⟨m1, m2, m3⟩ => ⟨m1, m2, ?_⟩⟩
            unfold Tree
            rw [hset, if_neg hil]
            exact .inl ⟨h1, h2, m3⟩
        · have key := fun v hv => ih (l1 ++ [(i, o)]) _ ((i, f v) :: L) (by simpa using hl) (hag.push_un hil hdl v) (fun p hp hpl => by
            rw [List.mem_cons] at hp
            rcases hp with rfl | hp
            · exact absurd hpl hil
            · exact hL p hp hpl) hm' (h6 v hv)
          obtain ⟨v0, hv0⟩ := h3
          cases hwj : Region.wanted oj (yielded ops A.tmps) with
          | false =>
            have key' : ∀ v, G v → j ∉ es ∧ Tree P ops S C es U Fl Fin (listed.setIfInBounds j true) (A.put oj.dst undef) W rest (a.put o.dst v) ((i, f v) :: L) := fun v hv => by
              rcases key v hv with ⟨k1, k2, k3⟩ | ⟨k1, _, k2⟩
              · exact ⟨k2, k3⟩
              · rw [hwj] at k1; cases k1
            refine .inl ⟨rfl, (key' v0 hv0).1, ?_⟩
            unfold Tree
            rw [hset, if_neg hil]
            exact .inr ⟨h1, G, f, h2, ⟨v0, hv0⟩, h4, hfl, h5, fun v hv => (key' v hv).2⟩
          | true =>
            have key' : ∀ v, G v → zAt P oj A (fun u W' => C (upd (fun x => listed.getD x false) j) W' ∧ Fr W.heap.size S W W' ∧ Tree P ops S C es U Fl Fin (listed.setIfInBounds j true) (A.put oj.dst u) W' rest (a.put o.dst v) ((i, f v) :: L)) W := fun v hv => by
              rcases key v hv with ⟨k1, k2, k3⟩ | ⟨k1, _, k2⟩
              · rw [hwj] at k1; cases k1
              · exact k2
            have hfo : j ∈ Fl → ∃ c, ∀ w, (execOp A.eval oj).run P w = .ok (.value c) w := by
              rcases key v0 hv0 with ⟨k1, k2, k3⟩ | ⟨k1, hfo, k2⟩
              · rw [hwj] at k1; cases k1
              · exact hfo
            refine .inr ⟨rfl, hfo, ?_⟩
            have fold : ∀ (u : Value) (W' : World), (∀ v, G v → Tree P ops S C es U Fl Fin (listed.setIfInBounds j true) (A.put oj.dst u) W' rest (a.put o.dst v) ((i, f v) :: L)) →
                Tree P ops S C es U Fl Fin (listed.setIfInBounds j true) (A.put oj.dst u) W' ((i, o) :: rest) a L := fun u W' hh => by
              unfold Tree
              rw [hset, if_neg hil]
              exact .inr ⟨h1, G, f, h2, ⟨v0, hv0⟩, h4, hfl, h5, hh⟩
            cases hcall : isCall oj.op with
            | false =>
              have := zAt.all (α := {v // G v}) hcall ⟨v0, hv0⟩ (fun x => key' x.1 x.2)
              exact this.mono fun u W' hh => ⟨(hh ⟨v0, hv0⟩).1, (hh ⟨v0, hv0⟩).2.1, fold u W' fun v hv => (hh ⟨v, hv⟩).2.2⟩
            | true =>
              have hiU : i ∉ U := fun hiU => by
                have := ((List.pairwise_cons.1 hon2).1 (j, oj) hm').2.2 hcall hiU
                exact hil (anc_ready hcl hr hjlt this hij)
              obtain ⟨c, hc⟩ := h4 hiU
              obtain rfl := hc v0 hv0
              exact (key' v0 hv0).mono fun u W' hh => ⟨hh.1, hh.2.1, fold u W' fun v hv => by obtain rfl := hc v hv; exact hh.2.2⟩

theorem float_zAt {o : Oper} {A : Act} {W : World} {K : Value → World → Prop} {c : Value} (hp : ∀ w, (execOp A.eval o).run P w = .ok (.value c) w) (h : zAt P o A K W) : K c W := by
  unfold zAt at h
  rw [hp] at h
  exact h

/-- an operation that looks at no memory, and may come as soon as it can -/
def flB (ops : Array Oper) (Fl : List Nat) (an : Nat → Nat → Bool) (i : Nat) : Bool :=
  match ops[i]? with
  | some oi => Fl.contains i && (List.range ops.size).all fun j => j == i || an i j || Region.waitsFor .any ops j i || (match ops[j]? with | some oj => oi.apart ops oj | none => true)
  | none => false
theorem fl_spec {i : Nat} {oi : Oper} (hi : ops[i]? = some oi) (h : flB ops Fl (ancB ops) i = true) : i ∈ Fl ∧ ∀ j oj, ops[j]? = some oj → j ≠ i → ancB ops i j = false → (∀ e ∈ oj.after, Region.binds .any e = true → e.on ≠ i) → oi.apart ops oj = true := by
  unfold flB at h
  simp only [hi, Bool.and_eq_true, List.all_eq_true, List.mem_range, Bool.or_eq_true] at h
  refine ⟨by simpa using h.1, fun j oj hj hne ha hno => ?_⟩
  rcases h.2 j (Array.getElem?_eq_some_iff.1 hj).1 with ((h1 | h1) | h1) | h1
  · exact absurd (by simpa using h1) hne
  · rw [ha] at h1; cases h1
  · obtain ⟨oj', hj', e, he, hb, hon⟩ := Region.waitsFor_spec h1
    obtain rfl := Option.some.inj (hj.symm.trans hj')
    exact absurd hon (hno e he hb)
  · simpa [hj] using h1

def unl (listed : Array Bool) : Nat → Nat
  | 0 => 0
  | m + 1 => unl listed m + if listed.getD m false = true then 0 else 1
theorem unl_set {listed : Array Bool} {j : Nat} (hj : j < listed.size) (hu : listed.getD j false = false) : ∀ m, unl (listed.setIfInBounds j true) m + (if j < m then 1 else 0) = unl listed m
  | 0 => by simp [unl]
  | m + 1 => by
    have ih := unl_set hj hu m
    unfold unl
    by_cases hjm : j = m
    · subst hjm
      simp [hj] at ih hu ⊢
      simp [hu]; exact ih
    · rw [getD_set_ne false hjm]
      split at ih <;> split <;> split <;> omega
theorem unl_zero {listed : Array Bool} : ∀ {m : Nat}, unl listed m = 0 → ∀ i, i < m → listed.getD i false = true
  | m + 1, h, i, hi => by
    unfold unl at h
    by_cases him : i = m
    · subst him
      split at h
      · assumption
      · omega
    · exact unl_zero (m := m) (by omega) i (by omega)
theorem unl_pos {listed : Array Bool} {m k : Nat} (h : unl listed m = k + 1) : ∃ i, i < m ∧ listed.getD i false = false ∧ ∀ x, x < i → listed.getD x false = true := by
  have hex : ∃ i, i < m ∧ listed.getD i false = false := by
    refine Classical.byContradiction fun hn => ?_
    have : ∀ q, q ≤ m → unl listed q = 0 := by
      intro q
      induction q with
      | zero => intro _; rfl
      | succ q ih =>
        intro hq
        unfold unl
        rw [ih (by omega)]
        cases hl : listed.getD q false with
        | true => simp
        | false => exact absurd ⟨q, by omega, hl⟩ hn
    rw [this m (Nat.le_refl _)] at h
    cases h
  obtain ⟨i, hi, hil⟩ := hex
  induction i using Nat.strongRecOn with
  | _ i ih =>
    by_cases hmin : ∀ x, x < i → listed.getD x false = true
    · exact ⟨i, hi, hil, hmin⟩
    · obtain ⟨x, hx⟩ := Classical.not_forall.1 hmin
      obtain ⟨hx1, hx2⟩ := Classical.not_imp.1 hx
      exact ih x hx1 (by omega) (by simpa using hx2)

theorem tree_done {n : Nat} {lo : List (Nat × Oper)} (fit : Fit ops U n lo) {listed : Array Bool} {A a0 : Act} {W : World}
    (hA : ∀ t, (∀ p ∈ lo, listed.getD p.1 false = true → p.2.dst ≠ some t) → A.tmps[t]? = a0.tmps[t]?) (hall : ∀ i, i < n → listed.getD i false = true) :
    ∀ (l l1 : List (Nat × Oper)) (a : Act) (L : List Fact), l1 ++ l = lo → Agr listed A a0 a l1 → (∀ p ∈ L, p.2 W) → Tree P ops S C es U Fl Fin listed A W l a L → ∃ L', (∀ p ∈ L', p.2 W) ∧ Fin A L'
  | [], l1, a, L, hl, hag, hL, hT => by
    have : a = A := by
      obtain ⟨at1, at2⟩ := a
      obtain ⟨A1, A2⟩ := A
      have h1 := hag.size
      have h2 := hag.defers
      simp only at h1 h2
      congr
      · refine Array.ext h1 fun t ht ht' => ?_
        have : at1[t]? = A1[t]? := by
          by_cases hex : ∃ p ∈ l1, p.2.dst = some t
          · obtain ⟨p, hp, hpt⟩ := hex
            exact hag.here p hp (hall _ (fit.are p (by rw [← hl]; simp [hp])).1) t hpt
          · exact (hag.away t fun p hp e => hex ⟨p, hp, e⟩).trans (hA t fun p hp _ e => hex ⟨p, by simpa [← hl] using hp, e⟩).symm
        simpa [ht, ht'] using this
    subst this
    exact ⟨L, hL, hT⟩
  | (i, o) :: rest, l1, a, L, hl, hag, hL, hT => by
    have hmem : (i, o) ∈ lo := by rw [← hl]; simp
    have hon := fit.once
    rw [← hl, List.pairwise_append] at hon
    obtain ⟨_, hon2, hon3⟩ := hon
    have hdl : ∀ p ∈ l1, ∀ t, p.2.dst = some t → o.dst ≠ some t := fun p hp t ht => fit.dsts p (by rw [← hl]; simp [hp]) (i, o) hmem (hon3 p hp (i, o) (by simp)).1 t ht
    unfold Tree at hT
    rw [if_pos (hall i (fit.are _ hmem).1)] at hT
    obtain ⟨f, g1, g2, g3⟩ := hT
    exact tree_done fit hA hall rest (l1 ++ [(i, o)]) _ ((i, f) :: L) (by simpa using hl) (hag.push_in hdl) (fun p hp => by
      rw [List.mem_cons] at hp
      rcases hp with rfl | hp
      · exact g2
      · exact hL p hp) g3

def headArr (m n : Nat) : Array Bool := ((List.range m).map fun i => decide (i < n)).toArray

theorem tree_any {n : Nat} {lo : List (Nat × Oper)} (fit : Fit ops U n lo) (hno : n ≤ ops.size) (hfw : ∀ i oi, i < n → ops[i]? = some oi → ∀ e ∈ oi.after, Region.binds .any e = true → e.on < i)
    (htl : ∀ t i, n ≤ t → t < ops.size → i < n → ancB ops t i = true ∨ flB ops Fl (ancB ops) i = true) (hes : ∀ i, i ∉ es → ∀ bs w, C bs w → C (upd bs i) w) {Q : Exit → Act → World → Prop} {g : Nat}
    (hQ : ∀ c a d v w, Q (.panic c) (Act.put a d v) w → Q (.panic c) a w) (hFin : ∀ W A L, C (fun x => decide (x < n)) W → (∀ p ∈ L, p.2 W) → Fin A L → wpAny P .any ops Q g (headArr ops.size n) A W) {a0 : Act} :
    ∀ (k : Nat) (listed : Array Bool) (A : Act) (W : World), unl listed n = k → listed.size = ops.size → Closed ops listed → (∀ t, n ≤ t → t < ops.size → listed.getD t false = false) →
      A.tmps.size = a0.tmps.size → A.defers = a0.defers → (∀ t, (∀ p ∈ lo, listed.getD p.1 false = true → p.2.dst ≠ some t) → A.tmps[t]? = a0.tmps[t]?) →
      C (fun x => listed.getD x false) W → Tree P ops S C es U Fl Fin listed A W lo a0 [] → wpAny P .any ops Q (k + g) listed A W := by
  intro k
  induction k with
  | zero =>
    intro listed A W hk hsz hcl hta hs hd hA hC hT
    have hall := unl_zero hk
    obtain ⟨L', h1, h2⟩ := tree_done fit hA hall lo [] a0 [] (by simp) ⟨hs.symm, hd.symm, (fun p hp => by cases hp), fun _ _ => rfl⟩ (fun p hp => by cases hp) hT
    have hbs : (fun x => listed.getD x false) = fun x => decide (x < n) := by
      funext x
      by_cases hx : x < n
      · rw [hall x hx]; simp [hx]
      · by_cases hx2 : x < ops.size
        · rw [hta x (by omega) hx2]; simp [hx]
        · rw [Array.getD_eq_getD_getElem?, Array.getElem?_eq_none (by omega)]; simp [hx]
    have hl : listed = headArr ops.size n := by
      refine Array.ext (by simp [headArr, hsz]) fun i hi hi' => ?_
      have := congrFun hbs i
      simp [hi] at this
      simp [headArr, this]
    rw [hbs] at hC
    rw [Nat.zero_add]
    rw [hl]
    exact hFin W A L' hC h1 h2
  | succ k ih =>
    intro listed A W hk hsz hcl hta hs hd hA hC hT
    obtain ⟨i, hin, hil, himin⟩ := unl_pos hk
    rw [show k + 1 + g = (k + g) + 1 by omega]
    have hri : i ∈ Region.ready .any ops listed := by
      have hilt : i < ops.size := by omega
      refine mem_ready.2 ⟨getD_in (by omega) hil, ops[i], by simp [hilt], fun e he hb => himin _ (hfw i _ hin (by simp [hilt]) e he hb)⟩
    have step : ∀ j, j ∈ Region.ready .any ops listed → j < n → ∃ oj, ops[j]? = some oj ∧
        ((Region.wanted oj (yielded ops A.tmps) = false ∧ wpAny P .any ops Q (k + g) (listed.setIfInBounds j true) (A.put oj.dst undef) W) ∨
         (Region.wanted oj (yielded ops A.tmps) = true ∧ (j ∈ Fl → ∃ c, ∀ w, (execOp A.eval oj).run P w = .ok (.value c) w) ∧ zAt P oj A (fun v W' => wpAny P .any ops Q (k + g) (listed.setIfInBounds j true) (A.put oj.dst v) W') W)) := by
      intro j hj hjn
      obtain ⟨hjun, oj, hoj, _⟩ := mem_ready.1 hj
      have hjlt : j < ops.size := (Array.getElem?_eq_some_iff.1 hoj).1
      obtain ⟨p, hp, hpj⟩ := fit.all j hjn
      have hpo := (fit.are p hp).2
      rw [hpj, hoj] at hpo
      obtain ⟨p1, p2⟩ := p
      simp only at hpj hpo
      subst hpj
      obtain rfl := Option.some.inj hpo
      have hbs : upd (fun x => listed.getD x false) p1 = fun x => (listed.setIfInBounds p1 true).getD x false := by
        funext x
        unfold upd
        by_cases hx : x = p1
        · subst hx; simp [hsz, hjlt]
        · rw [getD_set_ne false (Ne.symm hx)]; simp [hx]
      have next : ∀ v W', C (upd (fun x => listed.getD x false) p1) W' → Tree P ops S C es U Fl Fin (listed.setIfInBounds p1 true) (A.put oj.dst v) W' lo a0 [] → wpAny P .any ops Q (k + g) (listed.setIfInBounds p1 true) (A.put oj.dst v) W' := fun v W' h1 h2 => by
        refine ih _ _ _ ?_ (by simp [hsz]) (hcl.set hj) (fun t h3 h4 => by rw [getD_set_ne false (by omega)]; exact hta t h3 h4) (by rw [put_size, hs]) (by rw [put_defers, hd]) (fun t ht => ?_) (by rw [← hbs]; exact h1) h2
        · have := unl_set (j := p1) (by omega) (getD_both hjun) n
          rw [if_pos hjn] at this
          omega
        · rw [put_get_ne (ht _ hp (by simp [hsz, hjlt]))]
          exact hA t fun p hp' hpl => ht p hp' (getD_set_true hpl)
      refine ⟨oj, hoj, ?_⟩
      rcases tree_exec fit hcl hsz hno hA hes hC hp hj lo [] a0 [] (by simp) ⟨hs.symm, hd.symm, (fun p hp => by cases hp), fun _ _ => rfl⟩ (fun p hp => by cases hp) hp hT with ⟨h1, h2, h3⟩ | ⟨h1, hfo, h2⟩
      · exact .inl ⟨h1, next _ _ (hes _ h2 _ _ hC) h3⟩
      · exact .inr ⟨h1, hfo, h2.mono fun v W' ⟨g1, g2, g3⟩ => next v W' g1 g3⟩
    by_cases hfl : ∃ j, j ∈ Region.ready .any ops listed ∧ j < n ∧ flB ops Fl (ancB ops) j = true
    · obtain ⟨j, hj, hjn, hjf⟩ := hfl
      obtain ⟨oj, hoj, hst⟩ := step j hj hjn
      have hjl : j < listed.size := by omega
      obtain ⟨hff, hfree⟩ := fl_spec hoj hjf
      have free : ∀ j' oj', ops[j']? = some oj' → j' ≠ j → listed.getD j' true = false → (∀ e ∈ oj'.after, Region.binds .any e = true → e.on ≠ j) → oj.apart ops oj' = true := fun j' oj' h1 h2 h3 h4 => by
        refine hfree j' oj' h1 h2 ?_ h4
        cases ha : ancB ops j j' with
        | false => rfl
        | true =>
          have := anc_ready hcl hj hjl ha h2
          rw [getD_both h3] at this
          cases this
      rcases hst with ⟨h1, h2⟩ | ⟨h1, hfo, h2⟩
      · exact wpAny_first hoj (Region.noSelect_spec fit.sel) (fun c a w h => hQ c a _ _ w h) _ _ _ _ free hj (.inr ⟨h1, rfl⟩) h2
      · obtain ⟨v, hv1⟩ := hfo hff
        have hv2 := float_zAt hv1 h2
        exact wpAny_first hoj (Region.noSelect_spec fit.sel) (fun c a w h => hQ c a _ _ w h) _ _ _ _ free hj (.inl ⟨h1, hv1⟩) hv2
    refine ⟨fun h0 => (by rw [h0] at hri; cases hri), fun j hj => ?_⟩
    have hjn : j < n := by
      refine (Nat.lt_or_ge j n).elim id fun h => ?_
      obtain ⟨hjun, oj, hoj, _⟩ := mem_ready.1 hj
      have hjlt : j < ops.size := (Array.getElem?_eq_some_iff.1 hoj).1
      rcases htl j i h hjlt hin with h1 | h1
      · have := anc_ready hcl hj (by omega) h1 (by omega)
        rw [hil] at this
        cases this
      · exact absurd ⟨i, hri, hin, h1⟩ hfl
    obtain ⟨oj, hoj, hst⟩ := step j hj hjn
    unfold wpOp
    simp only [hoj]
    rcases hst with ⟨h1, h2⟩ | ⟨h1, _, h2⟩
    · rw [if_neg (by rw [h1]; simp)]
      exact h2
    · rw [if_pos h1]
      exact .inl (wp_of_zAt h2 fun v W' h => h)

/-- the check, as one Bool -/
def fitB (ops : Array Oper) (U Fl : List Nat) (n : Nat) (lo : List (Nat × Oper)) : Bool :=
  Region.noSelect ops && decide (n ≤ ops.size) && decide (lo.map (·.1)).Nodup && decide (lo.length = n) && (lo.all fun p => decide (p.1 < n)) &&
  (let bf := Region.before ops
   let an := fun i j : Nat => (bf.getD i 0).testBit j
   ((List.range n).all fun i => !an i i) &&
   ((List.range n).all fun i => ((ops[i]?).map fun o => o.after.all fun e => !Region.binds .any e || decide (e.on < i)).getD true) &&
   ((List.range ops.size).all fun t => decide (t < n) || (List.range n).all fun i => an t i || flB ops Fl an i) &&
   (lo.all fun p => lo.all fun q => p.1 == q.1 || (match p.2.dst with | some t => q.2.dst != some t | none => true)) &&
   (lo.all fun p => match p.2.dst with | some t => lo.all fun q => !(q.2.looksAt ops).contains t || an q.1 p.1 || an p.1 q.1 | none => true) &&
   pairsB an U lo) && tailF .any ops (ops.size - n) n (headArr ops.size n)
where pairsB (an : Nat → Nat → Bool) (U : List Nat) : List (Nat × Oper) → Bool
  | [] => true
  | p :: rest => (rest.all fun q => !an p.1 q.1 && (!isCall q.2.op || !U.contains p.1 || an q.1 p.1)) && pairsB an U rest
theorem pairs_of {an : Nat → Nat → Bool} : ∀ {lo : List (Nat × Oper)}, fitB.pairsB an U lo = true → (lo.map (·.1)).Nodup → lo.Pairwise fun p q => p.1 ≠ q.1 ∧ an p.1 q.1 = false ∧ (isCall q.2.op = true → p.1 ∈ U → an q.1 p.1 = true)
  | [], _, _ => .nil
  | p :: rest, h, hn => by
    simp only [fitB.pairsB, Bool.and_eq_true, List.all_eq_true] at h
    rw [List.map_cons, List.nodup_cons] at hn
    refine List.pairwise_cons.2 ⟨fun q hq => ?_, pairs_of h.2 hn.2⟩
    have h1 := h.1 q hq
    simp only [Bool.and_eq_true, Bool.not_eq_true', Bool.or_eq_true] at h1
    refine ⟨fun e => hn.1 (List.mem_map.2 ⟨q, hq, e.symm⟩), h1.1, fun hc hu => ?_⟩
    rcases h1.2 with (h2 | h2) | h2
    · rw [hc] at h2; cases h2
    · simp [hu] at h2
    · exact h2
theorem all_of {n : Nat} : ∀ {l : List Nat}, l.Nodup → l.length = n → (∀ x ∈ l, x < n) → ∀ i, i < n → i ∈ l := by
  intro l hn hl hlt i hi
  refine Classical.byContradiction fun hni => ?_
  have h1 : (i :: l).Nodup := List.nodup_cons.2 ⟨hni, hn⟩
  have h2 : ∀ x ∈ i :: l, x ∈ List.range n := fun x hx => by
    rw [List.mem_cons] at hx
    rcases hx with rfl | hx
    · simpa using hi
    · simpa using hlt x hx
  have h3 := h1.length_le_of_subset h2
  simp [hl] at h3
  exact absurd h3 (Nat.not_succ_le_self n)
theorem fit_of {n : Nat} {lo : List (Nat × Oper)} (h : fitB ops U Fl n lo = true) (hlo : ∀ p ∈ lo, ops[p.1]? = some p.2) : Fit ops U n lo ∧ n ≤ ops.size ∧
    (∀ i oi, i < n → ops[i]? = some oi → ∀ e ∈ oi.after, Region.binds .any e = true → e.on < i) ∧ (∀ t i, n ≤ t → t < ops.size → i < n → ancB ops t i = true ∨ flB ops Fl (ancB ops) i = true) ∧ tailF .any ops (ops.size - n) n (headArr ops.size n) = true := by
  simp only [fitB, Bool.and_eq_true, decide_eq_true_eq, List.all_eq_true, List.mem_range, Bool.not_eq_true', Bool.or_eq_true] at h
  obtain ⟨⟨⟨⟨⟨⟨h1, h2⟩, h3⟩, h4⟩, h5⟩, ⟨⟨⟨⟨⟨h6, h7⟩, h8⟩, h9⟩, h10⟩, h11⟩⟩, h12⟩ := h
  refine ⟨⟨h1, fun p hp => ⟨h5 p hp, hlo p hp⟩, fun i hi => ?_, pairs_of h11 h3, fun p hp q hq hne t ht => ?_, fun p hp q hq t ht hm => ?_, h6⟩, h2, fun i oi hi hoi e he hb => ?_, fun t i ht ht' hi => ?_, h12⟩
  · have := all_of h3 (by simpa using h4) (fun x hx => by obtain ⟨p, hp, rfl⟩ := List.mem_map.1 hx; exact h5 p hp) i hi
    obtain ⟨p, hp, e⟩ := List.mem_map.1 this
    exact ⟨p, hp, e⟩
  · rcases h9 p hp q hq with h | h
    · exact absurd (by simpa using h) hne
    · rw [ht] at h
      simpa using h
  · have := h10 p hp
    rw [ht] at this
    simp only [List.all_eq_true, Bool.or_eq_true, Bool.not_eq_true'] at this
    rcases this q hq with (h | h) | h
    · simp [hm] at h
    · exact .inl h
    · exact .inr h
  · have := h7 i hi
    rw [hoi] at this
    simp only [Option.map_some, Option.getD_some, Array.all_eq_true_iff_forall_mem, Bool.or_eq_true, Bool.not_eq_true', decide_eq_true_eq] at this
    exact (this e he).resolve_left (by rw [hb]; simp)
  · have := (h8 t ht').resolve_left (by omega) i hi
    exact this

/-- THE LAW. -/
theorem wp_region_walk {id : Nat} {Q : Exit → Act → World → Prop} {a : Act} {w : World} {l : List Oper} (S : List Nat) (C : (Nat → Bool) → World → Prop) (es U Fl : List Nat) (n : Nat) (lo : List (Nat × Oper)) (hm : P.follows .mixedOrders = true)
    (hB : fitB l.toArray U Fl n lo = true) (hlo : ∀ p ∈ lo, l.toArray[p.1]? = some p.2) (hQ : ∀ c a d v w, Q (.panic c) (Act.put a d v) w → Q (.panic c) a w)
    (hes : ∀ i, i ∉ es → ∀ bs w, C bs w → C (upd bs i) w) (hC : C (fun _ => false) { w with drawn := w.drawn + 1 })
    (h : wpZ P l.toArray S C es U Fl (fun a' L => ∀ w', C (fun x => decide (x < n)) w' → (∀ p ∈ L, p.2 w') → wpList P l.toArray Q (l.drop n) a' w') lo a []) : (Code.region id l.toArray true).wp P Q a w := by
  obtain ⟨fit, hno, hfw, htl, htf⟩ := fit_of hB hlo
  have hdl : (l.drop n).length = l.toArray.size - n := by simp
  refine wp_region_any hm ?_
  have hT := tree_of_wpZ (m := l.toArray.size) (A := a) (W := { w with drawn := w.drawn + 1 }) _ _ _ h
  have := tree_any (Q := Q) (g := l.toArray.size - n) (a0 := a) fit hno hfw htl hes hQ (fun W A L hC hL hF => by
    have := wpAny_of_tailF (md := .any) (Q := Q) fit.sel hQ (l.drop n) n (headArr l.toArray.size n) A W (fun j => by simp [List.getElem?_drop]) (by rw [hdl]; exact htf) (hF W hC hL)
    rwa [hdl] at this) _ (Array.replicate l.toArray.size false) a _ rfl (by simp) (fun j oj _ hl => by rw [getD_replicate_false] at hl; cases hl) (fun t _ _ => getD_replicate_false _ _) rfl rfl (fun _ _ => rfl)
    (by simpa only [getD_replicate_false] using hC) hT
  have hun : ∀ m, m ≤ l.toArray.size → unl (Array.replicate l.toArray.size false) m = m := by
    intro m
    induction m with
    | zero => intro _; rfl
    | succ m ih => intro hm; unfold unl; rw [ih (by omega), getD_replicate_false]; rfl
  rw [hun n hno, show n + (l.toArray.size - n) = l.toArray.size by omega] at this
  exact this
end tree2
end Go.Proofs.YtjlamnioknbcaaaDoor.K11
