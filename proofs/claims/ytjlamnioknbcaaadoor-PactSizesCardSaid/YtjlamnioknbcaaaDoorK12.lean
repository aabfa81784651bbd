/- steps of the walk of K11 -/
import Derived.Test.YtjlamnioknbcaaaDoorK11
namespace Go.Proofs.YtjlamnioknbcaaaDoor.K12
set_option linter.unusedVariables false
set_option linter.unusedSimpArgs false
open Go.RowKit K3 K5 K11

/-- the class of the world in a region without an effect -/
def C0e (D : World → Prop) : (Nat → Bool) → World → Prop := fun _ x => D x
/-- one effect, at e -/
def C1e (e : Nat) (D0 D1 : World → Prop) : (Nat → Bool) → World → Prop := fun bs x => if bs e = true then D1 x else D0 x
/-- two effects, at e ahead of e' -/
def C2e (e e' : Nat) (D0 D1 D2 : World → Prop) : (Nat → Bool) → World → Prop := fun bs x => if bs e' = true then D2 x else if bs e = true then D1 x else D0 x

theorem C0e.es {D : World → Prop} : ∀ i, i ∉ ([] : List Nat) → ∀ bs w, C0e D bs w → C0e D (upd bs i) w := fun _ _ _ _ h => h
theorem C1e.es {e : Nat} {D0 D1 : World → Prop} : ∀ i, i ∉ [e] → ∀ bs w, C1e e D0 D1 bs w → C1e e D0 D1 (upd bs i) w := by
  intro i hi bs w h
  have hne : (e == i) = false := by
    rw [List.mem_singleton] at hi
    simpa using fun e' => hi e'.symm
  unfold C1e upd at *
  rw [hne, Bool.or_false]
  exact h
theorem C2e.es {e e' : Nat} {D0 D1 D2 : World → Prop} : ∀ i, i ∉ [e, e'] → ∀ bs w, C2e e e' D0 D1 D2 bs w → C2e e e' D0 D1 D2 (upd bs i) w := by
  intro i hi bs w h
  simp only [List.mem_cons, List.not_mem_nil, or_false, not_or] at hi
  have hne : (e == i) = false := by simpa using fun e' => hi.1 e'.symm
  have hne' : (e' == i) = false := by simpa using fun e' => hi.2 e'.symm
  unfold C2e upd at *
  rw [hne, hne', Bool.or_false, Bool.or_false]
  exact h
/-- memory may be made -/
def Grows (C : (Nat → Bool) → World → Prop) : Prop := ∀ bs w w', C bs w → Below w.heap.size w w' → C bs w'
theorem C0e.grows {D : World → Prop} (h : ∀ w w', D w → Below w.heap.size w w' → D w') : Grows (C0e D) := fun _ w w' => h w w'
theorem C1e.grows {e : Nat} {D0 D1 : World → Prop} (h : ∀ w w', D0 w → Below w.heap.size w w' → D0 w') (h1 : ∀ w w', D1 w → Below w.heap.size w w' → D1 w') : Grows (C1e e D0 D1) := by
  intro bs w w' hc hb
  unfold C1e at *
  split
  · rename_i hh; rw [if_pos hh] at hc; exact h1 _ _ hc hb
  · rename_i hh; rw [if_neg hh] at hc; exact h _ _ hc hb
theorem C2e.grows {e e' : Nat} {D0 D1 D2 : World → Prop} (h : ∀ w w', D0 w → Below w.heap.size w w' → D0 w') (h1 : ∀ w w', D1 w → Below w.heap.size w w' → D1 w') (h2 : ∀ w w', D2 w → Below w.heap.size w w' → D2 w') : Grows (C2e e e' D0 D1 D2) := by
  intro bs w w' hc hb
  unfold C2e at *
  split
  · rename_i hh; rw [if_pos hh] at hc; exact h2 _ _ hc hb
  · rename_i hh
    rw [if_neg hh] at hc
    split
    · rename_i hh; rw [if_pos hh] at hc; exact h1 _ _ hc hb
    · rename_i hh; rw [if_neg hh] at hc; exact h _ _ hc hb
theorem C1e.any {e : Nat} {D0 D1 D : World → Prop} (h : ∀ w, D0 w → D w) (h1 : ∀ w, D1 w → D w) : ∀ bs w, C1e e D0 D1 bs w → D w := by
  intro bs w hc
  unfold C1e at hc
  split at hc
  · exact h1 _ hc
  · exact h _ hc
theorem C2e.any {e e' : Nat} {D0 D1 D2 D : World → Prop} (h : ∀ w, D0 w → D w) (h1 : ∀ w, D1 w → D w) (h2 : ∀ w, D2 w → D w) : ∀ bs w, C2e e e' D0 D1 D2 bs w → D w := by
  intro bs w hc
  unfold C2e at hc
  split at hc
  · exact h2 _ hc
  · split at hc
    · exact h1 _ hc
    · exact h _ hc

theorem cell_blk {w : World} {b : Nat} {cs : Array Value} {t : TypeId} {f : Nat × Nat} (h : w.heap[b]? = some (.cells cs t f)) : ∀ i, w.cell? ⟨b, i, none⟩ = cs[i]? := by
  intro i
  unfold World.cell?
  rw [h]
  simp
theorem froz_blk {w : World} {b : Nat} {cs : Array Value} {t : TypeId} (h : w.heap[b]? = some (.cells cs t (0, 0))) : ∀ i, w.frozen? ⟨b, i, none⟩ = false := by
  intro i
  unfold World.frozen?
  rw [h]
  simp
theorem blk {w : World} {b : Nat} {cs : Array Value} {t : TypeId} (h : w.heap[b]? = some (.cells cs t (0, 0))) : (∀ i, w.cell? ⟨b, i, none⟩ = cs[i]?) ∧ (∀ i, K1.cellX w b i = cs[i]?) ∧ (∀ i, w.frozen? ⟨b, i, none⟩ = false) ∧ (∀ i, K1.frozX w b i = false) ∧ b < w.heap.size :=
  ⟨cell_blk h, cell_blk h, froz_blk h, froz_blk h, (Array.getElem?_eq_some_iff.1 h).1⟩
section
variable {P : Program} {ops : Array Oper} {S : List Nat} {C : (Nat → Bool) → World → Prop} {es U Fl : List Nat} {Fin : Act → List Fact → Prop} {i : Nat} {o : Oper} {rest : List (Nat × Oper)} {a : Act} {L : List Fact}

theorem wz_nil (h : Fin a L) : wpZ P ops S C es U Fl Fin [] a L := h
theorem wz_skip (hi : i ∉ es) (h : Region.wanted o (yielded ops a.tmps) = false) (hK : wpZ P ops S C es U Fl Fin rest (a.put o.dst undef) ((i, fun _ => True) :: L)) : wpZ P ops S C es U Fl Fin ((i, o) :: rest) a L :=
  .inl ⟨h, hi, hK⟩
/-- an operation without an effect, whose value is known -/
theorem wz_do (hi : i ∉ es) (hfl : i ∉ Fl) (hes : ∀ i, i ∉ es → ∀ bs w, C bs w → C (upd bs i) w) (hg : Grows C) (h : Region.wanted o (yielded ops a.tmps) = true)
    (h1 : ∃ v, (∀ bs, Okb ops bs i → ∀ w, C bs w → (∀ p ∈ L, ancB ops i p.1 = true → p.2 w) → zAt P o a (fun u w' => u = v ∧ Below w.heap.size w w') w) ∧ wpZ P ops S C es U Fl Fin rest (a.put o.dst v) ((i, fun _ => True) :: L)) :
    wpZ P ops S C es U Fl Fin ((i, o) :: rest) a L := by
  obtain ⟨v, h2, h3⟩ := h1
  exact .inr ⟨h, fun u => u = v, fun _ _ => True, fun _ _ _ _ _ _ => trivial, ⟨v, rfl⟩, fun _ => ⟨v, fun _ h => h⟩, fun hn => absurd hn hfl,
    fun bs hok w hC hL => (h2 bs hok w hC hL).mono fun u w' ⟨e1, e2⟩ => ⟨hes i hi _ _ (hg _ _ _ hC e2), .of_below e2, e1, trivial⟩, fun u hu => by subst hu; exact h3⟩
/-- an operation that looks at no memory -/
theorem wz_flo (hi : i ∉ es) (hes : ∀ i, i ∉ es → ∀ bs w, C bs w → C (upd bs i) w) (h : Region.wanted o (yielded ops a.tmps) = true)
    (h1 : ∃ v, (∀ w, (execOp a.eval o).run P w = .ok (.value v) w) ∧ wpZ P ops S C es U Fl Fin rest (a.put o.dst v) ((i, fun _ => True) :: L)) :
    wpZ P ops S C es U Fl Fin ((i, o) :: rest) a L := by
  obtain ⟨v, h2, h3⟩ := h1
  exact .inr ⟨h, fun u => u = v, fun _ _ => True, fun _ _ _ _ _ _ => trivial, ⟨v, rfl⟩, fun _ => ⟨v, fun _ h => h⟩, fun _ => ⟨v, h2⟩,
    fun bs hok w hC hL => by
      unfold zAt
      rw [h2]
      exact ⟨hes i hi _ _ hC, Fr.refl _ _ _, rfl, trivial⟩, fun u hu => by subst hu; exact h3⟩
/-- new memory -/
theorem wz_new (V : Nat → Value) (obj : Obj) (B0 : Nat) (hi : i ∉ es) (hfl : i ∉ Fl) (hU : i ∈ U) (hes : ∀ i, i ∉ es → ∀ bs w, C bs w → C (upd bs i) w) (hg : Grows C) (h : Region.wanted o (yielded ops a.tmps) = true)
    (hV : ∀ b b', V b = V b' → b' = b) (hS : ∀ s ∈ S, s < B0) (hB : ∀ bs w, C bs w → B0 ≤ w.heap.size)
    (hrun : ∀ bs, Okb ops bs i → ∀ w, C bs w → (∀ p ∈ L, ancB ops i p.1 = true → p.2 w) → (execOp a.eval o).run P w = .ok (.value (V w.heap.size)) (w.alloc obj))
    (hK : ∀ b, B0 ≤ b → ∀ F : World → Prop, (∀ w, F w → w.heap[b]? = some obj) → wpZ P ops S C es U Fl Fin rest (a.put o.dst (V b)) ((i, F) :: L)) :
    wpZ P ops S C es U Fl Fin ((i, o) :: rest) a L := by
  refine .inr ⟨h, fun v => ∃ b, v = V b ∧ B0 ≤ b, fun v w => ∀ b, v = V b → w.heap[b]? = some obj, ?_, ⟨V B0, B0, rfl, Nat.le_refl _⟩, fun hn => absurd hU hn, fun hn => absurd hn hfl, ?_, ?_⟩
  · rintro v ⟨b, rfl, hb⟩ w w' hf hh b' hb'
    have h1 := hh b' hb'
    have hlt : b' < w.heap.size := (Array.getElem?_eq_some_iff.1 h1).1
    have hbb := hV _ _ hb'
    rw [hf.block b' hlt (fun hm => by have := hS _ hm; omega)]
    exact h1
  · intro bs hok w hC hL
    unfold zAt
    rw [hrun bs hok w hC hL]
    have hbl : Below w.heap.size w (w.alloc obj) := (Below.refl _ _).alloc (Nat.le_refl _) _
    refine ⟨hes i hi _ _ (hg _ _ _ hC hbl), .of_below hbl, ⟨_, rfl, hB bs w hC⟩, fun b hb => ?_⟩
    obtain rfl := hV _ _ hb
    show (w.heap.push obj)[w.heap.size]? = _
    simp
  · rintro v ⟨b, rfl, hb⟩
    exact hK b hb _ fun w hw => hw b rfl
/-- an effect, the value known -/
theorem wz_eff (hfl : i ∉ Fl) (h : Region.wanted o (yielded ops a.tmps) = true)
    (h1 : ∃ v, (∀ bs, Okb ops bs i → ∀ w, C bs w → (∀ p ∈ L, ancB ops i p.1 = true → p.2 w) → zAt P o a (fun u w' => u = v ∧ C (upd bs i) w' ∧ Fr w.heap.size S w w') w) ∧ wpZ P ops S C es U Fl Fin rest (a.put o.dst v) ((i, fun _ => True) :: L)) :
    wpZ P ops S C es U Fl Fin ((i, o) :: rest) a L := by
  obtain ⟨v, h2, h3⟩ := h1
  exact .inr ⟨h, fun u => u = v, fun _ _ => True, fun _ _ _ _ _ _ => trivial, ⟨v, rfl⟩, fun _ => ⟨v, fun _ h => h⟩, fun hn => absurd hn hfl,
    fun bs hok w hC hL => (h2 bs hok w hC hL).mono fun u w' ⟨e1, e2, e3⟩ => ⟨e2, e3, e1, trivial⟩, fun u hu => by subst hu; exact h3⟩
/-- an effect or not, the value not known -/
theorem wz_any {α : Type} (V : α → Value) (F : α → World → Prop) (x0 : α) (hU : i ∈ U) (hfl : i ∉ Fl) (h : Region.wanted o (yielded ops a.tmps) = true) (hV : ∀ x y, V x = V y → y = x) (hF : ∀ x, Stab S (F x))
    (h1 : ∀ bs, Okb ops bs i → ∀ w, C bs w → (∀ p ∈ L, ancB ops i p.1 = true → p.2 w) → zAt P o a (fun u w' => ∃ x, u = V x ∧ C (upd bs i) w' ∧ Fr w.heap.size S w w' ∧ F x w') w)
    (hK : ∀ x, ∀ F' : World → Prop, (∀ w, F' w → F x w) → wpZ P ops S C es U Fl Fin rest (a.put o.dst (V x)) ((i, F') :: L)) :
    wpZ P ops S C es U Fl Fin ((i, o) :: rest) a L := by
  refine .inr ⟨h, fun v => ∃ x, v = V x, fun v w => ∀ x, v = V x → F x w, ?_, ⟨V x0, x0, rfl⟩, fun hn => absurd hU hn, fun hn => absurd hn hfl, ?_, ?_⟩
  · rintro v ⟨x, rfl⟩ w w' hf hh y hy
    exact hF y _ _ hf (hh y hy)
  · intro bs hok w hC hL
    refine (h1 bs hok w hC hL).mono ?_
    rintro u w' ⟨x, rfl, e2, e3, e4⟩
    exact ⟨e2, e3, ⟨x, rfl⟩, fun y hy => by obtain rfl := hV _ _ hy; exact e4⟩
  · rintro v ⟨x, rfl⟩
    exact hK x _ fun w hw => hw x rfl
theorem zAt_call {o : Oper} {a : Act} {w w' : World} {f : FuncId} {args : Array Value} {K : Value → World → Prop} (hr : (execOp a.eval o).run P w = .ok (.enter f args) w') (hc : isCall o.op = true)
    (h : Calls P f args w' (fun e w'' => ∃ v, e = .returned v ∧ K v w'')) : zAt P o a K w := by
  unfold zAt; rw [hr]; exact ⟨hc, h⟩
/-- the world under a name -/
theorem wp_name {c : Code} {Q : Exit → Act → World → Prop} {w : World} (h : ∀ x, x = w → c.wp P Q a x) : c.wp P Q a w := h w rfl
/-- all these facts stand -/
def Holds (L : List Fact) (w : World) : Prop := ∀ p ∈ L, p.2 w
theorem Holds.get {L : List Fact} {w : World} (h : Holds L w) (i : Nat) {F : World → Prop} (hm : (i, F) ∈ L) : F w := h _ hm
/-- numbered as they stand -/
def numbered : Nat → List Oper → List (Nat × Oper)
  | _, [] => []
  | k, o :: r => (k, o) :: numbered (k + 1) r
theorem numbered_spec : ∀ (l : List Oper) (k : Nat), ∀ p ∈ numbered k l, k ≤ p.1 ∧ l[p.1 - k]? = some p.2
  | [], _, p, h => by cases h
  | o :: r, k, p, h => by
    unfold numbered at h
    rw [List.mem_cons] at h
    rcases h with rfl | h
    · simp
    · obtain ⟨h1, h2⟩ := numbered_spec r (k + 1) p h
      refine ⟨by omega, ?_⟩
      rw [show p.1 - k = (p.1 - (k + 1)) + 1 by omega]
      simpa using h2
theorem wp_region_plain {id : Nat} {Q : Exit → Act → World → Prop} {w : World} {l : List Oper} (S : List Nat) (C : (Nat → Bool) → World → Prop) (es U Fl : List Nat) (n : Nat) (hm : P.follows .mixedOrders = true)
    (hB : fitB l.toArray U Fl n (numbered 0 (l.take n)) = true) (hQ : ∀ c a d v w, Q (.panic c) (Act.put a d v) w → Q (.panic c) a w)
    (hes : ∀ i, i ∉ es → ∀ bs w, C bs w → C (upd bs i) w) (hC : C (fun _ => false) w.drew)
    (h : wpZ P l.toArray S C es U Fl (fun a' L => ∀ w', C (fun x => decide (x < n)) w' → Holds L w' → wpList P l.toArray Q (l.drop n) a' w') (numbered 0 (l.take n)) a []) : (Code.region id l.toArray true).wp P Q a w :=
  wp_region_walk S C es U Fl n _ hm hB (fun p hp => by
    obtain ⟨_, h2⟩ := numbered_spec _ 0 p hp
    rw [Nat.sub_zero] at h2
    rw [List.getElem?_toArray]
    have hlt : p.1 < (l.take n).length := (List.getElem?_eq_some_iff.1 h2).1
    rw [← h2, List.getElem?_take, if_pos (by simp at hlt; omega)]) hQ hes hC h
/-- no effect in the head -/
theorem wp_region_quiet0 {id : Nat} {Q : Exit → Act → World → Prop} {w : World} {l : List Oper} (U Fl : List Nat) (n : Nat) (hm : P.follows .mixedOrders = true)
    (hB : fitB l.toArray U Fl n (numbered 0 (l.take n)) = true) (hQ : ∀ c a d v w, Q (.panic c) (Act.put a d v) w → Q (.panic c) a w)
    (h : wpZ P l.toArray [] (C0e (fun x => Below w.heap.size w x)) [] U Fl (fun a' L => ∀ w', Below w.heap.size w w' → Holds L w' → wpList P l.toArray Q (l.drop n) a' w') (numbered 0 (l.take n)) a []) : (Code.region id l.toArray true).wp P Q a w :=
  wp_region_plain [] (C0e (fun x => Below w.heap.size w x)) [] U Fl n hm hB hQ C0e.es ((Below.refl _ _).drew) h
theorem growsB {B : Nat} {w : World} (hB : B ≤ w.heap.size) : Grows (C0e (fun x => Below B w x)) := C0e.grows fun a b h h' => h.trans (h'.mono (Nat.le_trans hB h.size))
theorem grows0 {w : World} : Grows (C0e (fun x => Below w.heap.size w x)) := C0e.grows fun a b h h' => h.trans (h'.mono h.size)
end
end Go.Proofs.YtjlamnioknbcaaaDoor.K12
