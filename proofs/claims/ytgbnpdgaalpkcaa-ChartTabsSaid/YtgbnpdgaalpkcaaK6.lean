/- a map from ints to true as a list of its keys; a row of the call's own as a slice that is read -/
import Derived.Test.YtgbnpdgaalpkcaaK5
import Derived.Lib.Hide
namespace Go.Proofs.Ytgbnpdgaalpkcaa.K6
set_option linter.unusedVariables false
set_option linter.unusedSimpArgs false
open Go.RowKit K1 K5

/-- what an owned row is as a slice -/
theorem own_view {w : World} {base : Nat} {e : TypeId} {v : Value} {n : Nat} {xs : List Value} (h : w.ownsRow base e 1 v n xs) :
    ∃ (ao : Option Addr) (g cap : Nat), v = .slice ao n cap ∧ (ao = some ⟨g, 0, none⟩ ∨ n = 0) ∧ n ≤ cap ∧ (n ≠ 0 → base ≤ g ∧ g < w.heap.size) ∧ ∀ k u, xs[k]? = some u → w.cell? ⟨g, 0 + k, none⟩ = some u := by
  obtain ⟨hl, h2⟩ := h
  rcases h2 with ⟨rfl, rfl⟩ | ⟨g, cap, cur, rfl, hb, hg, hn, hm, hs, ht⟩
  · refine ⟨none, 0, 0, rfl, .inr rfl, Nat.le_refl _, fun h => absurd rfl h, fun k u hk => ?_⟩
    have : xs = [] := List.eq_nil_of_length_eq_zero (by simpa using hl)
    subst this
    simp at hk
  · refine ⟨_, g, cap, rfl, .inl rfl, hn, fun _ => ⟨hb, heap_lt hg⟩, fun k u hk => ?_⟩
    rw [Nat.zero_add, cell_of_row w g k cur e (0, 0) hg]
    rw [← ht, List.getElem?_take] at hk
    split at hk
    · simpa using hk
    · cases hk

/-- block r is a map from ints to true that has the keys L -/
def SetM (w : World) (r : Nat) (L : List Int) : Prop :=
  ∃ (es : Array MapEntry) (clock : Nat), w.heap[r]? = some (.map es clock) ∧ es.toList.map (·.key) = L.map (Value.int .i64) ∧ ∀ e ∈ es.toList, e.val = .bool true
theorem SetM.keep {w w' : World} {r : Nat} {L : List Int} (h : SetM w r L) (he : w'.heap[r]? = w.heap[r]?) : SetM w' r L := by
  obtain ⟨es, c, h1, h2⟩ := h
  exact ⟨es, c, he.trans h1, h2⟩
theorem SetM.lt {w : World} {r : Nat} {L : List Int} (h : SetM w r L) : r < w.heap.size := by
  obtain ⟨es, c, h1, _⟩ := h
  exact heap_lt h1

theorem find_now (x : Int) : ∀ (es : List MapEntry) (L : List Int) (i : Nat), es.map (·.key) = L.map (Value.int .i64) → (∀ e ∈ es, e.val = .bool true) →
    (x ∉ L → Instr.findNow (.int .i64) (.int .i64 x) es i = some none) ∧ (x ∈ L → ∃ j e, es[j]? = some e ∧ e.key = .int .i64 x ∧ Instr.findNow (.int .i64) (.int .i64 x) es i = some (some (i + j, .bool true)))
  | [], [], i, _, _ => ⟨fun _ => rfl, fun h => by cases h⟩
  | [], _ :: _, i, h, _ => by cases h
  | _ :: _, [], i, h, _ => by cases h
  | e :: es, y :: L, i, h, hv => by
    simp only [List.map_cons, List.cons.injEq] at h
    have ih := find_now x es L (i + 1) h.2 (fun e he => hv e (List.mem_cons_of_mem _ he))
    have hve : e.val = .bool true := hv e (by simp)
    unfold Instr.findNow
    rw [h.1]
    simp only [Instr.sameNow, if_true]
    by_cases hxy : x = y
    · subst hxy
      simp only [beq_self_eq_true]
      exact ⟨fun hn => absurd (by simp) hn, fun _ => ⟨0, e, rfl, h.1, by rw [hve]; rfl⟩⟩
    · have hb : (x == y) = false := by simpa using hxy
      rw [hb]
      simp only
      refine ⟨fun hn => ih.1 (fun hm => hn (List.mem_cons_of_mem _ hm)), fun hm => ?_⟩
      rcases List.mem_cons.1 hm with hm | hm
      · exact absurd hm hxy
      · obtain ⟨j, e', h1, h2, h3⟩ := ih.2 hm
        exact ⟨j + 1, e', h1, h2, by rw [h3]; congr 2; simp; omega⟩

section
set_option linter.unusedSectionVars false
variable {P : Program} {t ke be : TypeId} (ht : P.underlying t = some (.map ke be)) (hk : P.underlying ke = some (.int .i64)) (hz : ∀ w, (zeroValue be).run P w = .ok (.bool false) w)
include ht hk
theorem run_find {w : World} {es : Array MapEntry} (x : Int) (r : Option (Nat × Value)) (h : Instr.findNow (.int .i64) (.int .i64 x) es.toList 0 = some r) : (Instr.findKey ke (.int .i64 x) es.toList).run P w = .ok r w := by
  unfold Instr.findKey
  simp [run_underlying hk, h]
theorem run_check {w : World} (x : Int) (b : Bool) : (Instr.checkKey b 10000 ke (.int .i64 x)).run P w = .ok () w := by
  unfold Instr.checkKey
  simp [run_underlying hk]
include hz
theorem run_look {w : World} {r : Nat} {L : List Int} (h : SetM w r L) (x : Int) : (Instr.lookup t (.map (some r)) (.int .i64 x) false).run P w = .ok (.bool (decide (x ∈ L))) w := by
  obtain ⟨es, c, h1, h2, h3⟩ := h
  have hf := find_now x es.toList L 0 h2 h3
  unfold Instr.lookup
  by_cases hm : x ∈ L
  · obtain ⟨j, e, -, -, hr⟩ := hf.2 hm
    have e1 := run_find (P := P) ht hk (w := w) x _ hr
    simp [run_underlying ht, getObj, Sem.run, h1, run_check ht hk, e1, hm]
  · have e1 := run_find (P := P) ht hk (w := w) x _ (hf.1 hm)
    simp [run_underlying ht, getObj, Sem.run, h1, run_check ht hk, e1, hm, hz]
omit hz in
theorem run_upd {w : World} {r : Nat} {L : List Int} (h : SetM w r L) (x : Int) :
    ∃ w', (Instr.mapUpdate t (.map (some r)) (.int .i64 x) (.bool true)).run P w = .ok () w' ∧ SetM w' r (if x ∈ L then L else L ++ [x]) ∧ Fr w.heap.size [r] w w' := by
  obtain ⟨es, c, h1, h2, h3⟩ := h
  have hr := heap_lt h1
  have hf := find_now x es.toList L 0 h2 h3
  have frame : ∀ o, Fr w.heap.size [r] w { w with heap := w.heap.setIfInBounds r o } := fun o =>
    ⟨rfl, rfl, rfl, by simp, fun k hk hn => by
      have : r ≠ k := fun e => hn (by simp [e])
      simp [Array.getElem?_setIfInBounds_ne this]⟩
  by_cases hm : x ∈ L
  · obtain ⟨j, e, hj, hke, hq⟩ := hf.2 hm
    have hve : e.val = .bool true := h3 e (List.mem_of_getElem? hj)
    have e1 := run_find (P := P) ht hk (w := w) x _ hq
    have hj' : es[j]? = some e := by simpa using hj
    have hmod : es.modify j (fun e => { e with key := .int .i64 x, val := .bool true }) = es := by
      apply Array.ext
      · simp
      · intro i a b
        rw [Array.getElem_modify]
        split
        · rename_i hij
          subst hij
          have : es[j] = e := by
            have := Array.getElem?_eq_getElem b
            rw [hj'] at this
            exact (Option.some.inj this).symm
          rw [this]
          cases e
          simp at hke hve
          simp [hke, hve]
        · rfl
    refine ⟨{ w with heap := w.heap.setIfInBounds r (.map es c) }, ?_, ?_, frame _⟩
    · unfold Instr.mapUpdate
      have hks : Instr.keyThatStays (.int .i64 x) (.int .i64 x) = pure (.int .i64 x) := by simp [Instr.keyThatStays, Instr.sameBits]
      simp only [Nat.zero_add] at e1
      simp [run_underlying ht, getObj, setObj, Sem.run, h1, run_check ht hk, e1, hj', hke, hks, hmod]
    · rw [if_pos hm]
      exact ⟨es, c, by simp [Array.getElem?_setIfInBounds, hr], h2, h3⟩
  · have e1 := run_find (P := P) ht hk (w := w) x _ (hf.1 hm)
    refine ⟨{ w with heap := w.heap.setIfInBounds r (.map (es.push { key := .int .i64 x, val := .bool true, born := c }) (c + 1)) }, ?_, ?_, frame _⟩
    · unfold Instr.mapUpdate
      simp [run_underlying ht, getObj, setObj, Sem.run, h1, run_check ht hk, e1]
    · rw [if_neg hm]
      refine ⟨es.push { key := .int .i64 x, val := .bool true, born := c }, c + 1, by simp [Array.getElem?_setIfInBounds, hr], by simp [h2], ?_⟩
      intro e he
      simp only [Array.toList_push, List.mem_append, List.mem_singleton] at he
      rcases he with he | rfl
      · exact h3 e he
      · rfl
omit hz in
theorem wpList_setm {ops : Array Oper} {rest : List Oper} {o : Oper} {a : Act} {Q : Exit → Act → World → Prop} {w : World} {r : Nat} {L : List Int} {x : Int}
    (hg : o.guard = none) (m kx vx : Operand) (hop : o.op = .mapUpdate t m kx vx ∨ o.op = .insert t m kx vx) (h : SetM w r L) (hm : a.eval m = .map (some r)) (hkx : a.eval kx = .int .i64 x) (hv : a.eval vx = .bool true)
    (hK : ∀ w', SetM w' r (if x ∈ L then L else L ++ [x]) → Fr w.heap.size [r] w w' → wpList P ops Q rest (a.put o.dst undef) w') : wpList P ops Q (o :: rest) a w := by
  refine wpList_plain hg fun K hK' => ?_
  obtain ⟨w', hrun, h1, h2⟩ := run_upd (P := P) ht hk h x
  unfold Oper.wp
  rcases hop with hop | hop <;> simp [execOp, hop, hm, hkx, hv, hrun, Result.andThen] <;> exact hK' _ _ (hK w' h1 h2)
end

end Go.Proofs.Ytgbnpdgaalpkcaa.K6
