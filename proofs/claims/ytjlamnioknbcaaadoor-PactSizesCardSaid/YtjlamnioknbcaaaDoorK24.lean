/- the wrap of a row that lists variables, the world's shape kept; arguments opened as lists -/
import Derived.Handed
import Derived.HandedShaped
import Derived.LaidMore
import Derived.Lay
import Derived.Stop.Joined
import Derived.SevenTiedAt
import Derived.Shelf.Vars
import Derived.Lib.Strings
import Derived.Test.YtjlamnioknbcaaaDoorK2
import Derived.Test.YtjlamnioknbcaaaDoorK8
import Derived.Test.YtjlamnioknbcaaaDoorK10
import Derived.Test.YtjlamnioknbcaaaDoorK15
import Derived.Test.YtjlamnioknbcaaaDoorK21
namespace Go.Proofs.YtjlamnioknbcaaaDoor.K24
set_option linter.unusedVariables false
set_option linter.unusedSimpArgs false
open Go.ChangeShapes Go.WideShapes Go.ChangeAt Go.RowKit K20 K21
theorem returns_laid {H : Type} {enc : TypeId × Value → H} {a : Assume} {C : Checked} {os : Os} {f : FuncId} {fn : Func} {s : ChangeSpec} {conds : List PathCond} {apart fresh handsOn again : Bool} {X : World → Array Value → Prop}
    (hX : ∀ (w w' : World) (args : Array Value), w.heap = w'.heap → X w args → X w' args)
    (own : ownKnob C.prog.godebug = none) (started : os.Started) (noInit : C.prog.inits.idxOf? f = none) (hfn : C.prog.funcs[f]? = some fn)
    (witness : ∃ (w : World) (tape : Tape) (i : Input), w.os = os ∧ (w.forCall tape i).Shaped C.prog ∧ i.vars = [] ∧ Input.okWide C.prog (w.forCall tape i) .any w.heap.size f i ∧
      ((s.pre enc C.prog fn conds apart (w.forCall tape i).memory i.args ∧ X (w.forCall tape i).memory i.args) ∧ sizedMet enc C.prog fn (OpenSpec.ofChange s) apart (w.forCall tape i).memory i.args) ∧ a.holds C.prog (lone (Frame.enter C.prog f i.args .normal) [] (w.forCall tape i)))
    (contract : ∀ (W : World) (base : Nat) (args : Array Value) (ds gs : List (DataW H)) (before : List MemPlace),
      (∀ (j : Nat) t v, fn.params[j]? = some t → args[j]? = some v → Value.okWide C.prog W .any base t v) →
      DataW.Whole enc C.prog fn.params.toList s.vars apart W args.toList ds gs before →
      (DataW.weightsEach C.prog (fn.params.toList ++ s.plain.varTypes C.prog) (ds ++ gs)).all (· ≤ reachBytes) = true → X W args → W.ShapedOpen C.prog →
      Calls C.prog f args W fun e W' => ∃ v, e = .returned v ∧ s.post enc C.prog fn apart fresh handsOn again W args v W') :
    ReturnsInHanded a C os f .any (fun w args => (s.pre enc C.prog fn conds apart w args ∧ X w args) ∧ sizedMet enc C.prog fn (OpenSpec.ofChange s) apart w args) (s.post enc C.prog fn apart fresh handsOn again) := by
  refine returnsInHanded_of_calls own started noInit witness ?_
  intro w tape i _ hsh _ hok hpre hholds
  obtain ⟨_, _, _, fn', hfn', _, _, _, _, hval⟩ := hok
  obtain rfl : fn' = fn := Option.some.inj (hfn'.symm.trans hfn)
  obtain ⟨⟨⟨ds, gs, before, hw, _⟩, hx⟩, hz⟩ := hpre
  have hw' := DataW.Whole.of_heap (w' := w.forCall tape i) (by rfl) hw
  refine (contract (w.forCall tape i) w.heap.size i.args ds gs before hval hw' (hz.weights hw) (hX _ _ _ (by rfl) hx) hsh).mono fun e W' ⟨v, he, hp⟩ => ?_
  subst he
  exact ChangeSpec.post_blind hp
theorem arr_eta (s : ByteArray) : (⟨s.data.toList.toArray⟩ : ByteArray) = s := by cases s; simp
/-- strings -/
theorem rd_strs {W : World} {a0 : Option Addr} {sb off len cap : Nat} {L : Nat → ByteArray} (e1 : a0 = some ⟨sb, off, none⟩ ∨ len = 0) (e2 : len ≤ cap) (e4 : ∀ k, k < len → W.cell? ⟨sb, off + k, none⟩ = some (.string (L k))) (e6 : 0 < len → sb < W.heap.size) :
    ∃ l : List (List UInt8), l.length = len ∧ l = (List.range len).map (fun k => (L k).data.toList) ∧ Rd 1 strE W (.slice a0 len cap) l := by
  refine ⟨_, by simp, rfl, ?_⟩
  by_cases h0 : len = 0
  · subst h0
    exact ⟨a0, cap, rfl, by simp, .inl rfl⟩
  · rcases e1 with rfl | e1
    · exact Rd.list (u := fun k => .string (L k)) (fun k _ => by simp [strE, arr_eta]) e2 (e6 (by omega)) e4
    · exact absurd e1 h0
theorem strs_le {len : Nat} {L : Nat → ByteArray} {B : Nat} (h : ∀ k, k < len → (L k).size ≤ B) : ∀ l ∈ (List.range len).map (fun k => (L k).data.toList), l.length ≤ B := by
  intro l hl
  obtain ⟨k, hk, rfl⟩ := List.mem_map.1 hl
  simpa using h k (by simpa using hk)
end Go.Proofs.YtjlamnioknbcaaaDoor.K24
