/- 'OptTwo': for every input the law returns true, and each argument reads behind the call as it read before.
  Conditions: none beyond the row's own. -/
import Derived.Test.YtgbnpdgaalpkcaaRows
import Derived.Test.YtgbnpdgaalpkcaaK2
import Derived.Test.YtgbnpdgaalpkcaaO10f
import Derived.Test.YtgbnpdgaalpkcaaO10tt
import Derived.Test.YtgbnpdgaalpkcaaO10tf
import Derived.Test.YtgbnpdgaalpkcaaK13
set_option linter.unusedVariables false
namespace Go.Proofs.Ytgbnpdgaalpkcaa.optTwo
open Go.ChangeShapes Go.WideShapes Go.ChangeAt Go.RowKit Go.Joins
open Go.ChangeMaps (open_string shut_string)
open K2
theorem cells4 : Try.prog.cellsOf 4 = 1 := by kernel_rfl
theorem two_all (agree : Bool) (ao : Option Addr) (sb off N cap : Nat) (W : Nat → Bool) (w : World) (hao : ao = some ⟨sb, off, none⟩ ∨ N = 0) (hcap : N ≤ cap) (hNb : N ≤ 9223372036854775807)
    (hc : ∀ k, k < N → w.cell? ⟨sb, off + k, none⟩ = some (.bool (W k))) (hsb : 0 < N → sb < w.heap.size) :
    Calls Try.prog 6 #[.slice ao N cap, .bool agree] w fun e w' => e = .returned (.bool true) ∧ Below w.heap.size w w' := by
  cases agree
  · exact O10f.two_any false rfl ao sb off N cap W w hao hcap hNb hc hsb
  · cases hq : O10tt.last W N
    · exact O10tf.two_any true rfl ao sb off N cap W w hao hcap hNb hc hsb hq
    · exact O10tt.two_any true rfl ao sb off N cap W w hao hcap hNb hc hsb hq

theorem own : ownKnob Try.prog.godebug = none := by kernel_rfl
theorem laid : laidOutB Try.prog = true := by kernel_rfl
theorem rows : (Try.f6.params.toList.all fun t => Try.prog.readableRec t && decide (t < Try.prog.types.size)) = true := by kernel_rfl
set_option maxRecDepth 100000 in
theorem lifted (os : Os) (started : os.Started) (H : Type) (enc : TypeId × Value → H) :
    ReturnsInHanded {} Try.checked os 6 .any (Rows.optTwoSpec.pre6 enc Try.prog Try.f6 Rows.optTwoRow.domain false) (Rows.optTwoSpec.post enc Try.prog Try.f6 false true false false) := by
  refine returnsInHanded_of_change_sized (C := Try.checked) own started (by kernel_rfl) Try.func6
    (ChangeSpec.witness6 (enc := enc) (C := Try.checked) false ⟨#[], #[.slice none 0 0, .bool false], []⟩ 8 (by kernel_rfl) (by kernel_rfl) (by kernel_rfl) (by kernel_rfl)) ?_
  intro W base args ds gs before hval0 hW hcnd hsz0 _
  have hsz : (DataW.weightsEach Try.prog (Try.f6.params.toList ++ Rows.optTwoSpec.plain.varTypes Try.prog) (ds ++ gs)).all (· ≤ reachBytes) = true := hsz0
  have hval : ∀ (j : Nat) t v, Try.f6.params[j]? = some t → args[j]? = some v → Value.okWide Try.prog W .any base t v := hval0
  have hW' := hW
  obtain ⟨p, q, hA0, hV, rfl, hfz, hnd⟩ := hW
  have hA : DataW.TrodAll enc Try.prog W 0 (fun _ => true) true Try.f6.params.toList args.toList ds p := hA0
  rw [Try.params6] at hA hval hsz
  obtain ⟨v0, vs0, d0, ds0, p0, q0, hargs, rfl, rfl, h0, r0⟩ := trodAll_cons hA
  obtain ⟨v1, vs1, d1, ds1, p1, q1, rfl, rfl, rfl, h1, r1⟩ := trodAll_cons r0
  obtain ⟨rfl, rfl, rfl⟩ := trodAll_nil r1
  obtain rfl : args = #[v0, v1] := by cases args; simp_all
  obtain ⟨rfl, rfl⟩ := trodVars_none hV
  obtain ⟨nn, rfl, rfl, rfl⟩ := open_bool Try.underlying4 (hval 1 4 v1 rfl rfl) h1
  obtain ⟨a0, len, cap, rfl⟩ := okWide_slice Try.underlying38 (hval 0 38 v0 rfl rfl)
  obtain ⟨sb, off, L, e1, e2, e3, e4, e6⟩ := K13.open_bools1 Try.underlying38 Try.underlying4 cells4 h0
  have walk := two_all nn a0 sb off len cap L W e1 e2 e3 e4 e6
  refine (walk).mono fun e W' ⟨he, bel⟩ => ?_
  subst he
  exact ⟨_, rfl, law_post laid rows Try.underlying4 rfl rfl hW' rfl bel⟩
theorem over : Rows.optTwoRow.holds Try.pinned (OpenSpec.ofChange Rows.optTwoSpec) :=
  OpenClaim.holds_of_wide 6 Try.f6 rfl rfl rfl rfl rfl rfl rfl ⟨rfl, rfl, rfl, rfl, rfl⟩ rfl rfl rfl rfl rfl (by kernel_rfl) Try.func6 (by kernel_rfl)
    (of_decide_eq_true (by kernel_rfl)) (by unfold Func.isWrapper; first | (rw [if_pos (by decide +kernel)]; kernel_rfl) | (rw [if_neg (by decide +kernel)]; exact ⟨rfl, rfl⟩))
    (fun os started H enc _ => lifted os started H enc)
end Go.Proofs.Ytgbnpdgaalpkcaa.optTwo
namespace Go.Proofs.Ytgbnpdgaalpkcaa
theorem optTwo_holds : Rows.OptTwoSaid := optTwo.over
#print axioms optTwo_holds
end Go.Proofs.Ytgbnpdgaalpkcaa
