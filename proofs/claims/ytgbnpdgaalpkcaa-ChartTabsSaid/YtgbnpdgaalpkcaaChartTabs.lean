/- 'ChartTabs': for every input the law returns true, and each argument reads behind the call as it read before.
  Conditions: none beyond the row's own. -/
import Derived.Test.YtgbnpdgaalpkcaaRows
import Derived.Test.YtgbnpdgaalpkcaaK2
import Derived.Test.YtgbnpdgaalpkcaaM5
import Derived.Test.YtgbnpdgaalpkcaaK4
set_option linter.unusedVariables false
namespace Go.Proofs.Ytgbnpdgaalpkcaa.chartTabs
open Go.ChangeShapes Go.WideShapes Go.ChangeAt Go.RowKit Go.Joins
open Go.ChangeMaps (open_string shut_string)
open K2
theorem cells3 : Try.prog.cellsOf 3 = 1 := by kernel_rfl
theorem ints_tabs (n : Int) {H : Type} {enc : TypeId × Value → H} {W : World} {a0 : Option Addr} {len cap : Nat} {d0 : DataW H} {p0 : List MemPlace}
    (h0 : DataW.Trod enc Try.prog W 0 (fun _ => true) true 43 (.slice a0 len cap) d0 p0) :
    Calls Try.prog 8 #[.int .i64 n, .slice a0 len cap] W fun e w' => e = .returned (.bool true) ∧ Below W.heap.size W w' := by
  obtain ⟨fuel, hf⟩ := h0
  rcases open_ints Try.underlying43 Try.underlying3 cells3 hf with ⟨hcs, hx⟩ | ⟨a, len', cap', zs, hcs, _, hl, hm, hz, hx, hcell, hwz⟩
  · simp [Value.cells] at hcs
    obtain ⟨rfl, rfl, rfl⟩ := hcs
    exact M5.tabs_any n none 0 0 0 0 (fun _ => 0) W (.inr rfl) (Nat.le_refl _) (by omega) (fun k h => by omega) (fun h => by omega)
  · simp [Value.cells] at hcs
    obtain ⟨rfl, rfl, rfl⟩ := hcs
    unfold maxLen at hm
    by_cases hz0 : len = 0
    · subst hz0
      exact M5.tabs_any n (some a) 0 0 0 _ (fun _ => 0) W (.inr rfl) (Nat.zero_le _) (by omega) (fun k h => by omega) (fun h => by omega)
    · simp only [if_true] at hz
      have h0 := hcell 0 (by omega)
      have ha : a.add 0 = a := by simp [Addr.add]
      rw [ha] at h0
      have hp := K4.addr_plain h0
      have hlt := World.block_lt_of_cell? W _ h0
      generalize a.block = b at *
      generalize a.off = o at *
      subst hp
      refine M5.tabs_any n _ b o len cap (fun i => zs.getD i 0) W (.inl rfl) hl (by omega) (fun k hk => ?_) (fun _ => hlt)
      have := hcell k (by omega)
      rwa [K4.add_plain] at this

theorem own : ownKnob Try.prog.godebug = none := by kernel_rfl
theorem laid : laidOutB Try.prog = true := by kernel_rfl
theorem rows : (Try.f8.params.toList.all fun t => Try.prog.readableRec t && decide (t < Try.prog.types.size)) = true := by kernel_rfl
set_option maxRecDepth 100000 in
theorem lifted (os : Os) (started : os.Started) (H : Type) (enc : TypeId × Value → H) :
    ReturnsInHanded {} Try.checked os 8 .any (Rows.chartTabsSpec.pre6 enc Try.prog Try.f8 Rows.chartTabsRow.domain false) (Rows.chartTabsSpec.post enc Try.prog Try.f8 false true false false) := by
  refine returnsInHanded_of_change_sized (C := Try.checked) own started (by kernel_rfl) Try.func8
    (ChangeSpec.witness6 (enc := enc) (C := Try.checked) false ⟨#[], #[.int .i64 0, .slice none 0 0], []⟩ 8 (by kernel_rfl) (by kernel_rfl) (by kernel_rfl) (by kernel_rfl)) ?_
  intro W base args ds gs before hval0 hW hcnd hsz0 _
  have hsz : (DataW.weightsEach Try.prog (Try.f8.params.toList ++ Rows.chartTabsSpec.plain.varTypes Try.prog) (ds ++ gs)).all (· ≤ reachBytes) = true := hsz0
  have hval : ∀ (j : Nat) t v, Try.f8.params[j]? = some t → args[j]? = some v → Value.okWide Try.prog W .any base t v := hval0
  have hW' := hW
  obtain ⟨p, q, hA0, hV, rfl, hfz, hnd⟩ := hW
  have hA : DataW.TrodAll enc Try.prog W 0 (fun _ => true) true Try.f8.params.toList args.toList ds p := hA0
  rw [Try.params8] at hA hval hsz
  obtain ⟨v0, vs0, d0, ds0, p0, q0, hargs, rfl, rfl, h0, r0⟩ := trodAll_cons hA
  obtain ⟨v1, vs1, d1, ds1, p1, q1, rfl, rfl, rfl, h1, r1⟩ := trodAll_cons r0
  obtain ⟨rfl, rfl, rfl⟩ := trodAll_nil r1
  obtain rfl : args = #[v0, v1] := by cases args; simp_all
  obtain ⟨rfl, rfl⟩ := trodVars_none hV
  obtain ⟨n, rfl, rfl, rfl, wn⟩ := open_int Try.underlying3 (hval 0 3 v0 rfl rfl) h0
  obtain ⟨a0, len, cap, rfl⟩ := okWide_slice Try.underlying43 (hval 1 43 v1 rfl rfl)
  have walk := ints_tabs n h1
  refine (walk).mono fun e W' ⟨he, bel⟩ => ?_
  subst he
  exact ⟨_, rfl, law_post laid rows Try.underlying4 rfl rfl hW' rfl bel⟩
theorem over : Rows.chartTabsRow.holds Try.pinned (OpenSpec.ofChange Rows.chartTabsSpec) :=
  OpenClaim.holds_of_wide 8 Try.f8 rfl rfl rfl rfl rfl rfl rfl ⟨rfl, rfl, rfl, rfl, rfl⟩ rfl rfl rfl rfl rfl (by kernel_rfl) Try.func8 (by kernel_rfl)
    (of_decide_eq_true (by kernel_rfl)) (by unfold Func.isWrapper; first | (rw [if_pos (by decide +kernel)]; kernel_rfl) | (rw [if_neg (by decide +kernel)]; exact ⟨rfl, rfl⟩))
    (fun os started H enc _ => lifted os started H enc)
end Go.Proofs.Ytgbnpdgaalpkcaa.chartTabs
namespace Go.Proofs.Ytgbnpdgaalpkcaa
theorem chartTabs_holds : Rows.ChartTabsSaid := chartTabs.over
#print axioms chartTabs_holds
end Go.Proofs.Ytgbnpdgaalpkcaa
