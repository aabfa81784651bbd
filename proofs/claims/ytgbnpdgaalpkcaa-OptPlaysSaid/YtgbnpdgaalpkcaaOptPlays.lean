/- 'OptPlays': for every input the law returns true, and each argument reads behind the call as it read before.
  Conditions: none beyond the row's own. -/
import Derived.Test.YtgbnpdgaalpkcaaRows
import Derived.Test.YtgbnpdgaalpkcaaK2
import Derived.Test.YtgbnpdgaalpkcaaO8
import Derived.Test.YtgbnpdgaalpkcaaK4
set_option linter.unusedVariables false
namespace Go.Proofs.Ytgbnpdgaalpkcaa.optPlays
open Go.ChangeShapes Go.WideShapes Go.ChangeAt Go.RowKit Go.Joins
open Go.ChangeMaps (open_string shut_string)
open K2
theorem cells27 : Try.prog.cellsOf 27 = 3 := by kernel_rfl
theorem ops_plays {H : Type} {enc : TypeId × Value → H} {W : World} {a0 : Option Addr} {len cap : Nat} {d0 : DataW H} {p0 : List MemPlace}
    (h0 : DataW.Trod enc Try.prog W 0 (fun _ => true) true 22 (.slice a0 len cap) d0 p0) :
    Calls Try.prog 3 #[.slice a0 len cap] W fun e w' => e = .returned (.bool true) ∧ Below W.heap.size W w' := by
  obtain ⟨fuel, hf⟩ := h0
  rcases K4.open_slice_fields Try.underlying22 Try.underlying27 (by kernel_rfl) cells27 hf with ⟨hcs, hx⟩ | ⟨a, len', cap', m, D, Pl, hcs, hb, hl, hm, hmm, hx, hi⟩
  · simp [Value.cells] at hcs
    obtain ⟨rfl, rfl, rfl⟩ := hcs
    exact O8.plays_any none 0 0 0 0 (fun _ => false) (fun _ => false) (fun _ => false) W (.inr rfl) (Nat.le_refl _) (fun h => by omega) (fun k h => by omega)
  · simp [Value.cells] at hcs
    obtain ⟨rfl, rfl, rfl⟩ := hcs
    simp only [if_true] at hmm
    have key : ∀ i : Nat, ∃ t : Bool × Bool × Bool, i < len → W.cell? (a.add (i * 3)) = some (.bool t.1) ∧ W.cell? (a.add (i * 3 + 1)) = some (.bool t.2.1) ∧ W.cell? (a.add (i * 3 + 2)) = some (.bool t.2.2) := by
      intro i
      by_cases hil : i < len
      · obtain ⟨ys, n, _, _, hylen, hfld⟩ := hi i (by omega)
        obtain ⟨v0, y0, c0, _, t0⟩ := hfld 0 _ rfl
        obtain ⟨v1, y1, c1, _, t1⟩ := hfld 1 _ rfl
        obtain ⟨v2, y2, c2, _, t2⟩ := hfld 2 _ rfl
        obtain ⟨x0, e0, -⟩ := DataW.trod_bool Try.underlying4 t0
        obtain ⟨x1, e1, -⟩ := DataW.trod_bool Try.underlying4 t1
        obtain ⟨x2, e2, -⟩ := DataW.trod_bool Try.underlying4 t2
        simp only [List.cons.injEq, and_true] at e0 e1 e2
        subst e0 e1 e2
        exact ⟨(x0, x1, x2), fun _ => ⟨c0, c1, c2⟩⟩
      · exact ⟨(false, false, false), fun h => absurd h hil⟩
    obtain ⟨f, hfn⟩ := Classical.axiomOfChoice key
    by_cases hz : len = 0
    · subst hz
      exact O8.plays_any (some a) 0 0 0 _ (fun _ => false) (fun _ => false) (fun _ => false) W (.inr rfl) (Nat.zero_le _) (fun h => by omega) (fun k h => by omega)
    · have h0 := (hfn 0 (by omega)).1
      have ha : a.add (0 * 3) = a := by simp [Addr.add]
      rw [ha] at h0
      have hp := K4.addr_plain h0
      have hlt := World.block_lt_of_cell? W _ h0
      generalize a.block = b at *
      generalize a.off = o at *
      subst hp
      refine O8.plays_any _ b o len cap (fun i => (f i).1) (fun i => (f i).2.1) (fun i => (f i).2.2) W (.inl rfl) hl (fun _ => hlt) (fun k hk => ?_)
      obtain ⟨q0, q1, q2⟩ := hfn k hk
      rw [K4.add_plain] at q0 q1 q2
      exact ⟨q0, q1, q2⟩

theorem own : ownKnob Try.prog.godebug = none := by kernel_rfl
theorem laid : laidOutB Try.prog = true := by kernel_rfl
theorem rows : (Try.f3.params.toList.all fun t => Try.prog.readableRec t && decide (t < Try.prog.types.size)) = true := by kernel_rfl
set_option maxRecDepth 100000 in
theorem lifted (os : Os) (started : os.Started) (H : Type) (enc : TypeId × Value → H) :
    ReturnsInHanded {} Try.checked os 3 .any (Rows.optPlaysSpec.pre6 enc Try.prog Try.f3 Rows.optPlaysRow.domain false) (Rows.optPlaysSpec.post enc Try.prog Try.f3 false true false false) := by
  refine returnsInHanded_of_change_sized (C := Try.checked) own started (by kernel_rfl) Try.func3
    (ChangeSpec.witness6 (enc := enc) (C := Try.checked) false ⟨#[], #[.slice none 0 0], []⟩ 8 (by kernel_rfl) (by kernel_rfl) (by kernel_rfl) (by kernel_rfl)) ?_
  intro W base args ds gs before hval0 hW hcnd hsz0 _
  have hsz : (DataW.weightsEach Try.prog (Try.f3.params.toList ++ Rows.optPlaysSpec.plain.varTypes Try.prog) (ds ++ gs)).all (· ≤ reachBytes) = true := hsz0
  have hval : ∀ (j : Nat) t v, Try.f3.params[j]? = some t → args[j]? = some v → Value.okWide Try.prog W .any base t v := hval0
  have hW' := hW
  obtain ⟨p, q, hA0, hV, rfl, hfz, hnd⟩ := hW
  have hA : DataW.TrodAll enc Try.prog W 0 (fun _ => true) true Try.f3.params.toList args.toList ds p := hA0
  rw [Try.params3] at hA hval hsz
  obtain ⟨v0, vs0, d0, ds0, p0, q0, hargs, rfl, rfl, h0, r0⟩ := trodAll_cons hA
  obtain ⟨rfl, rfl, rfl⟩ := trodAll_nil r0
  obtain rfl : args = #[v0] := by cases args; simp_all
  obtain ⟨rfl, rfl⟩ := trodVars_none hV
  obtain ⟨a0, len, cap, rfl⟩ := okWide_slice Try.underlying22 (hval 0 22 v0 rfl rfl)
  have walk := ops_plays h0
  refine (walk).mono fun e W' ⟨he, bel⟩ => ?_
  subst he
  exact ⟨_, rfl, law_post laid rows Try.underlying4 rfl rfl hW' rfl bel⟩
theorem over : Rows.optPlaysRow.holds Try.pinned (OpenSpec.ofChange Rows.optPlaysSpec) :=
  OpenClaim.holds_of_wide 3 Try.f3 rfl rfl rfl rfl rfl rfl rfl ⟨rfl, rfl, rfl, rfl, rfl⟩ rfl rfl rfl rfl rfl (by kernel_rfl) Try.func3 (by kernel_rfl)
    (of_decide_eq_true (by kernel_rfl)) (by unfold Func.isWrapper; first | (rw [if_pos (by decide +kernel)]; kernel_rfl) | (rw [if_neg (by decide +kernel)]; exact ⟨rfl, rfl⟩))
    (fun os started H enc _ => lifted os started H enc)
end Go.Proofs.Ytgbnpdgaalpkcaa.optPlays
namespace Go.Proofs.Ytgbnpdgaalpkcaa
theorem optPlays_holds : Rows.OptPlaysSaid := optPlays.over
#print axioms optPlays_holds
end Go.Proofs.Ytgbnpdgaalpkcaa
