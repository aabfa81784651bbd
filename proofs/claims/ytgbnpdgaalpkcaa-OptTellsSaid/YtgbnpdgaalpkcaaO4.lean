/- laws of opt: OptTells -/
import Derived.Test.YtgbnpdgaalpkcaaO2
namespace Go.Proofs.Ytgbnpdgaalpkcaa.O4
open Go.RowKit O1 K1 O2
theorem quiet_of {P : Program} {o : Oper} {a : Act} {C : World → Prop} {K : Act → Prop} (v : Value) (h1 : ∀ w, C w → o.quietAt P a C w v) (h2 : K (a.put o.dst v)) : o.quiet P a C K := ⟨v, h1, h2⟩
theorem hush_skip {P : Program} {ops : Array Oper} {o : Oper} {a : Act} {C : World → Prop} {K : Act → Prop} (h : Region.wanted o (yielded ops a.tmps) = false) (hK : K (a.put o.dst undef)) :
    if Region.wanted o (yielded ops a.tmps) then o.quiet P a C K else K (a.put o.dst undef) := by rw [h]; exact hK
theorem hush_do {P : Program} {ops : Array Oper} {o : Oper} {a : Act} {C : World → Prop} {K : Act → Prop} (h : Region.wanted o (yielded ops a.tmps) = true) (h1 : ∃ v, (∀ w, C w → o.quietAt P a C w v) ∧ K (a.put o.dst v)) :
    if Region.wanted o (yielded ops a.tmps) then o.quiet P a C K else K (a.put o.dst undef) := by rw [h]; exact h1

attribute [local go_sem] cell_pastA froz_pastA
set_option maxHeartbeats 4000000 in
theorem tells_any (s : Int) (o a b c : Bool) (w : World) :
    Calls Try.prog 5 #[.int .i64 s, .bool o, .agg #[.bool a, .bool b, .bool c]] w fun e w' => e = .returned (.bool true) ∧ Below w.heap.size w w' := by
  go_enter Try.func5, Try.ntmps5
  go_wp2_with (first | (go_at_call 13; refine (alive_any _).mono ?_; rintro e w1 ⟨rfl, hb1⟩; obtain ⟨hc1, hf1, hz1⟩ := aft hb1; try simp only [World.size_alloc] at hz1) | (go_at_call 15; refine (heard_any _ _ _ _ _).mono ?_; rintro e w2 ⟨rfl, hb2⟩; obtain ⟨hc2, hf2, hz2⟩ := aft hb2; try simp only [World.size_alloc] at hz2) | (go_at_call 17; refine (rheard_any _ _ _ _ _).mono ?_; rintro e w3 ⟨rfl, hb3⟩; obtain ⟨hc3, hf3, hz3⟩ := aft hb3; try simp only [World.size_alloc] at hz3) | (go_at_call 14; refine (ask_any _ _ _ _).mono ?_; rintro e w4 ⟨rfl, hb4⟩; obtain ⟨hc4, hf4, hz4⟩ := aft hb4; try simp only [World.size_alloc] at hz4) | (go_at_call 18; refine (rask_any _ _ _ _).mono ?_; rintro e w5 ⟨rfl, hb5⟩; obtain ⟨hc5, hf5, hz5⟩ := aft hb5; try simp only [World.size_alloc] at hz5))
  refine wp_region_quiet (C := fun x => Below (w5.heap.size + 1) (w5.alloc (Obj.cells #[Value.int IntKind.i64 (askF s o b).fst.fst, Value.bool (askF s o b).fst.snd] 33)) x) (by kernel_rfl) (by kernel_rfl) (Below.drew (Below.refl _ _)) ?_
  iterate 41 (refine wpQuiet_step (fun K hK => ?_); (first | (refine hush_skip ?_ ?_; (focus (go_simp; done)); (try go_simp); refine hK _ ?_; clear hK K) | (refine hush_do ?_ ?_; (focus (go_simp; done)); apply Exists.intro; refine ⟨fun wx hwx => ?_, ?_⟩; (focus ((have hcx := cellA hwx); (try simp [go_sem, BigFrame.eval_const, BigFrame.eval_global, BigFrame.eval_func, ↓IntWalk.iteOmega, *]); (first | done | rfl | first | (go_at_call 16; refine (valid_any _ _ _).mono ?_; rintro e w2 ⟨rfl, rfl⟩; exact ⟨rfl, hwx.alloc (by have := hwx.size; simp only [World.size_alloc] at this; exact this) _⟩) | (go_at_call 19; refine (rvalid_any _ _ _).mono ?_; rintro e w2 ⟨rfl, rfl⟩; exact ⟨rfl, hwx.alloc (by have := hwx.size; simp only [World.size_alloc] at this; exact this) _⟩) | (go_at_call 20; refine (ison_any _ _ _).mono ?_; rintro e w2 ⟨rfl, hbx⟩; exact ⟨rfl, hwx.trans (hbx.mono (by have := hwx.size; simp only [World.size_alloc] at this; exact this))⟩) | (trace_state; fail)))); (try go_simp); refine hK _ ?_; clear hK K)))
  refine wpQuiet_nil ?_
  intro w6 hb6
  go_wp2
  go_ret
  refine ⟨rfl, ?_⟩
  simp only [World.size_alloc] at hb1 hb2 hb3 hb4 hb5 hb6
  repeat' (first | exact Below.refl _ _ | apply Below.alloc | (refine Below.trans ?_ (Below.mono (by assumption) ?_)) | (simp only [World.size_alloc]; omega) | omega)
end Go.Proofs.Ytgbnpdgaalpkcaa.O4
