/- contracts of lazy -/
import Derived.Test.YtgbnpdgaalpkcaaL2
import Derived.Test.YtgbnpdgaalpkcaaK7
import Derived.Laws.EntriesVeiled
namespace Go.Proofs.Ytgbnpdgaalpkcaa.L3
set_option linter.unusedVariables false
set_option linter.unusedSimpArgs false
open Go.RowKit K1 K3 K5 K7 L1 L2
attribute [local go_sem] cell_pastA froz_pastA

theorem neq_nil (w : World) : (binOp .neq 94 .nilFunc .nilFunc).run Try.prog w = .ok (.bool false) w := by kernel_rfl
theorem neq_func (K : Nat) (a c : Array Value) (w : World) : (binOp .neq 94 (.func (.func K) a c) .nilFunc).run Try.prog w = .ok (.bool true) w := by kernel_rfl
set_option maxRecDepth 100000 in
set_option maxHeartbeats 2000000 in
theorem fill_nil (b off : Nat) (w : World) (h3 : w.cell? ⟨b, off + 3, none⟩ = some (.int .i64 0)) (f3 : w.frozen? ⟨b, off + 3, none⟩ = false) (hb : b < w.heap.size) :
    Calls Try.prog 90 #[.agg #[.pointer (some ⟨b, off, none⟩), .nilFunc]] w fun e w' => e = .returned (.tuple #[]) ∧ ∃ x, Below w.heap.size w x ∧ w' = x.setCell ⟨b, off + 3, none⟩ (.int .i64 1) := by
  have hn := neq_nil
  go_enter Try.func90, Try.ntmps90
  go_wp2_with fail
  refine (swap_any b (off + 3) 0 1 _ (by (first | (simp [go_sem, BigFrame.eval_const, BigFrame.eval_global, BigFrame.eval_func, ↓IntWalk.iteOmega, *]; done) | (simp [go_sem, BigFrame.eval_const, BigFrame.eval_global, BigFrame.eval_func, ↓IntWalk.iteOmega, *]; intros; omega) | (simp [go_sem, BigFrame.eval_const, BigFrame.eval_global, BigFrame.eval_func, ↓IntWalk.iteOmega, *]; intros; exfalso; omega))) (by (first | (simp [go_sem, BigFrame.eval_const, BigFrame.eval_global, BigFrame.eval_func, ↓IntWalk.iteOmega, *]; done) | (simp [go_sem, BigFrame.eval_const, BigFrame.eval_global, BigFrame.eval_func, ↓IntWalk.iteOmega, *]; intros; omega) | (simp [go_sem, BigFrame.eval_const, BigFrame.eval_global, BigFrame.eval_func, ↓IntWalk.iteOmega, *]; intros; exfalso; omega)))).mono ?_
  rintro e wx ⟨rfl, rfl⟩
  go_wp2_with fail
  go_end0
  exact ⟨rfl, w.alloc (Obj.cells #[Value.pointer (some ⟨b, off, none⟩), Value.nilFunc] 131), (Below.refl _ _).alloc (Nat.le_refl _) _, by (first | (simp [go_sem, BigFrame.eval_const, BigFrame.eval_global, BigFrame.eval_func, ↓IntWalk.iteOmega, *]; done) | (simp [go_sem, BigFrame.eval_const, BigFrame.eval_global, BigFrame.eval_func, ↓IntWalk.iteOmega, *]; intros; omega) | (simp [go_sem, BigFrame.eval_const, BigFrame.eval_global, BigFrame.eval_func, ↓IntWalk.iteOmega, *]; intros; exfalso; omega))⟩
set_option maxRecDepth 100000 in
set_option maxHeartbeats 4000000 in
theorem fill_call (b off K cb : Nat) (capt : Array Value) (s : ByteArray) (Z : World → Prop) (w : World) (hs : s.size ≤ 281474976710656)
    (h3 : w.cell? ⟨b, off + 3, none⟩ = some (.int .i64 0)) (f3 : w.frozen? ⟨b, off + 3, none⟩ = false) (s0 : Value) (h4 : w.cell? ⟨b, off + 4, none⟩ = some s0) (f4 : w.frozen? ⟨b, off + 4, none⟩ = false) (hb : b < w.heap.size) (hcb : b ≠ cb) (hcB : cb < w.heap.size) (HZ : ∀ x y, Z x → Below x.heap.size x y → Z y)
    (HK : ∀ x, Below w.heap.size w x → Calls Try.prog K capt x fun e w' => e = .returned (.string s) ∧ Fr x.heap.size [cb] x w' ∧ Z w') (HC : ∀ x, (callFunc K capt).run Try.prog x = .ok (.enter K capt) x) :
    Calls Try.prog 90 #[.agg #[.pointer (some ⟨b, off, none⟩), .func (.func K) #[] capt]] w fun e w' => e = .returned (.tuple #[]) ∧ ∃ x, Fr w.heap.size [cb] w x ∧ Z x ∧ w' = (x.setCell ⟨b, off + 4, none⟩ (.string s)).setCell ⟨b, off + 3, none⟩ (.int .i64 1) := by
  have hn := fun w => neq_func K #[] capt w
  go_enter Try.func90, Try.ntmps90
  go_wp2_with fail
  obtain ⟨W, hW⟩ : ∃ W, W = w.alloc (Obj.cells #[Value.pointer (some ⟨b, off, none⟩), Value.func (Fn.func K) #[] capt] 131) := ⟨_, rfl⟩
  have hWs : W.heap.size = w.heap.size + 1 := by rw [hW]; simp
  have hWb : Below w.heap.size w W := by rw [hW]; exact (Below.refl _ _).alloc (Nat.le_refl _) _
  have g0 : W.cell? ⟨w.heap.size, 0, none⟩ = some (.pointer (some ⟨b, off, none⟩)) := by rw [hW]; simp
  have g1 : W.cell? ⟨w.heap.size, 1, none⟩ = some (.func (.func K) #[] capt) := by rw [hW]; simp
  rw [← hW]
  have HW := Lib.hid hW
  clear hW
  refine wp_region_eff_tail (fun x => Fr W.heap.size [cb] W x) (fun q x => match q with | false => Below W.heap.size W x | true => Fr W.heap.size [cb] W x ∧ Z x) 4 8 (by kernel_rfl) (by kernel_rfl) (by decide) (fun _ _ dx _ _ hx => by cases dx <;> exact hx) ⟨fun q x hq => by cases q; exact Fr.of_below hq; exact hq.1, fun q x y hq hxy => by cases q; exact hq.trans (hxy.mono hq.size); exact ⟨hq.1.trans (.of_below (hxy.mono hq.1.size)), HZ _ _ hq.2 hxy⟩⟩ (Below.drew (Below.refl _ _)) ?_
  simp only [List.take_succ_cons, List.take_zero, List.drop_succ_cons, List.drop_zero]
  iterate 4 (first | (refine wpY_skip (by decide) ?_ ?_; (focus (go_simp; done)); (try go_simp)) | (refine wpY_do (by decide) ?_ ?_; (focus (go_simp; done)); apply Exists.intro; refine ⟨fun wx hwx => ?_, ?_⟩; (focus ((have hcx := hwx.cellA); try simp [hWs] at hcx; unfold hushAt; (try simp [go_sem, BigFrame.eval_const, BigFrame.eval_global, BigFrame.eval_func, ↓IntWalk.iteOmega, *]); (try simp [hushUpon]); (first | done | rfl | fail))); (try go_simp)))
  refine wpY_eff rfl ?_ ?_
  · go_simp
  apply Exists.intro
  refine ⟨fun x hx => ?_, ?_⟩
  · unfold effAt
    simp [go_sem, BigFrame.eval_const, BigFrame.eval_global, BigFrame.eval_func, effUpon, HC]
    refine (HK x (hWb.trans (Below.mono hx (by omega)))).mono ?_
    rintro e w' ⟨rfl, hF, hz⟩
    have hF1 : Fr W.heap.size [cb] W x := Fr.of_below (Below.mono hx (by omega))
    have hF2 : Fr W.heap.size [cb] W w' := hF1.trans (hF.mono hF1.size (by simp))
    rw [hWs] at hF2
    exact ⟨rfl, hF2, hz⟩
  try go_simp
  iterate 3 (first | (refine wpY_skip (by decide) ?_ ?_; (focus (go_simp; done)); (try go_simp)) | (refine wpY_do (by decide) ?_ ?_; (focus (go_simp; done)); apply Exists.intro; refine ⟨fun wx hwx => ?_, ?_⟩; (focus ((have hcx := hwx.cellA); try simp [hWs] at hcx; unfold hushAt; (try simp [go_sem, BigFrame.eval_const, BigFrame.eval_global, BigFrame.eval_func, ↓IntWalk.iteOmega, *]); (try simp [hushUpon]); (first | done | rfl | (go_at_call 110; refine (clone_any _ _ hs).mono ?_; rintro e wy ⟨rfl, hby⟩; exact ⟨rfl, hby⟩)))); (try go_simp)))
  refine wpY_nil ?_
  intro x hx hz
  have hF : Fr W.heap.size [cb] W x := by rw [hWs]; exact hx
  have hcx := hF.cellA
  have hfx := hF.frozA
  have hzx := hF.size
  simp [hWs] at hcx hfx hzx
  rw [HW.out] at hcx hfx
  go_wp2_with fail
  refine (swap_any b (off + 3) 0 1 _ (by (first | (simp [go_sem, BigFrame.eval_const, BigFrame.eval_global, BigFrame.eval_func, ↓IntWalk.iteOmega, *]; done) | (simp [go_sem, BigFrame.eval_const, BigFrame.eval_global, BigFrame.eval_func, ↓IntWalk.iteOmega, *]; intros; omega) | (simp [go_sem, BigFrame.eval_const, BigFrame.eval_global, BigFrame.eval_func, ↓IntWalk.iteOmega, *]; intros; exfalso; omega))) (by (first | (simp [go_sem, BigFrame.eval_const, BigFrame.eval_global, BigFrame.eval_func, ↓IntWalk.iteOmega, *]; done) | (simp [go_sem, BigFrame.eval_const, BigFrame.eval_global, BigFrame.eval_func, ↓IntWalk.iteOmega, *]; intros; omega) | (simp [go_sem, BigFrame.eval_const, BigFrame.eval_global, BigFrame.eval_func, ↓IntWalk.iteOmega, *]; intros; exfalso; omega)))).mono ?_
  rintro e wx ⟨rfl, rfl⟩
  go_wp2_with fail
  go_end0
  exact ⟨rfl, x, (Fr.of_below hWb).trans (hF.mono (by omega) (by simp)), hz, rfl⟩
end Go.Proofs.Ytgbnpdgaalpkcaa.L3
