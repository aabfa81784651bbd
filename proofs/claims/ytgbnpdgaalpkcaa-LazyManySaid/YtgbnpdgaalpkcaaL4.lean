/- contracts of lazy: Get, Made -/
import Derived.Test.YtgbnpdgaalpkcaaL3
namespace Go.Proofs.Ytgbnpdgaalpkcaa.L4
set_option linter.unusedVariables false
set_option linter.unusedSimpArgs false
open Go.RowKit K1 K3 K5 K7 L1 L2 L3
attribute [local go_sem] cell_pastA froz_pastA

/-- a Lazy at off in block b: was it asked for, and its text -/
structure LazyAt (w : World) (b off : Nat) (d : Bool) (s : ByteArray) : Prop where
  c0 : w.cell? ⟨b, off, none⟩ = some (.int .u32 (if d then 1 else 0))
  c1 : w.cell? ⟨b, off + 1, none⟩ = some (.int .i32 0)
  c3 : w.cell? ⟨b, off + 3, none⟩ = some (.int .i64 (if d then 1 else 0))
  c4 : w.cell? ⟨b, off + 4, none⟩ = some (.string s)
  f0 : w.frozen? ⟨b, off, none⟩ = false
  f1 : w.frozen? ⟨b, off + 1, none⟩ = false
  f3 : w.frozen? ⟨b, off + 3, none⟩ = false
  f4 : w.frozen? ⟨b, off + 4, none⟩ = false
theorem LazyAt.lt {w : World} {b off : Nat} {d : Bool} {s : ByteArray} (h : LazyAt w b off d s) : b < w.heap.size := World.block_lt_of_cell? w _ h.c0
theorem LazyAt.keep {w w' : World} {b off : Nat} {d : Bool} {s : ByteArray} (h : LazyAt w b off d s) (hc : ∀ j, off ≤ j → j < off + 5 → w'.cell? ⟨b, j, none⟩ = w.cell? ⟨b, j, none⟩ ∧ w'.frozen? ⟨b, j, none⟩ = w.frozen? ⟨b, j, none⟩) : LazyAt w' b off d s :=
  ⟨(hc _ (by omega) (by omega)).1.trans h.c0, (hc _ (by omega) (by omega)).1.trans h.c1, (hc _ (by omega) (by omega)).1.trans h.c3, (hc _ (by omega) (by omega)).1.trans h.c4,
   (hc _ (by omega) (by omega)).2.trans h.f0, (hc _ (by omega) (by omega)).2.trans h.f1, (hc _ (by omega) (by omega)).2.trans h.f3, (hc _ (by omega) (by omega)).2.trans h.f4⟩
theorem LazyAt.keepB {w w' : World} {b off : Nat} {d : Bool} {s : ByteArray} (h : LazyAt w b off d s) (he : w'.heap[b]? = w.heap[b]?) : LazyAt w' b off d s :=
  h.keep fun j _ _ => ⟨World.cell?_of_block he, World.frozen?_of_block he⟩

theorem made_any {w : World} {b off : Nat} {d : Bool} {s : ByteArray} (h : LazyAt w b off d s) :
    Calls Try.prog 41 #[.pointer (some ⟨b, off, none⟩)] w fun e w' => e = .returned (.bool d) ∧ w = w' := by
  have h3 := h.c3
  cases d
  all_goals
    go_enter Try.func41, Try.ntmps41
    go_wp2_with (go_at_call 88; refine (now_any b (off + 3) _ _ h3).mono ?_; rintro e wx ⟨rfl, rfl⟩)
    go_ret
    exact ⟨rfl, rfl⟩
theorem made_nil (w : World) : Calls Try.prog 41 #[.pointer none] w fun e w' => e = .returned (.bool false) ∧ w = w' := by
  go_enter Try.func41, Try.ntmps41
  go_wp2
  go_ret
  exact ⟨rfl, rfl⟩
theorem get_nil (f : Value) (w : World) : Calls Try.prog 42 #[.pointer none, f] w fun e w' => e = .returned (.string ⟨#[]⟩) ∧ w = w' := by
  go_enter Try.func42, Try.ntmps42
  go_wp2
  go_ret
  exact ⟨rfl, rfl⟩
theorem mf (fn : Fn) (first cap : Array Value) (w : World) : (Instr.makeFunc fn first cap).run Try.prog w = .ok (.func fn first cap) w := rfl
theorem get_done {w : World} {b off : Nat} {s : ByteArray} (h : LazyAt w b off true s) (f : Value) (hf : f = .nilFunc ∨ ∃ K c, f = .func (.func K) #[] c) :
    Calls Try.prog 42 #[.pointer (some ⟨b, off, none⟩), f] w fun e w' => e = .returned (.string s) ∧ w = w' := by
  have h4 := h.c4
  have h0 : Hid (w.cell? ⟨b, off, none⟩ = some (.int .u32 1)) := h.c0
  have hmf := mf
  rcases hf with rfl | ⟨K, c, rfl⟩
  all_goals
    go_enter Try.func42, Try.ntmps42
    go_wp2_with fail
    refine (do_done _ 1 (by decide) _ _ h0.out).mono ?_
    rintro e wx ⟨rfl, rfl⟩
    go_wp2_with fail
    go_ret
    exact ⟨rfl, rfl⟩

set_option maxRecDepth 100000 in
set_option maxHeartbeats 4000000 in
theorem get_call {w : World} {b off : Nat} {s0 : ByteArray} (h : LazyAt w b off false s0) (K cb : Nat) (capt : Array Value) (s : ByteArray) (Z : World → Prop) (hs : s.size ≤ 281474976710656)
    (hcb : b ≠ cb) (hcB : cb < w.heap.size) (HZ : ∀ x y, Z x → Fr x.heap.size [b] x y → Z y)
    (HK : ∀ x, Fr w.heap.size [b] w x → Calls Try.prog K capt x fun e w' => e = .returned (.string s) ∧ Fr x.heap.size [cb] x w' ∧ Z w') (HC : ∀ x, (callFunc K capt).run Try.prog x = .ok (.enter K capt) x) :
    Calls Try.prog 42 #[.pointer (some ⟨b, off, none⟩), .func (.func K) #[] capt] w fun e w' => e = .returned (.string s) ∧ Fr w.heap.size [b, cb] w w' ∧ LazyAt w' b off true s ∧
      (∀ j, (j < off ∨ off + 5 ≤ j) → w'.cell? ⟨b, j, none⟩ = w.cell? ⟨b, j, none⟩ ∧ w'.frozen? ⟨b, j, none⟩ = w.frozen? ⟨b, j, none⟩) ∧ Z w' := by
  have hlt := h.lt
  have hF1 : Fr w.heap.size [b] w (w.setCell ⟨b, off + 1, none⟩ (.int .i32 1)) := (Fr.refl _ _ _).setCell (.inl (by simp)) _
  have hsz1 : (w.setCell ⟨b, off + 1, none⟩ (.int .i32 1)).heap.size = w.heap.size := by simp
  obtain ⟨c0, c1, c3, c4, f0, f1, f3, f4⟩ := h
  simp only [Bool.false_eq_true, if_false] at c0 c3
  have hfill := fill_call b off K cb capt s Z (w.setCell ⟨b, off + 1, none⟩ (.int .i32 1)) hs (by (first | (simp [go_sem, BigFrame.eval_const, BigFrame.eval_global, BigFrame.eval_func, ↓IntWalk.iteOmega, *]; done) | (simp [go_sem, BigFrame.eval_const, BigFrame.eval_global, BigFrame.eval_func, ↓IntWalk.iteOmega, *]; intros; omega) | (simp [go_sem, BigFrame.eval_const, BigFrame.eval_global, BigFrame.eval_func, ↓IntWalk.iteOmega, *]; intros; exfalso; omega))) (by (first | (simp [go_sem, BigFrame.eval_const, BigFrame.eval_global, BigFrame.eval_func, ↓IntWalk.iteOmega, *]; done) | (simp [go_sem, BigFrame.eval_const, BigFrame.eval_global, BigFrame.eval_func, ↓IntWalk.iteOmega, *]; intros; omega) | (simp [go_sem, BigFrame.eval_const, BigFrame.eval_global, BigFrame.eval_func, ↓IntWalk.iteOmega, *]; intros; exfalso; omega))) (.string s0) (by (first | (simp [go_sem, BigFrame.eval_const, BigFrame.eval_global, BigFrame.eval_func, ↓IntWalk.iteOmega, *]; done) | (simp [go_sem, BigFrame.eval_const, BigFrame.eval_global, BigFrame.eval_func, ↓IntWalk.iteOmega, *]; intros; omega) | (simp [go_sem, BigFrame.eval_const, BigFrame.eval_global, BigFrame.eval_func, ↓IntWalk.iteOmega, *]; intros; exfalso; omega))) (by (first | (simp [go_sem, BigFrame.eval_const, BigFrame.eval_global, BigFrame.eval_func, ↓IntWalk.iteOmega, *]; done) | (simp [go_sem, BigFrame.eval_const, BigFrame.eval_global, BigFrame.eval_func, ↓IntWalk.iteOmega, *]; intros; omega) | (simp [go_sem, BigFrame.eval_const, BigFrame.eval_global, BigFrame.eval_func, ↓IntWalk.iteOmega, *]; intros; exfalso; omega))) (by simpa using hlt) hcb (by simpa using hcB)
    (fun x y hx hxy => HZ x y hx (.of_below hxy)) (fun x hx => HK x (hF1.trans (.of_below (hx.mono (by simp))))) HC
  have hdo := do_fill b off #[.agg #[.pointer (some ⟨b, off, none⟩), .func (.func K) #[] capt]] w _ c0 c1 f0 f1 hfill ?k0
  case k0 =>
    rintro w3 ⟨y, hy, hz, rfl⟩
    have hcy := hy.cellA
    have hfy := hy.frozA
    have hsy := hy.size
    simp at hcy hfy hsy
    refine ⟨by (first | (simp [go_sem, BigFrame.eval_const, BigFrame.eval_global, BigFrame.eval_func, ↓IntWalk.iteOmega, *]; done) | (simp [go_sem, BigFrame.eval_const, BigFrame.eval_global, BigFrame.eval_func, ↓IntWalk.iteOmega, *]; intros; omega) | (simp [go_sem, BigFrame.eval_const, BigFrame.eval_global, BigFrame.eval_func, ↓IntWalk.iteOmega, *]; intros; exfalso; omega)), by (first | (simp [go_sem, BigFrame.eval_const, BigFrame.eval_global, BigFrame.eval_func, ↓IntWalk.iteOmega, *]; done) | (simp [go_sem, BigFrame.eval_const, BigFrame.eval_global, BigFrame.eval_func, ↓IntWalk.iteOmega, *]; intros; omega) | (simp [go_sem, BigFrame.eval_const, BigFrame.eval_global, BigFrame.eval_func, ↓IntWalk.iteOmega, *]; intros; exfalso; omega)), by (first | (simp [go_sem, BigFrame.eval_const, BigFrame.eval_global, BigFrame.eval_func, ↓IntWalk.iteOmega, *]; done) | (simp [go_sem, BigFrame.eval_const, BigFrame.eval_global, BigFrame.eval_func, ↓IntWalk.iteOmega, *]; intros; omega) | (simp [go_sem, BigFrame.eval_const, BigFrame.eval_global, BigFrame.eval_func, ↓IntWalk.iteOmega, *]; intros; exfalso; omega)), by (first | (simp [go_sem, BigFrame.eval_const, BigFrame.eval_global, BigFrame.eval_func, ↓IntWalk.iteOmega, *]; done) | (simp [go_sem, BigFrame.eval_const, BigFrame.eval_global, BigFrame.eval_func, ↓IntWalk.iteOmega, *]; intros; omega) | (simp [go_sem, BigFrame.eval_const, BigFrame.eval_global, BigFrame.eval_func, ↓IntWalk.iteOmega, *]; intros; exfalso; omega))⟩
  have HDO := Lib.hid hdo
  clear hdo hfill
  have hmf := mf
  go_enter Try.func42, Try.ntmps42
  go_wp2_with fail
  refine HDO.out.mono ?_
  rintro e w2 ⟨rfl, w3, ⟨y, hy, hz, rfl⟩, rfl⟩
  have hcy := hy.cellA
  have hfy := hy.frozA
  have hsy := hy.size
  simp at hcy hfy hsy
  have HC' := Lib.hid hcy
  have HF' := Lib.hid hfy
  have hL : LazyAt ((((y.setCell ⟨b, off + 4, none⟩ (.string s)).setCell ⟨b, off + 3, none⟩ (.int .i64 1)).drew.setCell ⟨b, off, none⟩ (.int .u32 1)).setCell ⟨b, off + 1, none⟩ (.int .i32 0)) b off true s :=
    ⟨by (first | (simp [go_sem, BigFrame.eval_const, BigFrame.eval_global, BigFrame.eval_func, ↓IntWalk.iteOmega, *]; done) | (simp [go_sem, BigFrame.eval_const, BigFrame.eval_global, BigFrame.eval_func, ↓IntWalk.iteOmega, *]; intros; omega) | (simp [go_sem, BigFrame.eval_const, BigFrame.eval_global, BigFrame.eval_func, ↓IntWalk.iteOmega, *]; intros; exfalso; omega)), by (first | (simp [go_sem, BigFrame.eval_const, BigFrame.eval_global, BigFrame.eval_func, ↓IntWalk.iteOmega, *]; done) | (simp [go_sem, BigFrame.eval_const, BigFrame.eval_global, BigFrame.eval_func, ↓IntWalk.iteOmega, *]; intros; omega) | (simp [go_sem, BigFrame.eval_const, BigFrame.eval_global, BigFrame.eval_func, ↓IntWalk.iteOmega, *]; intros; exfalso; omega)), by (first | (simp [go_sem, BigFrame.eval_const, BigFrame.eval_global, BigFrame.eval_func, ↓IntWalk.iteOmega, *]; done) | (simp [go_sem, BigFrame.eval_const, BigFrame.eval_global, BigFrame.eval_func, ↓IntWalk.iteOmega, *]; intros; omega) | (simp [go_sem, BigFrame.eval_const, BigFrame.eval_global, BigFrame.eval_func, ↓IntWalk.iteOmega, *]; intros; exfalso; omega)), by (first | (simp [go_sem, BigFrame.eval_const, BigFrame.eval_global, BigFrame.eval_func, ↓IntWalk.iteOmega, *]; done) | (simp [go_sem, BigFrame.eval_const, BigFrame.eval_global, BigFrame.eval_func, ↓IntWalk.iteOmega, *]; intros; omega) | (simp [go_sem, BigFrame.eval_const, BigFrame.eval_global, BigFrame.eval_func, ↓IntWalk.iteOmega, *]; intros; exfalso; omega)), by (first | (simp [go_sem, BigFrame.eval_const, BigFrame.eval_global, BigFrame.eval_func, ↓IntWalk.iteOmega, *]; done) | (simp [go_sem, BigFrame.eval_const, BigFrame.eval_global, BigFrame.eval_func, ↓IntWalk.iteOmega, *]; intros; omega) | (simp [go_sem, BigFrame.eval_const, BigFrame.eval_global, BigFrame.eval_func, ↓IntWalk.iteOmega, *]; intros; exfalso; omega)), by (first | (simp [go_sem, BigFrame.eval_const, BigFrame.eval_global, BigFrame.eval_func, ↓IntWalk.iteOmega, *]; done) | (simp [go_sem, BigFrame.eval_const, BigFrame.eval_global, BigFrame.eval_func, ↓IntWalk.iteOmega, *]; intros; omega) | (simp [go_sem, BigFrame.eval_const, BigFrame.eval_global, BigFrame.eval_func, ↓IntWalk.iteOmega, *]; intros; exfalso; omega)), by (first | (simp [go_sem, BigFrame.eval_const, BigFrame.eval_global, BigFrame.eval_func, ↓IntWalk.iteOmega, *]; done) | (simp [go_sem, BigFrame.eval_const, BigFrame.eval_global, BigFrame.eval_func, ↓IntWalk.iteOmega, *]; intros; omega) | (simp [go_sem, BigFrame.eval_const, BigFrame.eval_global, BigFrame.eval_func, ↓IntWalk.iteOmega, *]; intros; exfalso; omega)), by (first | (simp [go_sem, BigFrame.eval_const, BigFrame.eval_global, BigFrame.eval_func, ↓IntWalk.iteOmega, *]; done) | (simp [go_sem, BigFrame.eval_const, BigFrame.eval_global, BigFrame.eval_func, ↓IntWalk.iteOmega, *]; intros; omega) | (simp [go_sem, BigFrame.eval_const, BigFrame.eval_global, BigFrame.eval_func, ↓IntWalk.iteOmega, *]; intros; exfalso; omega))⟩
  have hfr : Fr y.heap.size [b] y ((((y.setCell ⟨b, off + 4, none⟩ (.string s)).setCell ⟨b, off + 3, none⟩ (.int .i64 1)).drew.setCell ⟨b, off, none⟩ (.int .u32 1)).setCell ⟨b, off + 1, none⟩ (.int .i32 0)) :=
    ((((Fr.refl _ _ _).setCell (.inl (by simp)) _).setCell (.inl (by simp)) _).drew.setCell (.inl (by simp)) _).setCell (.inl (by simp)) _
  have hothers : ∀ j, (j < off ∨ off + 5 ≤ j) → ((((y.setCell ⟨b, off + 4, none⟩ (.string s)).setCell ⟨b, off + 3, none⟩ (.int .i64 1)).drew.setCell ⟨b, off, none⟩ (.int .u32 1)).setCell ⟨b, off + 1, none⟩ (.int .i32 0)).cell? ⟨b, j, none⟩ = w.cell? ⟨b, j, none⟩ ∧
      ((((y.setCell ⟨b, off + 4, none⟩ (.string s)).setCell ⟨b, off + 3, none⟩ (.int .i64 1)).drew.setCell ⟨b, off, none⟩ (.int .u32 1)).setCell ⟨b, off + 1, none⟩ (.int .i32 0)).frozen? ⟨b, j, none⟩ = w.frozen? ⟨b, j, none⟩ := by
    intro j hj
    refine ⟨by (first | (simp [go_sem, BigFrame.eval_const, BigFrame.eval_global, BigFrame.eval_func, ↓IntWalk.iteOmega, *]; done) | (simp [go_sem, BigFrame.eval_const, BigFrame.eval_global, BigFrame.eval_func, ↓IntWalk.iteOmega, *]; intros; omega) | (simp [go_sem, BigFrame.eval_const, BigFrame.eval_global, BigFrame.eval_func, ↓IntWalk.iteOmega, *]; intros; exfalso; omega)), by (first | (simp [go_sem, BigFrame.eval_const, BigFrame.eval_global, BigFrame.eval_func, ↓IntWalk.iteOmega, *]; done) | (simp [go_sem, BigFrame.eval_const, BigFrame.eval_global, BigFrame.eval_func, ↓IntWalk.iteOmega, *]; intros; omega) | (simp [go_sem, BigFrame.eval_const, BigFrame.eval_global, BigFrame.eval_func, ↓IntWalk.iteOmega, *]; intros; exfalso; omega))⟩
  have HL := Lib.hid hL
  have HFR := Lib.hid hfr
  have HO := Lib.hid hothers
  have HZ' := Lib.hid (HZ _ _ hz hfr)
  have h4 := hL.c4
  have HY := Lib.hid hy
  generalize ((((y.setCell ⟨b, off + 4, none⟩ (.string s)).setCell ⟨b, off + 3, none⟩ (.int .i64 1)).drew.setCell ⟨b, off, none⟩ (.int .u32 1)).setCell ⟨b, off + 1, none⟩ (.int .i32 0)) = WE at *
  clear hcy hfy hL hfr hothers hz hy HC' HF' HZ HDO HK
  go_wp2_with fail
  go_ret
  refine ⟨rfl, ?_, HL.out, HO.out, HZ'.out⟩
  exact ((hF1.mono (Nat.le_refl _) (by simp)).trans ((HY.out.mono (by simp) (by simp)))).trans (HFR.out.mono (by omega) (by simp))
end Go.Proofs.Ytgbnpdgaalpkcaa.L4
