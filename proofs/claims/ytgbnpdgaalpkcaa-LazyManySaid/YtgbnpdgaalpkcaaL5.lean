/- contracts of lazy: Get of nothing, Door -/
import Derived.Test.YtgbnpdgaalpkcaaL4
import Derived.StillTailTactics
namespace Go.Proofs.Ytgbnpdgaalpkcaa.L5
set_option linter.unusedVariables false
set_option linter.unusedSimpArgs false
open Go.RowKit K1 K3 K5 K7 L1 L2 L3 L4
attribute [local go_sem] cell_pastA froz_pastA

set_option maxRecDepth 100000 in
set_option maxHeartbeats 4000000 in
theorem get_none {w : World} {b off : Nat} {s0 : ByteArray} (h : LazyAt w b off false s0) :
    Calls Try.prog 42 #[.pointer (some ⟨b, off, none⟩), .nilFunc] w fun e w' => e = .returned (.string s0) ∧ Fr w.heap.size [b] w w' ∧ LazyAt w' b off true s0 := by
  have hlt := h.lt
  have hF1 : Fr w.heap.size [b] w (w.setCell ⟨b, off + 1, none⟩ (.int .i32 1)) := (Fr.refl _ _ _).setCell (.inl (by simp)) _
  obtain ⟨c0, c1, c3, c4, f0, f1, f3, f4⟩ := h
  simp only [Bool.false_eq_true, if_false] at c0 c3
  have hfill := fill_nil b off (w.setCell ⟨b, off + 1, none⟩ (.int .i32 1)) (by (first | (simp [go_sem, BigFrame.eval_const, BigFrame.eval_global, BigFrame.eval_func, ↓IntWalk.iteOmega, *]; done) | (simp [go_sem, BigFrame.eval_const, BigFrame.eval_global, BigFrame.eval_func, ↓IntWalk.iteOmega, *]; intros; omega) | (simp [go_sem, BigFrame.eval_const, BigFrame.eval_global, BigFrame.eval_func, ↓IntWalk.iteOmega, *]; intros; exfalso; omega))) (by (first | (simp [go_sem, BigFrame.eval_const, BigFrame.eval_global, BigFrame.eval_func, ↓IntWalk.iteOmega, *]; done) | (simp [go_sem, BigFrame.eval_const, BigFrame.eval_global, BigFrame.eval_func, ↓IntWalk.iteOmega, *]; intros; omega) | (simp [go_sem, BigFrame.eval_const, BigFrame.eval_global, BigFrame.eval_func, ↓IntWalk.iteOmega, *]; intros; exfalso; omega))) (by simpa using hlt)
  have hdo := do_fill b off #[.agg #[.pointer (some ⟨b, off, none⟩), .nilFunc]] w _ c0 c1 f0 f1 hfill ?k0
  case k0 =>
    rintro w3 ⟨y, hy, rfl⟩
    have hcy := cellA hy
    have hfy := frozA hy
    have hsy := hy.size
    simp at hcy hfy hsy
    refine ⟨by (first | (simp [go_sem, BigFrame.eval_const, BigFrame.eval_global, BigFrame.eval_func, ↓IntWalk.iteOmega, *]; done) | (simp [go_sem, BigFrame.eval_const, BigFrame.eval_global, BigFrame.eval_func, ↓IntWalk.iteOmega, *]; intros; omega) | (simp [go_sem, BigFrame.eval_const, BigFrame.eval_global, BigFrame.eval_func, ↓IntWalk.iteOmega, *]; intros; exfalso; omega)), by (first | (simp [go_sem, BigFrame.eval_const, BigFrame.eval_global, BigFrame.eval_func, ↓IntWalk.iteOmega, *]; done) | (simp [go_sem, BigFrame.eval_const, BigFrame.eval_global, BigFrame.eval_func, ↓IntWalk.iteOmega, *]; intros; omega) | (simp [go_sem, BigFrame.eval_const, BigFrame.eval_global, BigFrame.eval_func, ↓IntWalk.iteOmega, *]; intros; exfalso; omega)), by (first | (simp [go_sem, BigFrame.eval_const, BigFrame.eval_global, BigFrame.eval_func, ↓IntWalk.iteOmega, *]; done) | (simp [go_sem, BigFrame.eval_const, BigFrame.eval_global, BigFrame.eval_func, ↓IntWalk.iteOmega, *]; intros; omega) | (simp [go_sem, BigFrame.eval_const, BigFrame.eval_global, BigFrame.eval_func, ↓IntWalk.iteOmega, *]; intros; exfalso; omega)), by (first | (simp [go_sem, BigFrame.eval_const, BigFrame.eval_global, BigFrame.eval_func, ↓IntWalk.iteOmega, *]; done) | (simp [go_sem, BigFrame.eval_const, BigFrame.eval_global, BigFrame.eval_func, ↓IntWalk.iteOmega, *]; intros; omega) | (simp [go_sem, BigFrame.eval_const, BigFrame.eval_global, BigFrame.eval_func, ↓IntWalk.iteOmega, *]; intros; exfalso; omega))⟩
  have HDO := Lib.hid hdo
  clear hdo hfill
  have hmf := mf
  go_enter Try.func42, Try.ntmps42
  go_wp2_with fail
  refine HDO.out.mono ?_
  rintro e w2 ⟨rfl, w3, ⟨y, hy, rfl⟩, rfl⟩
  have hcy := cellA hy
  have hfy := frozA hy
  have hsy := hy.size
  simp at hcy hfy hsy
  have hL : LazyAt (((y.setCell ⟨b, off + 3, none⟩ (.int .i64 1)).drew.setCell ⟨b, off, none⟩ (.int .u32 1)).setCell ⟨b, off + 1, none⟩ (.int .i32 0)) b off true s0 :=
    ⟨by (first | (simp [go_sem, BigFrame.eval_const, BigFrame.eval_global, BigFrame.eval_func, ↓IntWalk.iteOmega, *]; done) | (simp [go_sem, BigFrame.eval_const, BigFrame.eval_global, BigFrame.eval_func, ↓IntWalk.iteOmega, *]; intros; omega) | (simp [go_sem, BigFrame.eval_const, BigFrame.eval_global, BigFrame.eval_func, ↓IntWalk.iteOmega, *]; intros; exfalso; omega)), by (first | (simp [go_sem, BigFrame.eval_const, BigFrame.eval_global, BigFrame.eval_func, ↓IntWalk.iteOmega, *]; done) | (simp [go_sem, BigFrame.eval_const, BigFrame.eval_global, BigFrame.eval_func, ↓IntWalk.iteOmega, *]; intros; omega) | (simp [go_sem, BigFrame.eval_const, BigFrame.eval_global, BigFrame.eval_func, ↓IntWalk.iteOmega, *]; intros; exfalso; omega)), by (first | (simp [go_sem, BigFrame.eval_const, BigFrame.eval_global, BigFrame.eval_func, ↓IntWalk.iteOmega, *]; done) | (simp [go_sem, BigFrame.eval_const, BigFrame.eval_global, BigFrame.eval_func, ↓IntWalk.iteOmega, *]; intros; omega) | (simp [go_sem, BigFrame.eval_const, BigFrame.eval_global, BigFrame.eval_func, ↓IntWalk.iteOmega, *]; intros; exfalso; omega)), by (first | (simp [go_sem, BigFrame.eval_const, BigFrame.eval_global, BigFrame.eval_func, ↓IntWalk.iteOmega, *]; done) | (simp [go_sem, BigFrame.eval_const, BigFrame.eval_global, BigFrame.eval_func, ↓IntWalk.iteOmega, *]; intros; omega) | (simp [go_sem, BigFrame.eval_const, BigFrame.eval_global, BigFrame.eval_func, ↓IntWalk.iteOmega, *]; intros; exfalso; omega)), by (first | (simp [go_sem, BigFrame.eval_const, BigFrame.eval_global, BigFrame.eval_func, ↓IntWalk.iteOmega, *]; done) | (simp [go_sem, BigFrame.eval_const, BigFrame.eval_global, BigFrame.eval_func, ↓IntWalk.iteOmega, *]; intros; omega) | (simp [go_sem, BigFrame.eval_const, BigFrame.eval_global, BigFrame.eval_func, ↓IntWalk.iteOmega, *]; intros; exfalso; omega)), by (first | (simp [go_sem, BigFrame.eval_const, BigFrame.eval_global, BigFrame.eval_func, ↓IntWalk.iteOmega, *]; done) | (simp [go_sem, BigFrame.eval_const, BigFrame.eval_global, BigFrame.eval_func, ↓IntWalk.iteOmega, *]; intros; omega) | (simp [go_sem, BigFrame.eval_const, BigFrame.eval_global, BigFrame.eval_func, ↓IntWalk.iteOmega, *]; intros; exfalso; omega)), by (first | (simp [go_sem, BigFrame.eval_const, BigFrame.eval_global, BigFrame.eval_func, ↓IntWalk.iteOmega, *]; done) | (simp [go_sem, BigFrame.eval_const, BigFrame.eval_global, BigFrame.eval_func, ↓IntWalk.iteOmega, *]; intros; omega) | (simp [go_sem, BigFrame.eval_const, BigFrame.eval_global, BigFrame.eval_func, ↓IntWalk.iteOmega, *]; intros; exfalso; omega)), by (first | (simp [go_sem, BigFrame.eval_const, BigFrame.eval_global, BigFrame.eval_func, ↓IntWalk.iteOmega, *]; done) | (simp [go_sem, BigFrame.eval_const, BigFrame.eval_global, BigFrame.eval_func, ↓IntWalk.iteOmega, *]; intros; omega) | (simp [go_sem, BigFrame.eval_const, BigFrame.eval_global, BigFrame.eval_func, ↓IntWalk.iteOmega, *]; intros; exfalso; omega))⟩
  have hfr : Fr y.heap.size [b] y (((y.setCell ⟨b, off + 3, none⟩ (.int .i64 1)).drew.setCell ⟨b, off, none⟩ (.int .u32 1)).setCell ⟨b, off + 1, none⟩ (.int .i32 0)) :=
    (((Fr.refl _ _ _).setCell (.inl (by simp)) _).drew.setCell (.inl (by simp)) _).setCell (.inl (by simp)) _
  have HL := Lib.hid hL
  have HFR := Lib.hid hfr
  have h4 := hL.c4
  have HY := Lib.hid hy
  generalize (((y.setCell ⟨b, off + 3, none⟩ (.int .i64 1)).drew.setCell ⟨b, off, none⟩ (.int .u32 1)).setCell ⟨b, off + 1, none⟩ (.int .i32 0)) = WE at *
  clear hcy hfy hL hfr hy HDO
  go_wp2_with fail
  go_ret
  refine ⟨rfl, ?_, HL.out⟩
  exact (hF1.trans (.of_below (HY.out.mono (by simp)))).trans (HFR.out.mono (by omega) (by simp))

/-- a Door at off in block b: is it open, and who opened it -/
structure DoorAt (w : World) (b off : Nat) (d : Bool) (n : Int) : Prop where
  c0 : w.cell? ⟨b, off, none⟩ = some (.int .u32 (if d then 1 else 0))
  c1 : w.cell? ⟨b, off + 1, none⟩ = some (.int .i32 0)
  c3 : w.cell? ⟨b, off + 3, none⟩ = some (.int .i64 (if d then 1 else 0))
  c4 : w.cell? ⟨b, off + 4, none⟩ = some (.int .i64 n)
  f0 : w.frozen? ⟨b, off, none⟩ = false
  f1 : w.frozen? ⟨b, off + 1, none⟩ = false
  f3 : w.frozen? ⟨b, off + 3, none⟩ = false
  f4 : w.frozen? ⟨b, off + 4, none⟩ = false
theorem DoorAt.lt {w : World} {b off : Nat} {d : Bool} {s : Int} (h : DoorAt w b off d s) : b < w.heap.size := World.block_lt_of_cell? w _ h.c0
theorem DoorAt.keep {w w' : World} {b off : Nat} {d : Bool} {s : Int} (h : DoorAt w b off d s) (hc : ∀ j, off ≤ j → j < off + 5 → w'.cell? ⟨b, j, none⟩ = w.cell? ⟨b, j, none⟩ ∧ w'.frozen? ⟨b, j, none⟩ = w.frozen? ⟨b, j, none⟩) : DoorAt w' b off d s :=
  ⟨(hc _ (by omega) (by omega)).1.trans h.c0, (hc _ (by omega) (by omega)).1.trans h.c1, (hc _ (by omega) (by omega)).1.trans h.c3, (hc _ (by omega) (by omega)).1.trans h.c4,
   (hc _ (by omega) (by omega)).2.trans h.f0, (hc _ (by omega) (by omega)).2.trans h.f1, (hc _ (by omega) (by omega)).2.trans h.f3, (hc _ (by omega) (by omega)).2.trans h.f4⟩
theorem DoorAt.keepB {w w' : World} {b off : Nat} {d : Bool} {s : Int} (h : DoorAt w b off d s) (he : w'.heap[b]? = w.heap[b]?) : DoorAt w' b off d s :=
  h.keep fun j _ _ => ⟨World.cell?_of_block he, World.frozen?_of_block he⟩

theorem is_any {w : World} {b off : Nat} {d : Bool} {s : Int} (h : DoorAt w b off d s) :
    Calls Try.prog 45 #[.pointer (some ⟨b, off, none⟩)] w fun e w' => e = .returned (.bool d) ∧ w = w' := by
  have h3 := Lib.hid h.c3
  cases d
  all_goals
    go_enter Try.func45, Try.ntmps45
    go_wp2_with fail
    refine (now_any b (off + 3) _ _ h3.out).mono ?_
    rintro e wx ⟨rfl, rfl⟩
    go_wp2_with fail
    go_ret
    exact ⟨rfl, rfl⟩
theorem is_nil (w : World) : Calls Try.prog 45 #[.pointer none] w fun e w' => e = .returned (.bool false) ∧ w = w' := by
  go_enter Try.func45, Try.ntmps45
  go_wp2
  go_ret
  exact ⟨rfl, rfl⟩
theorem who_any {w : World} {b off : Nat} {d : Bool} {s : Int} (h : DoorAt w b off d s) :
    Calls Try.prog 46 #[.pointer (some ⟨b, off, none⟩)] w fun e w' => e = .returned (.int .i64 s) ∧ w = w' := by
  have h4 := Lib.hid h.c4
  go_enter Try.func46, Try.ntmps46
  go_wp2_with fail
  refine (now_any b (off + 4) _ _ h4.out).mono ?_
  rintro e wx ⟨rfl, rfl⟩
  go_wp2_with fail
  go_ret
  exact ⟨rfl, rfl⟩
theorem who_nil (w : World) : Calls Try.prog 46 #[.pointer none] w fun e w' => e = .returned (.int .i64 0) ∧ w = w' := by
  go_enter Try.func46, Try.ntmps46
  go_wp2
  go_ret
  exact ⟨rfl, rfl⟩
theorem open_nil (n : Int) (w : World) : Calls Try.prog 47 #[.pointer none, .int .i64 n] w fun e w' => e = .returned (.bool false) ∧ w = w' := by
  go_enter Try.func47, Try.ntmps47
  go_wp2
  go_ret
  exact ⟨rfl, rfl⟩
theorem open_done {w : World} {b off : Nat} {s : Int} (h : DoorAt w b off true s) (n : Int) :
    Calls Try.prog 47 #[.pointer (some ⟨b, off, none⟩), .int .i64 n] w fun e w' => e = .returned (.bool false) ∧ Below w.heap.size w w' := by
  have hlt := h.lt
  have h0 : w.cell? ⟨b, off, none⟩ = some (.int .u32 1) := h.c0
  have hmf := mf
  go_enter Try.func47, Try.ntmps47
  go_wp2_with fail
  refine (do_done _ 1 (by decide) _ _ (by (first | (simp [go_sem, BigFrame.eval_const, BigFrame.eval_global, BigFrame.eval_func, ↓IntWalk.iteOmega, *]; done) | (simp [go_sem, BigFrame.eval_const, BigFrame.eval_global, BigFrame.eval_func, ↓IntWalk.iteOmega, *]; intros; omega) | (simp [go_sem, BigFrame.eval_const, BigFrame.eval_global, BigFrame.eval_func, ↓IntWalk.iteOmega, *]; intros; exfalso; omega)))).mono ?_
  rintro e wx ⟨rfl, rfl⟩
  go_wp2_with fail
  go_ret
  exact ⟨rfl, by repeat' (first | assumption | exact Below.refl _ _ | apply Below.alloc | apply Below.setCell | apply Below.drew | (refine Below.trans ?_ (Below.mono (by assumption) ?_)) | omega | (simp; omega) | (simp; done))⟩
set_option maxRecDepth 100000 in
theorem enter_any (b off kb : Nat) (n n0 i0 : Int) (w : World) (hb : b ≠ kb) (k0 : w.cell? ⟨kb, 0, none⟩ = some (.pointer (some ⟨b, off, none⟩))) (k1 : w.cell? ⟨kb, 1, none⟩ = some (.int .i64 n)) (k2 : w.cell? ⟨kb, 2, none⟩ = some (.bool false)) (kf : w.frozen? ⟨kb, 2, none⟩ = false)
    (h3 : w.cell? ⟨b, off + 3, none⟩ = some (.int .i64 i0)) (f3 : w.frozen? ⟨b, off + 3, none⟩ = false) (h4 : w.cell? ⟨b, off + 4, none⟩ = some (.int .i64 n0)) (f4 : w.frozen? ⟨b, off + 4, none⟩ = false) :
    Calls Try.prog 91 #[.pointer (some ⟨kb, 0, none⟩)] w fun e w' => e = .returned (.tuple #[]) ∧ w' = ((w.setCell ⟨kb, 2, none⟩ (.bool true)).drew.setCell ⟨b, off + 4, none⟩ (.int .i64 n)).setCell ⟨b, off + 3, none⟩ (.int .i64 1) := by
  go_enter Try.func91, Try.ntmps91
  go_wp2_with fail
  refine wp_region_hush_tail (C := fun x => x = (w.setCell ⟨kb, 2, none⟩ (.bool true)).drew) 10 (by kernel_rfl) (by kernel_rfl) (fun _ _ dx _ _ hx => by cases dx <;> exact hx) rfl ?_
  simp only [List.take_succ_cons, List.take_zero, List.drop_succ_cons, List.drop_zero]
  iterate 10 (refine wpQuiet_step (fun K hK => ?_); (first | (refine hush_skip ?_ ?_; (focus (go_simp; done)); (try go_simp); refine hK _ ?_; clear hK K) | (refine hush_do ?_ ?_; (focus (go_simp; done)); apply Exists.intro; refine ⟨fun wx hwx => ?_, ?_⟩; (focus (subst hwx; (try simp [go_sem, BigFrame.eval_const, BigFrame.eval_global, BigFrame.eval_func, ↓IntWalk.iteOmega, *]); (first | done | rfl))); (try go_simp); refine hK _ ?_; clear hK K)))
  refine wpQuiet_nil ?_
  rintro _ rfl
  go_wp2_with fail
  refine (swap_any b (off + 4) n0 n _ (by (first | (simp [go_sem, BigFrame.eval_const, BigFrame.eval_global, BigFrame.eval_func, ↓IntWalk.iteOmega, *]; done) | (simp [go_sem, BigFrame.eval_const, BigFrame.eval_global, BigFrame.eval_func, ↓IntWalk.iteOmega, *]; intros; omega) | (simp [go_sem, BigFrame.eval_const, BigFrame.eval_global, BigFrame.eval_func, ↓IntWalk.iteOmega, *]; intros; exfalso; omega))) (by (first | (simp [go_sem, BigFrame.eval_const, BigFrame.eval_global, BigFrame.eval_func, ↓IntWalk.iteOmega, *]; done) | (simp [go_sem, BigFrame.eval_const, BigFrame.eval_global, BigFrame.eval_func, ↓IntWalk.iteOmega, *]; intros; omega) | (simp [go_sem, BigFrame.eval_const, BigFrame.eval_global, BigFrame.eval_func, ↓IntWalk.iteOmega, *]; intros; exfalso; omega)))).mono ?_
  rintro e wx ⟨rfl, rfl⟩
  go_wp2_with fail
  refine (swap_any b (off + 3) i0 1 _ (by (first | (simp [go_sem, BigFrame.eval_const, BigFrame.eval_global, BigFrame.eval_func, ↓IntWalk.iteOmega, *]; done) | (simp [go_sem, BigFrame.eval_const, BigFrame.eval_global, BigFrame.eval_func, ↓IntWalk.iteOmega, *]; intros; omega) | (simp [go_sem, BigFrame.eval_const, BigFrame.eval_global, BigFrame.eval_func, ↓IntWalk.iteOmega, *]; intros; exfalso; omega))) (by (first | (simp [go_sem, BigFrame.eval_const, BigFrame.eval_global, BigFrame.eval_func, ↓IntWalk.iteOmega, *]; done) | (simp [go_sem, BigFrame.eval_const, BigFrame.eval_global, BigFrame.eval_func, ↓IntWalk.iteOmega, *]; intros; omega) | (simp [go_sem, BigFrame.eval_const, BigFrame.eval_global, BigFrame.eval_func, ↓IntWalk.iteOmega, *]; intros; exfalso; omega)))).mono ?_
  rintro e wx ⟨rfl, rfl⟩
  go_wp2_with fail
  go_end0
  exact ⟨rfl, rfl⟩

set_option maxRecDepth 100000 in
set_option maxHeartbeats 4000000 in
theorem open_first {w : World} {b off : Nat} {n0 : Int} (h : DoorAt w b off false n0) (n : Int) :
    Calls Try.prog 47 #[.pointer (some ⟨b, off, none⟩), .int .i64 n] w fun e w' => e = .returned (.bool true) ∧ Fr w.heap.size [b] w w' ∧ DoorAt w' b off true n ∧
      (∀ j, (j < off ∨ off + 5 ≤ j) → w'.cell? ⟨b, j, none⟩ = w.cell? ⟨b, j, none⟩ ∧ w'.frozen? ⟨b, j, none⟩ = w.frozen? ⟨b, j, none⟩) := by
  have hlt := h.lt
  obtain ⟨c0, c1, c3, c4, f0, f1, f3, f4⟩ := h
  simp only [Bool.false_eq_true, if_false] at c0 c3
  have hmf := mf
  go_enter Try.func47, Try.ntmps47
  go_wp2_with fail
  have hent := enter_any b off w.heap.size n n0 0 ((w.alloc (Obj.cells #[Value.pointer (some ⟨b, off, none⟩), Value.int .i64 n, Value.bool false] 134)).setCell ⟨b, off + 1, none⟩ (.int .i32 1)) (by omega)
    (by (first | (simp [go_sem, BigFrame.eval_const, BigFrame.eval_global, BigFrame.eval_func, ↓IntWalk.iteOmega, *]; done) | (simp [go_sem, BigFrame.eval_const, BigFrame.eval_global, BigFrame.eval_func, ↓IntWalk.iteOmega, *]; intros; omega) | (simp [go_sem, BigFrame.eval_const, BigFrame.eval_global, BigFrame.eval_func, ↓IntWalk.iteOmega, *]; intros; exfalso; omega))) (by (first | (simp [go_sem, BigFrame.eval_const, BigFrame.eval_global, BigFrame.eval_func, ↓IntWalk.iteOmega, *]; done) | (simp [go_sem, BigFrame.eval_const, BigFrame.eval_global, BigFrame.eval_func, ↓IntWalk.iteOmega, *]; intros; omega) | (simp [go_sem, BigFrame.eval_const, BigFrame.eval_global, BigFrame.eval_func, ↓IntWalk.iteOmega, *]; intros; exfalso; omega))) (by (first | (simp [go_sem, BigFrame.eval_const, BigFrame.eval_global, BigFrame.eval_func, ↓IntWalk.iteOmega, *]; done) | (simp [go_sem, BigFrame.eval_const, BigFrame.eval_global, BigFrame.eval_func, ↓IntWalk.iteOmega, *]; intros; omega) | (simp [go_sem, BigFrame.eval_const, BigFrame.eval_global, BigFrame.eval_func, ↓IntWalk.iteOmega, *]; intros; exfalso; omega))) (by (first | (simp [go_sem, BigFrame.eval_const, BigFrame.eval_global, BigFrame.eval_func, ↓IntWalk.iteOmega, *]; done) | (simp [go_sem, BigFrame.eval_const, BigFrame.eval_global, BigFrame.eval_func, ↓IntWalk.iteOmega, *]; intros; omega) | (simp [go_sem, BigFrame.eval_const, BigFrame.eval_global, BigFrame.eval_func, ↓IntWalk.iteOmega, *]; intros; exfalso; omega))) (by (first | (simp [go_sem, BigFrame.eval_const, BigFrame.eval_global, BigFrame.eval_func, ↓IntWalk.iteOmega, *]; done) | (simp [go_sem, BigFrame.eval_const, BigFrame.eval_global, BigFrame.eval_func, ↓IntWalk.iteOmega, *]; intros; omega) | (simp [go_sem, BigFrame.eval_const, BigFrame.eval_global, BigFrame.eval_func, ↓IntWalk.iteOmega, *]; intros; exfalso; omega))) (by (first | (simp [go_sem, BigFrame.eval_const, BigFrame.eval_global, BigFrame.eval_func, ↓IntWalk.iteOmega, *]; done) | (simp [go_sem, BigFrame.eval_const, BigFrame.eval_global, BigFrame.eval_func, ↓IntWalk.iteOmega, *]; intros; omega) | (simp [go_sem, BigFrame.eval_const, BigFrame.eval_global, BigFrame.eval_func, ↓IntWalk.iteOmega, *]; intros; exfalso; omega))) (by (first | (simp [go_sem, BigFrame.eval_const, BigFrame.eval_global, BigFrame.eval_func, ↓IntWalk.iteOmega, *]; done) | (simp [go_sem, BigFrame.eval_const, BigFrame.eval_global, BigFrame.eval_func, ↓IntWalk.iteOmega, *]; intros; omega) | (simp [go_sem, BigFrame.eval_const, BigFrame.eval_global, BigFrame.eval_func, ↓IntWalk.iteOmega, *]; intros; exfalso; omega))) (by (first | (simp [go_sem, BigFrame.eval_const, BigFrame.eval_global, BigFrame.eval_func, ↓IntWalk.iteOmega, *]; done) | (simp [go_sem, BigFrame.eval_const, BigFrame.eval_global, BigFrame.eval_func, ↓IntWalk.iteOmega, *]; intros; omega) | (simp [go_sem, BigFrame.eval_const, BigFrame.eval_global, BigFrame.eval_func, ↓IntWalk.iteOmega, *]; intros; exfalso; omega)))
  refine (do_enter b off #[.pointer (some ⟨w.heap.size, 0, none⟩)] _ _ (by (first | (simp [go_sem, BigFrame.eval_const, BigFrame.eval_global, BigFrame.eval_func, ↓IntWalk.iteOmega, *]; done) | (simp [go_sem, BigFrame.eval_const, BigFrame.eval_global, BigFrame.eval_func, ↓IntWalk.iteOmega, *]; intros; omega) | (simp [go_sem, BigFrame.eval_const, BigFrame.eval_global, BigFrame.eval_func, ↓IntWalk.iteOmega, *]; intros; exfalso; omega))) (by (first | (simp [go_sem, BigFrame.eval_const, BigFrame.eval_global, BigFrame.eval_func, ↓IntWalk.iteOmega, *]; done) | (simp [go_sem, BigFrame.eval_const, BigFrame.eval_global, BigFrame.eval_func, ↓IntWalk.iteOmega, *]; intros; omega) | (simp [go_sem, BigFrame.eval_const, BigFrame.eval_global, BigFrame.eval_func, ↓IntWalk.iteOmega, *]; intros; exfalso; omega))) (by (first | (simp [go_sem, BigFrame.eval_const, BigFrame.eval_global, BigFrame.eval_func, ↓IntWalk.iteOmega, *]; done) | (simp [go_sem, BigFrame.eval_const, BigFrame.eval_global, BigFrame.eval_func, ↓IntWalk.iteOmega, *]; intros; omega) | (simp [go_sem, BigFrame.eval_const, BigFrame.eval_global, BigFrame.eval_func, ↓IntWalk.iteOmega, *]; intros; exfalso; omega))) (by (first | (simp [go_sem, BigFrame.eval_const, BigFrame.eval_global, BigFrame.eval_func, ↓IntWalk.iteOmega, *]; done) | (simp [go_sem, BigFrame.eval_const, BigFrame.eval_global, BigFrame.eval_func, ↓IntWalk.iteOmega, *]; intros; omega) | (simp [go_sem, BigFrame.eval_const, BigFrame.eval_global, BigFrame.eval_func, ↓IntWalk.iteOmega, *]; intros; exfalso; omega))) hent ?k0).mono ?_
  case k0 =>
    rintro w3 rfl
    refine ⟨by (first | (simp [go_sem, BigFrame.eval_const, BigFrame.eval_global, BigFrame.eval_func, ↓IntWalk.iteOmega, *]; done) | (simp [go_sem, BigFrame.eval_const, BigFrame.eval_global, BigFrame.eval_func, ↓IntWalk.iteOmega, *]; intros; omega) | (simp [go_sem, BigFrame.eval_const, BigFrame.eval_global, BigFrame.eval_func, ↓IntWalk.iteOmega, *]; intros; exfalso; omega)), by (first | (simp [go_sem, BigFrame.eval_const, BigFrame.eval_global, BigFrame.eval_func, ↓IntWalk.iteOmega, *]; done) | (simp [go_sem, BigFrame.eval_const, BigFrame.eval_global, BigFrame.eval_func, ↓IntWalk.iteOmega, *]; intros; omega) | (simp [go_sem, BigFrame.eval_const, BigFrame.eval_global, BigFrame.eval_func, ↓IntWalk.iteOmega, *]; intros; exfalso; omega)), by (first | (simp [go_sem, BigFrame.eval_const, BigFrame.eval_global, BigFrame.eval_func, ↓IntWalk.iteOmega, *]; done) | (simp [go_sem, BigFrame.eval_const, BigFrame.eval_global, BigFrame.eval_func, ↓IntWalk.iteOmega, *]; intros; omega) | (simp [go_sem, BigFrame.eval_const, BigFrame.eval_global, BigFrame.eval_func, ↓IntWalk.iteOmega, *]; intros; exfalso; omega)), by (first | (simp [go_sem, BigFrame.eval_const, BigFrame.eval_global, BigFrame.eval_func, ↓IntWalk.iteOmega, *]; done) | (simp [go_sem, BigFrame.eval_const, BigFrame.eval_global, BigFrame.eval_func, ↓IntWalk.iteOmega, *]; intros; omega) | (simp [go_sem, BigFrame.eval_const, BigFrame.eval_global, BigFrame.eval_func, ↓IntWalk.iteOmega, *]; intros; exfalso; omega))⟩
  clear hent
  rintro e w2 ⟨rfl, w3, rfl, rfl⟩
  have hL : DoorAt (((((((w.alloc (Obj.cells #[Value.pointer (some ⟨b, off, none⟩), Value.int .i64 n, Value.bool false] 134)).setCell ⟨b, off + 1, none⟩ (.int .i32 1)).setCell ⟨w.heap.size, 2, none⟩ (.bool true)).drew.setCell ⟨b, off + 4, none⟩ (.int .i64 n)).setCell ⟨b, off + 3, none⟩ (.int .i64 1)).drew.setCell ⟨b, off, none⟩ (.int .u32 1) |>.setCell ⟨b, off + 1, none⟩ (.int .i32 0))) b off true n :=
    ⟨by (first | (simp [go_sem, BigFrame.eval_const, BigFrame.eval_global, BigFrame.eval_func, ↓IntWalk.iteOmega, *]; done) | (simp [go_sem, BigFrame.eval_const, BigFrame.eval_global, BigFrame.eval_func, ↓IntWalk.iteOmega, *]; intros; omega) | (simp [go_sem, BigFrame.eval_const, BigFrame.eval_global, BigFrame.eval_func, ↓IntWalk.iteOmega, *]; intros; exfalso; omega)), by (first | (simp [go_sem, BigFrame.eval_const, BigFrame.eval_global, BigFrame.eval_func, ↓IntWalk.iteOmega, *]; done) | (simp [go_sem, BigFrame.eval_const, BigFrame.eval_global, BigFrame.eval_func, ↓IntWalk.iteOmega, *]; intros; omega) | (simp [go_sem, BigFrame.eval_const, BigFrame.eval_global, BigFrame.eval_func, ↓IntWalk.iteOmega, *]; intros; exfalso; omega)), by (first | (simp [go_sem, BigFrame.eval_const, BigFrame.eval_global, BigFrame.eval_func, ↓IntWalk.iteOmega, *]; done) | (simp [go_sem, BigFrame.eval_const, BigFrame.eval_global, BigFrame.eval_func, ↓IntWalk.iteOmega, *]; intros; omega) | (simp [go_sem, BigFrame.eval_const, BigFrame.eval_global, BigFrame.eval_func, ↓IntWalk.iteOmega, *]; intros; exfalso; omega)), by (first | (simp [go_sem, BigFrame.eval_const, BigFrame.eval_global, BigFrame.eval_func, ↓IntWalk.iteOmega, *]; done) | (simp [go_sem, BigFrame.eval_const, BigFrame.eval_global, BigFrame.eval_func, ↓IntWalk.iteOmega, *]; intros; omega) | (simp [go_sem, BigFrame.eval_const, BigFrame.eval_global, BigFrame.eval_func, ↓IntWalk.iteOmega, *]; intros; exfalso; omega)), by (first | (simp [go_sem, BigFrame.eval_const, BigFrame.eval_global, BigFrame.eval_func, ↓IntWalk.iteOmega, *]; done) | (simp [go_sem, BigFrame.eval_const, BigFrame.eval_global, BigFrame.eval_func, ↓IntWalk.iteOmega, *]; intros; omega) | (simp [go_sem, BigFrame.eval_const, BigFrame.eval_global, BigFrame.eval_func, ↓IntWalk.iteOmega, *]; intros; exfalso; omega)), by (first | (simp [go_sem, BigFrame.eval_const, BigFrame.eval_global, BigFrame.eval_func, ↓IntWalk.iteOmega, *]; done) | (simp [go_sem, BigFrame.eval_const, BigFrame.eval_global, BigFrame.eval_func, ↓IntWalk.iteOmega, *]; intros; omega) | (simp [go_sem, BigFrame.eval_const, BigFrame.eval_global, BigFrame.eval_func, ↓IntWalk.iteOmega, *]; intros; exfalso; omega)), by (first | (simp [go_sem, BigFrame.eval_const, BigFrame.eval_global, BigFrame.eval_func, ↓IntWalk.iteOmega, *]; done) | (simp [go_sem, BigFrame.eval_const, BigFrame.eval_global, BigFrame.eval_func, ↓IntWalk.iteOmega, *]; intros; omega) | (simp [go_sem, BigFrame.eval_const, BigFrame.eval_global, BigFrame.eval_func, ↓IntWalk.iteOmega, *]; intros; exfalso; omega)), by (first | (simp [go_sem, BigFrame.eval_const, BigFrame.eval_global, BigFrame.eval_func, ↓IntWalk.iteOmega, *]; done) | (simp [go_sem, BigFrame.eval_const, BigFrame.eval_global, BigFrame.eval_func, ↓IntWalk.iteOmega, *]; intros; omega) | (simp [go_sem, BigFrame.eval_const, BigFrame.eval_global, BigFrame.eval_func, ↓IntWalk.iteOmega, *]; intros; exfalso; omega))⟩
  have hk2 : (((((((w.alloc (Obj.cells #[Value.pointer (some ⟨b, off, none⟩), Value.int .i64 n, Value.bool false] 134)).setCell ⟨b, off + 1, none⟩ (.int .i32 1)).setCell ⟨w.heap.size, 2, none⟩ (.bool true)).drew.setCell ⟨b, off + 4, none⟩ (.int .i64 n)).setCell ⟨b, off + 3, none⟩ (.int .i64 1)).drew.setCell ⟨b, off, none⟩ (.int .u32 1) |>.setCell ⟨b, off + 1, none⟩ (.int .i32 0))).cell? ⟨w.heap.size, 2, none⟩ = some (.bool true) := by (first | (simp [go_sem, BigFrame.eval_const, BigFrame.eval_global, BigFrame.eval_func, ↓IntWalk.iteOmega, *]; done) | (simp [go_sem, BigFrame.eval_const, BigFrame.eval_global, BigFrame.eval_func, ↓IntWalk.iteOmega, *]; intros; omega) | (simp [go_sem, BigFrame.eval_const, BigFrame.eval_global, BigFrame.eval_func, ↓IntWalk.iteOmega, *]; intros; exfalso; omega))
  have hfr : Fr w.heap.size [b] w (((((((w.alloc (Obj.cells #[Value.pointer (some ⟨b, off, none⟩), Value.int .i64 n, Value.bool false] 134)).setCell ⟨b, off + 1, none⟩ (.int .i32 1)).setCell ⟨w.heap.size, 2, none⟩ (.bool true)).drew.setCell ⟨b, off + 4, none⟩ (.int .i64 n)).setCell ⟨b, off + 3, none⟩ (.int .i64 1)).drew.setCell ⟨b, off, none⟩ (.int .u32 1) |>.setCell ⟨b, off + 1, none⟩ (.int .i32 0))) :=
    ((((((((Fr.refl _ _ _).alloc (Nat.le_refl _) _).setCell (.inl (by simp)) _).setCell (.inr (by simp)) _).drew.setCell (.inl (by simp)) _).setCell (.inl (by simp)) _).drew.setCell (.inl (by simp)) _).setCell (.inl (by simp)) _)
  have hothers : ∀ j, (j < off ∨ off + 5 ≤ j) → (((((((w.alloc (Obj.cells #[Value.pointer (some ⟨b, off, none⟩), Value.int .i64 n, Value.bool false] 134)).setCell ⟨b, off + 1, none⟩ (.int .i32 1)).setCell ⟨w.heap.size, 2, none⟩ (.bool true)).drew.setCell ⟨b, off + 4, none⟩ (.int .i64 n)).setCell ⟨b, off + 3, none⟩ (.int .i64 1)).drew.setCell ⟨b, off, none⟩ (.int .u32 1) |>.setCell ⟨b, off + 1, none⟩ (.int .i32 0))).cell? ⟨b, j, none⟩ = w.cell? ⟨b, j, none⟩ ∧ (((((((w.alloc (Obj.cells #[Value.pointer (some ⟨b, off, none⟩), Value.int .i64 n, Value.bool false] 134)).setCell ⟨b, off + 1, none⟩ (.int .i32 1)).setCell ⟨w.heap.size, 2, none⟩ (.bool true)).drew.setCell ⟨b, off + 4, none⟩ (.int .i64 n)).setCell ⟨b, off + 3, none⟩ (.int .i64 1)).drew.setCell ⟨b, off, none⟩ (.int .u32 1) |>.setCell ⟨b, off + 1, none⟩ (.int .i32 0))).frozen? ⟨b, j, none⟩ = w.frozen? ⟨b, j, none⟩ := by
    intro j hj
    refine ⟨by (first | (simp [go_sem, BigFrame.eval_const, BigFrame.eval_global, BigFrame.eval_func, ↓IntWalk.iteOmega, *]; done) | (simp [go_sem, BigFrame.eval_const, BigFrame.eval_global, BigFrame.eval_func, ↓IntWalk.iteOmega, *]; intros; omega) | (simp [go_sem, BigFrame.eval_const, BigFrame.eval_global, BigFrame.eval_func, ↓IntWalk.iteOmega, *]; intros; exfalso; omega)), by (first | (simp [go_sem, BigFrame.eval_const, BigFrame.eval_global, BigFrame.eval_func, ↓IntWalk.iteOmega, *]; done) | (simp [go_sem, BigFrame.eval_const, BigFrame.eval_global, BigFrame.eval_func, ↓IntWalk.iteOmega, *]; intros; omega) | (simp [go_sem, BigFrame.eval_const, BigFrame.eval_global, BigFrame.eval_func, ↓IntWalk.iteOmega, *]; intros; exfalso; omega))⟩
  have HL := Lib.hid hL
  have HFR := Lib.hid hfr
  have HO := Lib.hid hothers
  generalize (((((((w.alloc (Obj.cells #[Value.pointer (some ⟨b, off, none⟩), Value.int .i64 n, Value.bool false] 134)).setCell ⟨b, off + 1, none⟩ (.int .i32 1)).setCell ⟨w.heap.size, 2, none⟩ (.bool true)).drew.setCell ⟨b, off + 4, none⟩ (.int .i64 n)).setCell ⟨b, off + 3, none⟩ (.int .i64 1)).drew.setCell ⟨b, off, none⟩ (.int .u32 1) |>.setCell ⟨b, off + 1, none⟩ (.int .i32 0))) = WX at *
  clear hL hfr hothers
  go_wp2_with fail
  go_ret
  exact ⟨rfl, HFR.out, HL.out, HO.out⟩
end Go.Proofs.Ytgbnpdgaalpkcaa.L5
