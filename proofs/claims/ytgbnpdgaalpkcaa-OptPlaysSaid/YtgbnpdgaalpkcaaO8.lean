/- the walk of OptPlays -/
import Derived.Test.YtgbnpdgaalpkcaaO2
import Derived.Test.YtgbnpdgaalpkcaaK3
namespace Go.Proofs.Ytgbnpdgaalpkcaa.O8
set_option linter.unusedVariables false
set_option linter.unusedSimpArgs false
open Go.RowKit O1 K1 O2 K3
attribute [local go_sem] cell_pastA froz_pastA

theorem valid_cases {s : Int} {o : Bool} (h : valid s o = true) : (s = 0 ∧ o = false) ∨ (s = 1 ∧ o = false) ∨ s = 2 ∨ s = 3 := by
  simp [valid] at h; cases o <;> simp at h ⊢ <;> omega
theorem ask_law {s : Int} {o : Bool} (want : Bool) (h : valid s o = true) : valid (askF s o want).1.1 (askF s o want).1.2 = true ∧
    ((askF s o want).2 = 0 ∨ ((askF s o want).2 = 1 ∧ s = 0) ∨ ((askF s o want).2 = -1 ∧ s = 1)) := by
  rcases valid_cases h with ⟨rfl, rfl⟩ | ⟨rfl, rfl⟩ | rfl | rfl <;> cases want <;> (try cases o) <;> decide
theorem heard_law {s : Int} {o : Bool} (on agree : Bool) (h : valid s o = true) : valid (heardF s o on agree).1.1 (heardF s o on agree).1.2 = true ∧
    ((heardF s o on agree).2 = 0 ∨ ((heardF s o on agree).2 = 1 ∧ s ≠ 1 ∧ ¬ (on = false ∧ s = 0)) ∨ ((heardF s o on agree).2 = -1 ∧ ¬ (on = true ∧ s = 1) ∧ ¬ (on = false ∧ s = 0))) ∧
    (s = 1 → o = false ∧ (on = true → heardF s o on agree = ((1, false), 0))) ∧ (s = 0 → o = false ∧ (on = false → heardF s o on agree = ((0, false), 0))) := by
  rcases valid_cases h with ⟨rfl, rfl⟩ | ⟨rfl, rfl⟩ | rfl | rfl <;> cases on <;> cases agree <;> (try cases o) <;> decide

set_option maxRecDepth 100000 in
set_option maxHeartbeats 8000000 in
theorem plays_any (ao : Option Addr) (b off N cap : Nat) (A F G : Nat → Bool) (w : World) (hao : ao = some ⟨b, off, none⟩ ∨ N = 0) (hcap : N ≤ cap) (hb : 0 < N → b < w.heap.size)
    (hc : ∀ k, k < N → w.cell? ⟨b, off + k * 3, none⟩ = some (.bool (A k)) ∧ w.cell? ⟨b, off + k * 3 + 1, none⟩ = some (.bool (F k)) ∧ w.cell? ⟨b, off + k * 3 + 2, none⟩ = some (.bool (G k))) :
    Calls Try.prog 3 #[.slice ao N cap] w fun e w' => e = .returned (.bool true) ∧ Below w.heap.size w w' := by
  by_cases hn : N ≤ 100
  · go_enter Try.func3, Try.ntmps3
    go_wp2_with (first | (go_at_call 13; refine (alive_any _).mono ?_; rintro e w1 ⟨rfl, hb1⟩; obtain ⟨hc1, hf1, hz1⟩ := aft hb1; try simp at hz1))
    go_loopw [4, 5, 6] (fun x y i wr => ∃ (k hd an : Nat) (s : Int) (o : Bool), k ≤ N ∧ hd ≤ k ∧ an ≤ hd ∧ valid s o = true ∧ x = .int .i64 hd ∧ y = .int .i64 an ∧ i = .int .i64 k ∧ Below w.heap.size w wr ∧ wr.cell? ⟨w1.heap.size, 0, none⟩ = some (.int .i64 s) ∧ wr.cell? ⟨w1.heap.size, 1, none⟩ = some (.bool o) ∧ wr.frozen? ⟨w1.heap.size, 0, none⟩ = false ∧ wr.frozen? ⟨w1.heap.size, 1, none⟩ = false ∧ w1.heap.size < wr.heap.size) (fun _ _ i _ => N - (intOf i).toNat)
    case atStart => exact ⟨0, 0, 0, 0, false, by omega, by omega, by omega, by decide, rfl, rfl, rfl, by repeat' (first | assumption | exact Below.refl _ _ | apply Below.alloc | apply Below.setCell | apply Below.drew | (refine Below.trans ?_ (Below.mono (by assumption) ?_)) | omega | (simp; omega) | (simp; done)), by (first | (simp [go_sem, BigFrame.eval_const, BigFrame.eval_global, BigFrame.eval_func, ↓IntWalk.iteOmega, *]; done) | (simp [go_sem, BigFrame.eval_const, BigFrame.eval_global, BigFrame.eval_func, ↓IntWalk.iteOmega, *]; intros; omega) | (simp [go_sem, BigFrame.eval_const, BigFrame.eval_global, BigFrame.eval_func, ↓IntWalk.iteOmega, *]; intros; exfalso; omega)), by (first | (simp [go_sem, BigFrame.eval_const, BigFrame.eval_global, BigFrame.eval_func, ↓IntWalk.iteOmega, *]; done) | (simp [go_sem, BigFrame.eval_const, BigFrame.eval_global, BigFrame.eval_func, ↓IntWalk.iteOmega, *]; intros; omega) | (simp [go_sem, BigFrame.eval_const, BigFrame.eval_global, BigFrame.eval_func, ↓IntWalk.iteOmega, *]; intros; exfalso; omega)), by (first | (simp [go_sem, BigFrame.eval_const, BigFrame.eval_global, BigFrame.eval_func, ↓IntWalk.iteOmega, *]; done) | (simp [go_sem, BigFrame.eval_const, BigFrame.eval_global, BigFrame.eval_func, ↓IntWalk.iteOmega, *]; intros; omega) | (simp [go_sem, BigFrame.eval_const, BigFrame.eval_global, BigFrame.eval_func, ↓IntWalk.iteOmega, *]; intros; exfalso; omega)), by (first | (simp [go_sem, BigFrame.eval_const, BigFrame.eval_global, BigFrame.eval_func, ↓IntWalk.iteOmega, *]; done) | (simp [go_sem, BigFrame.eval_const, BigFrame.eval_global, BigFrame.eval_func, ↓IntWalk.iteOmega, *]; intros; omega) | (simp [go_sem, BigFrame.eval_const, BigFrame.eval_global, BigFrame.eval_func, ↓IntWalk.iteOmega, *]; intros; exfalso; omega)), by (first | (simp [go_sem, BigFrame.eval_const, BigFrame.eval_global, BigFrame.eval_func, ↓IntWalk.iteOmega, *]; done) | (simp [go_sem, BigFrame.eval_const, BigFrame.eval_global, BigFrame.eval_func, ↓IntWalk.iteOmega, *]; intros; omega) | (simp [go_sem, BigFrame.eval_const, BigFrame.eval_global, BigFrame.eval_func, ↓IntWalk.iteOmega, *]; intros; exfalso; omega))⟩
    case round =>
      obtain ⟨k, hd, an, s, o, hk, hh, ha, hv, rfl, rfl, rfl, hB, hs0, hs1, hf0, hf1, hsz⟩ := hrel
      by_cases hlt : k < N
      · obtain rfl : ao = some ⟨b, off, none⟩ := by rcases hao with h | h; exact h; omega
        replace hb := hb (by omega)
        obtain ⟨c0, c1, c2⟩ := hc k hlt
        have hzr := hB.size
        rw [← hB.cell (p := ⟨b, _, none⟩) hb] at c0 c1 c2
        clear hc
        cases hA : A k
        · rw [hA] at c0
          obtain ⟨l1, l2, l3, l4⟩ := heard_law (F k) (G k) hv
          cases hF : F k
          · by_cases hs : s = 0
            · obtain ⟨rfl, e0⟩ := l4 hs
              subst hs
              rw [hF] at c1
              rw [hF] at l1 e0
              replace e0 := e0 rfl
              rw [e0] at l1
              clear l2 l3 l4
              · 
                go_wp2_with fail
                refine wp_region_hush_tail (C := fun x => Below (wr.heap.size + 1) (wr.alloc (Obj.cells #[Value.int IntKind.i64 _, Value.bool _] 25)) x) 12 (by kernel_rfl) (by kernel_rfl) (fun _ _ dx _ _ hx => by cases dx <;> exact hx) (Below.drew (Below.refl _ _)) ?_
                simp only [List.take_succ_cons, List.take_zero, List.drop_succ_cons, List.drop_zero]
                iterate 12 (refine wpQuiet_step (fun K hK => ?_); (first | (refine hush_skip ?_ ?_; (focus (go_simp; done)); (try go_simp); refine hK _ ?_; clear hK K) | (refine hush_do ?_ ?_; (focus (go_simp; done)); apply Exists.intro; refine ⟨fun wx hwx => ?_, ?_⟩; (focus ((have hcx := cellA hwx); (have hzx := hwx.size); (try simp at hzx); (try simp [go_sem, BigFrame.eval_const, BigFrame.eval_global, BigFrame.eval_func, ↓IntWalk.iteOmega, *]); (first | done | rfl | (go_at_call 15; refine (heard_any _ _ _ _ _).mono ?_; rintro e wy ⟨rfl, hby⟩; exact ⟨rfl, hwx.trans (hby.mono (by have := hwx.size; simp at this; simp; omega))⟩)))); (try go_simp); refine hK _ ?_; clear hK K)))
                refine wpQuiet_nil ?_
                intro wq hbq
                have hcwq := cellA hbq
                have hfwq := frozA hbq
                have hzwq := hbq.size
                try simp at hzwq
                go_wp2_with (first | (go_at_call 16; refine (valid_any _ _ _).mono ?_; rintro e wx ⟨rfl, rfl⟩))
                go_roundw
                case rel => exact ⟨k + 1, hd + 1, an, _, _, by omega, by omega, by omega, l1, by go_num, by go_num, by go_num, by repeat' (first | assumption | exact Below.refl _ _ | apply Below.alloc | apply Below.setCell | apply Below.drew | (refine Below.trans ?_ (Below.mono (by assumption) ?_)) | omega | (simp; omega) | (simp; done)), by (first | (simp [go_sem, BigFrame.eval_const, BigFrame.eval_global, BigFrame.eval_func, ↓IntWalk.iteOmega, *]; done) | (simp [go_sem, BigFrame.eval_const, BigFrame.eval_global, BigFrame.eval_func, ↓IntWalk.iteOmega, *]; intros; omega) | (simp [go_sem, BigFrame.eval_const, BigFrame.eval_global, BigFrame.eval_func, ↓IntWalk.iteOmega, *]; intros; exfalso; omega)), by (first | (simp [go_sem, BigFrame.eval_const, BigFrame.eval_global, BigFrame.eval_func, ↓IntWalk.iteOmega, *]; done) | (simp [go_sem, BigFrame.eval_const, BigFrame.eval_global, BigFrame.eval_func, ↓IntWalk.iteOmega, *]; intros; omega) | (simp [go_sem, BigFrame.eval_const, BigFrame.eval_global, BigFrame.eval_func, ↓IntWalk.iteOmega, *]; intros; exfalso; omega)), by (first | (simp [go_sem, BigFrame.eval_const, BigFrame.eval_global, BigFrame.eval_func, ↓IntWalk.iteOmega, *]; done) | (simp [go_sem, BigFrame.eval_const, BigFrame.eval_global, BigFrame.eval_func, ↓IntWalk.iteOmega, *]; intros; omega) | (simp [go_sem, BigFrame.eval_const, BigFrame.eval_global, BigFrame.eval_func, ↓IntWalk.iteOmega, *]; intros; exfalso; omega)), by (first | (simp [go_sem, BigFrame.eval_const, BigFrame.eval_global, BigFrame.eval_func, ↓IntWalk.iteOmega, *]; done) | (simp [go_sem, BigFrame.eval_const, BigFrame.eval_global, BigFrame.eval_func, ↓IntWalk.iteOmega, *]; intros; omega) | (simp [go_sem, BigFrame.eval_const, BigFrame.eval_global, BigFrame.eval_func, ↓IntWalk.iteOmega, *]; intros; exfalso; omega)), by (first | (simp [go_sem, BigFrame.eval_const, BigFrame.eval_global, BigFrame.eval_func, ↓IntWalk.iteOmega, *]; done) | (simp [go_sem, BigFrame.eval_const, BigFrame.eval_global, BigFrame.eval_func, ↓IntWalk.iteOmega, *]; intros; omega) | (simp [go_sem, BigFrame.eval_const, BigFrame.eval_global, BigFrame.eval_func, ↓IntWalk.iteOmega, *]; intros; exfalso; omega))⟩
                case measure => simp [intOf]; omega
            · have hs' : (s == 0) = false := by simpa using hs
              rw [hF] at c1 l1 l2
              clear l3 l4
              rcases l2 with l2 | ⟨l2, q, -⟩ | ⟨l2, -, -⟩
              · 
                go_wp2_with fail
                refine wp_region_hush_tail (C := fun x => Below (wr.heap.size + 1) (wr.alloc (Obj.cells #[Value.int IntKind.i64 _, Value.bool _] 25)) x) 12 (by kernel_rfl) (by kernel_rfl) (fun _ _ dx _ _ hx => by cases dx <;> exact hx) (Below.drew (Below.refl _ _)) ?_
                simp only [List.take_succ_cons, List.take_zero, List.drop_succ_cons, List.drop_zero]
                iterate 12 (refine wpQuiet_step (fun K hK => ?_); (first | (refine hush_skip ?_ ?_; (focus (go_simp; done)); (try go_simp); refine hK _ ?_; clear hK K) | (refine hush_do ?_ ?_; (focus (go_simp; done)); apply Exists.intro; refine ⟨fun wx hwx => ?_, ?_⟩; (focus ((have hcx := cellA hwx); (have hzx := hwx.size); (try simp at hzx); (try simp [go_sem, BigFrame.eval_const, BigFrame.eval_global, BigFrame.eval_func, ↓IntWalk.iteOmega, *]); (first | done | rfl | (go_at_call 15; refine (heard_any _ _ _ _ _).mono ?_; rintro e wy ⟨rfl, hby⟩; exact ⟨rfl, hwx.trans (hby.mono (by have := hwx.size; simp at this; simp; omega))⟩)))); (try go_simp); refine hK _ ?_; clear hK K)))
                refine wpQuiet_nil ?_
                intro wq hbq
                have hcwq := cellA hbq
                have hfwq := frozA hbq
                have hzwq := hbq.size
                try simp at hzwq
                go_wp2_with (first | (go_at_call 16; refine (valid_any _ _ _).mono ?_; rintro e wx ⟨rfl, rfl⟩))
                go_roundw
                case rel => exact ⟨k + 1, hd + 1, an, _, _, by omega, by omega, by omega, l1, by go_num, by go_num, by go_num, by repeat' (first | assumption | exact Below.refl _ _ | apply Below.alloc | apply Below.setCell | apply Below.drew | (refine Below.trans ?_ (Below.mono (by assumption) ?_)) | omega | (simp; omega) | (simp; done)), by (first | (simp [go_sem, BigFrame.eval_const, BigFrame.eval_global, BigFrame.eval_func, ↓IntWalk.iteOmega, *]; done) | (simp [go_sem, BigFrame.eval_const, BigFrame.eval_global, BigFrame.eval_func, ↓IntWalk.iteOmega, *]; intros; omega) | (simp [go_sem, BigFrame.eval_const, BigFrame.eval_global, BigFrame.eval_func, ↓IntWalk.iteOmega, *]; intros; exfalso; omega)), by (first | (simp [go_sem, BigFrame.eval_const, BigFrame.eval_global, BigFrame.eval_func, ↓IntWalk.iteOmega, *]; done) | (simp [go_sem, BigFrame.eval_const, BigFrame.eval_global, BigFrame.eval_func, ↓IntWalk.iteOmega, *]; intros; omega) | (simp [go_sem, BigFrame.eval_const, BigFrame.eval_global, BigFrame.eval_func, ↓IntWalk.iteOmega, *]; intros; exfalso; omega)), by (first | (simp [go_sem, BigFrame.eval_const, BigFrame.eval_global, BigFrame.eval_func, ↓IntWalk.iteOmega, *]; done) | (simp [go_sem, BigFrame.eval_const, BigFrame.eval_global, BigFrame.eval_func, ↓IntWalk.iteOmega, *]; intros; omega) | (simp [go_sem, BigFrame.eval_const, BigFrame.eval_global, BigFrame.eval_func, ↓IntWalk.iteOmega, *]; intros; exfalso; omega)), by (first | (simp [go_sem, BigFrame.eval_const, BigFrame.eval_global, BigFrame.eval_func, ↓IntWalk.iteOmega, *]; done) | (simp [go_sem, BigFrame.eval_const, BigFrame.eval_global, BigFrame.eval_func, ↓IntWalk.iteOmega, *]; intros; omega) | (simp [go_sem, BigFrame.eval_const, BigFrame.eval_global, BigFrame.eval_func, ↓IntWalk.iteOmega, *]; intros; exfalso; omega)), by (first | (simp [go_sem, BigFrame.eval_const, BigFrame.eval_global, BigFrame.eval_func, ↓IntWalk.iteOmega, *]; done) | (simp [go_sem, BigFrame.eval_const, BigFrame.eval_global, BigFrame.eval_func, ↓IntWalk.iteOmega, *]; intros; omega) | (simp [go_sem, BigFrame.eval_const, BigFrame.eval_global, BigFrame.eval_func, ↓IntWalk.iteOmega, *]; intros; exfalso; omega))⟩
                case measure => simp [intOf]; omega
              · have hs1' : (s == 1) = false := by simpa using q
                clear q
                · 
                  go_wp2_with fail
                  refine wp_region_hush_tail (C := fun x => Below (wr.heap.size + 1) (wr.alloc (Obj.cells #[Value.int IntKind.i64 _, Value.bool _] 25)) x) 12 (by kernel_rfl) (by kernel_rfl) (fun _ _ dx _ _ hx => by cases dx <;> exact hx) (Below.drew (Below.refl _ _)) ?_
                  simp only [List.take_succ_cons, List.take_zero, List.drop_succ_cons, List.drop_zero]
                  iterate 12 (refine wpQuiet_step (fun K hK => ?_); (first | (refine hush_skip ?_ ?_; (focus (go_simp; done)); (try go_simp); refine hK _ ?_; clear hK K) | (refine hush_do ?_ ?_; (focus (go_simp; done)); apply Exists.intro; refine ⟨fun wx hwx => ?_, ?_⟩; (focus ((have hcx := cellA hwx); (have hzx := hwx.size); (try simp at hzx); (try simp [go_sem, BigFrame.eval_const, BigFrame.eval_global, BigFrame.eval_func, ↓IntWalk.iteOmega, *]); (first | done | rfl | (go_at_call 15; refine (heard_any _ _ _ _ _).mono ?_; rintro e wy ⟨rfl, hby⟩; exact ⟨rfl, hwx.trans (hby.mono (by have := hwx.size; simp at this; simp; omega))⟩)))); (try go_simp); refine hK _ ?_; clear hK K)))
                  refine wpQuiet_nil ?_
                  intro wq hbq
                  have hcwq := cellA hbq
                  have hfwq := frozA hbq
                  have hzwq := hbq.size
                  try simp at hzwq
                  go_wp2_with (first | (go_at_call 16; refine (valid_any _ _ _).mono ?_; rintro e wx ⟨rfl, rfl⟩))
                  go_roundw
                  case rel => exact ⟨k + 1, hd + 1, an + 1, _, _, by omega, by omega, by omega, l1, by go_num, by go_num, by go_num, by repeat' (first | assumption | exact Below.refl _ _ | apply Below.alloc | apply Below.setCell | apply Below.drew | (refine Below.trans ?_ (Below.mono (by assumption) ?_)) | omega | (simp; omega) | (simp; done)), by (first | (simp [go_sem, BigFrame.eval_const, BigFrame.eval_global, BigFrame.eval_func, ↓IntWalk.iteOmega, *]; done) | (simp [go_sem, BigFrame.eval_const, BigFrame.eval_global, BigFrame.eval_func, ↓IntWalk.iteOmega, *]; intros; omega) | (simp [go_sem, BigFrame.eval_const, BigFrame.eval_global, BigFrame.eval_func, ↓IntWalk.iteOmega, *]; intros; exfalso; omega)), by (first | (simp [go_sem, BigFrame.eval_const, BigFrame.eval_global, BigFrame.eval_func, ↓IntWalk.iteOmega, *]; done) | (simp [go_sem, BigFrame.eval_const, BigFrame.eval_global, BigFrame.eval_func, ↓IntWalk.iteOmega, *]; intros; omega) | (simp [go_sem, BigFrame.eval_const, BigFrame.eval_global, BigFrame.eval_func, ↓IntWalk.iteOmega, *]; intros; exfalso; omega)), by (first | (simp [go_sem, BigFrame.eval_const, BigFrame.eval_global, BigFrame.eval_func, ↓IntWalk.iteOmega, *]; done) | (simp [go_sem, BigFrame.eval_const, BigFrame.eval_global, BigFrame.eval_func, ↓IntWalk.iteOmega, *]; intros; omega) | (simp [go_sem, BigFrame.eval_const, BigFrame.eval_global, BigFrame.eval_func, ↓IntWalk.iteOmega, *]; intros; exfalso; omega)), by (first | (simp [go_sem, BigFrame.eval_const, BigFrame.eval_global, BigFrame.eval_func, ↓IntWalk.iteOmega, *]; done) | (simp [go_sem, BigFrame.eval_const, BigFrame.eval_global, BigFrame.eval_func, ↓IntWalk.iteOmega, *]; intros; omega) | (simp [go_sem, BigFrame.eval_const, BigFrame.eval_global, BigFrame.eval_func, ↓IntWalk.iteOmega, *]; intros; exfalso; omega)), by (first | (simp [go_sem, BigFrame.eval_const, BigFrame.eval_global, BigFrame.eval_func, ↓IntWalk.iteOmega, *]; done) | (simp [go_sem, BigFrame.eval_const, BigFrame.eval_global, BigFrame.eval_func, ↓IntWalk.iteOmega, *]; intros; omega) | (simp [go_sem, BigFrame.eval_const, BigFrame.eval_global, BigFrame.eval_func, ↓IntWalk.iteOmega, *]; intros; exfalso; omega))⟩
                  case measure => simp [intOf]; omega
              · 
                go_wp2_with fail
                refine wp_region_hush_tail (C := fun x => Below (wr.heap.size + 1) (wr.alloc (Obj.cells #[Value.int IntKind.i64 _, Value.bool _] 25)) x) 12 (by kernel_rfl) (by kernel_rfl) (fun _ _ dx _ _ hx => by cases dx <;> exact hx) (Below.drew (Below.refl _ _)) ?_
                simp only [List.take_succ_cons, List.take_zero, List.drop_succ_cons, List.drop_zero]
                iterate 12 (refine wpQuiet_step (fun K hK => ?_); (first | (refine hush_skip ?_ ?_; (focus (go_simp; done)); (try go_simp); refine hK _ ?_; clear hK K) | (refine hush_do ?_ ?_; (focus (go_simp; done)); apply Exists.intro; refine ⟨fun wx hwx => ?_, ?_⟩; (focus ((have hcx := cellA hwx); (have hzx := hwx.size); (try simp at hzx); (try simp [go_sem, BigFrame.eval_const, BigFrame.eval_global, BigFrame.eval_func, ↓IntWalk.iteOmega, *]); (first | done | rfl | (go_at_call 15; refine (heard_any _ _ _ _ _).mono ?_; rintro e wy ⟨rfl, hby⟩; exact ⟨rfl, hwx.trans (hby.mono (by have := hwx.size; simp at this; simp; omega))⟩)))); (try go_simp); refine hK _ ?_; clear hK K)))
                refine wpQuiet_nil ?_
                intro wq hbq
                have hcwq := cellA hbq
                have hfwq := frozA hbq
                have hzwq := hbq.size
                try simp at hzwq
                go_wp2_with (first | (go_at_call 16; refine (valid_any _ _ _).mono ?_; rintro e wx ⟨rfl, rfl⟩))
                go_roundw
                case rel => exact ⟨k + 1, hd + 1, an + 1, _, _, by omega, by omega, by omega, l1, by go_num, by go_num, by go_num, by repeat' (first | assumption | exact Below.refl _ _ | apply Below.alloc | apply Below.setCell | apply Below.drew | (refine Below.trans ?_ (Below.mono (by assumption) ?_)) | omega | (simp; omega) | (simp; done)), by (first | (simp [go_sem, BigFrame.eval_const, BigFrame.eval_global, BigFrame.eval_func, ↓IntWalk.iteOmega, *]; done) | (simp [go_sem, BigFrame.eval_const, BigFrame.eval_global, BigFrame.eval_func, ↓IntWalk.iteOmega, *]; intros; omega) | (simp [go_sem, BigFrame.eval_const, BigFrame.eval_global, BigFrame.eval_func, ↓IntWalk.iteOmega, *]; intros; exfalso; omega)), by (first | (simp [go_sem, BigFrame.eval_const, BigFrame.eval_global, BigFrame.eval_func, ↓IntWalk.iteOmega, *]; done) | (simp [go_sem, BigFrame.eval_const, BigFrame.eval_global, BigFrame.eval_func, ↓IntWalk.iteOmega, *]; intros; omega) | (simp [go_sem, BigFrame.eval_const, BigFrame.eval_global, BigFrame.eval_func, ↓IntWalk.iteOmega, *]; intros; exfalso; omega)), by (first | (simp [go_sem, BigFrame.eval_const, BigFrame.eval_global, BigFrame.eval_func, ↓IntWalk.iteOmega, *]; done) | (simp [go_sem, BigFrame.eval_const, BigFrame.eval_global, BigFrame.eval_func, ↓IntWalk.iteOmega, *]; intros; omega) | (simp [go_sem, BigFrame.eval_const, BigFrame.eval_global, BigFrame.eval_func, ↓IntWalk.iteOmega, *]; intros; exfalso; omega)), by (first | (simp [go_sem, BigFrame.eval_const, BigFrame.eval_global, BigFrame.eval_func, ↓IntWalk.iteOmega, *]; done) | (simp [go_sem, BigFrame.eval_const, BigFrame.eval_global, BigFrame.eval_func, ↓IntWalk.iteOmega, *]; intros; omega) | (simp [go_sem, BigFrame.eval_const, BigFrame.eval_global, BigFrame.eval_func, ↓IntWalk.iteOmega, *]; intros; exfalso; omega)), by (first | (simp [go_sem, BigFrame.eval_const, BigFrame.eval_global, BigFrame.eval_func, ↓IntWalk.iteOmega, *]; done) | (simp [go_sem, BigFrame.eval_const, BigFrame.eval_global, BigFrame.eval_func, ↓IntWalk.iteOmega, *]; intros; omega) | (simp [go_sem, BigFrame.eval_const, BigFrame.eval_global, BigFrame.eval_func, ↓IntWalk.iteOmega, *]; intros; exfalso; omega))⟩
                case measure => simp [intOf]; omega
          · by_cases hs : s = 1
            · obtain ⟨rfl, e0⟩ := l3 hs
              subst hs
              rw [hF] at c1
              rw [hF] at l1 e0
              replace e0 := e0 rfl
              rw [e0] at l1
              clear l2 l3 l4
              · 
                go_wp2_with fail
                refine wp_region_hush_tail (C := fun x => Below (wr.heap.size + 1) (wr.alloc (Obj.cells #[Value.int IntKind.i64 _, Value.bool _] 25)) x) 12 (by kernel_rfl) (by kernel_rfl) (fun _ _ dx _ _ hx => by cases dx <;> exact hx) (Below.drew (Below.refl _ _)) ?_
                simp only [List.take_succ_cons, List.take_zero, List.drop_succ_cons, List.drop_zero]
                iterate 12 (refine wpQuiet_step (fun K hK => ?_); (first | (refine hush_skip ?_ ?_; (focus (go_simp; done)); (try go_simp); refine hK _ ?_; clear hK K) | (refine hush_do ?_ ?_; (focus (go_simp; done)); apply Exists.intro; refine ⟨fun wx hwx => ?_, ?_⟩; (focus ((have hcx := cellA hwx); (have hzx := hwx.size); (try simp at hzx); (try simp [go_sem, BigFrame.eval_const, BigFrame.eval_global, BigFrame.eval_func, ↓IntWalk.iteOmega, *]); (first | done | rfl | (go_at_call 15; refine (heard_any _ _ _ _ _).mono ?_; rintro e wy ⟨rfl, hby⟩; exact ⟨rfl, hwx.trans (hby.mono (by have := hwx.size; simp at this; simp; omega))⟩)))); (try go_simp); refine hK _ ?_; clear hK K)))
                refine wpQuiet_nil ?_
                intro wq hbq
                have hcwq := cellA hbq
                have hfwq := frozA hbq
                have hzwq := hbq.size
                try simp at hzwq
                go_wp2_with (first | (go_at_call 16; refine (valid_any _ _ _).mono ?_; rintro e wx ⟨rfl, rfl⟩))
                go_roundw
                case rel => exact ⟨k + 1, hd + 1, an, _, _, by omega, by omega, by omega, l1, by go_num, by go_num, by go_num, by repeat' (first | assumption | exact Below.refl _ _ | apply Below.alloc | apply Below.setCell | apply Below.drew | (refine Below.trans ?_ (Below.mono (by assumption) ?_)) | omega | (simp; omega) | (simp; done)), by (first | (simp [go_sem, BigFrame.eval_const, BigFrame.eval_global, BigFrame.eval_func, ↓IntWalk.iteOmega, *]; done) | (simp [go_sem, BigFrame.eval_const, BigFrame.eval_global, BigFrame.eval_func, ↓IntWalk.iteOmega, *]; intros; omega) | (simp [go_sem, BigFrame.eval_const, BigFrame.eval_global, BigFrame.eval_func, ↓IntWalk.iteOmega, *]; intros; exfalso; omega)), by (first | (simp [go_sem, BigFrame.eval_const, BigFrame.eval_global, BigFrame.eval_func, ↓IntWalk.iteOmega, *]; done) | (simp [go_sem, BigFrame.eval_const, BigFrame.eval_global, BigFrame.eval_func, ↓IntWalk.iteOmega, *]; intros; omega) | (simp [go_sem, BigFrame.eval_const, BigFrame.eval_global, BigFrame.eval_func, ↓IntWalk.iteOmega, *]; intros; exfalso; omega)), by (first | (simp [go_sem, BigFrame.eval_const, BigFrame.eval_global, BigFrame.eval_func, ↓IntWalk.iteOmega, *]; done) | (simp [go_sem, BigFrame.eval_const, BigFrame.eval_global, BigFrame.eval_func, ↓IntWalk.iteOmega, *]; intros; omega) | (simp [go_sem, BigFrame.eval_const, BigFrame.eval_global, BigFrame.eval_func, ↓IntWalk.iteOmega, *]; intros; exfalso; omega)), by (first | (simp [go_sem, BigFrame.eval_const, BigFrame.eval_global, BigFrame.eval_func, ↓IntWalk.iteOmega, *]; done) | (simp [go_sem, BigFrame.eval_const, BigFrame.eval_global, BigFrame.eval_func, ↓IntWalk.iteOmega, *]; intros; omega) | (simp [go_sem, BigFrame.eval_const, BigFrame.eval_global, BigFrame.eval_func, ↓IntWalk.iteOmega, *]; intros; exfalso; omega)), by (first | (simp [go_sem, BigFrame.eval_const, BigFrame.eval_global, BigFrame.eval_func, ↓IntWalk.iteOmega, *]; done) | (simp [go_sem, BigFrame.eval_const, BigFrame.eval_global, BigFrame.eval_func, ↓IntWalk.iteOmega, *]; intros; omega) | (simp [go_sem, BigFrame.eval_const, BigFrame.eval_global, BigFrame.eval_func, ↓IntWalk.iteOmega, *]; intros; exfalso; omega))⟩
                case measure => simp [intOf]; omega
            · have hs' : (s == 1) = false := by simpa using hs
              rw [hF] at c1 l1 l2
              clear l3 l4
              rcases l2 with l2 | ⟨l2, -, -⟩ | ⟨l2, -, -⟩
              · 
                go_wp2_with fail
                refine wp_region_hush_tail (C := fun x => Below (wr.heap.size + 1) (wr.alloc (Obj.cells #[Value.int IntKind.i64 _, Value.bool _] 25)) x) 12 (by kernel_rfl) (by kernel_rfl) (fun _ _ dx _ _ hx => by cases dx <;> exact hx) (Below.drew (Below.refl _ _)) ?_
                simp only [List.take_succ_cons, List.take_zero, List.drop_succ_cons, List.drop_zero]
                iterate 12 (refine wpQuiet_step (fun K hK => ?_); (first | (refine hush_skip ?_ ?_; (focus (go_simp; done)); (try go_simp); refine hK _ ?_; clear hK K) | (refine hush_do ?_ ?_; (focus (go_simp; done)); apply Exists.intro; refine ⟨fun wx hwx => ?_, ?_⟩; (focus ((have hcx := cellA hwx); (have hzx := hwx.size); (try simp at hzx); (try simp [go_sem, BigFrame.eval_const, BigFrame.eval_global, BigFrame.eval_func, ↓IntWalk.iteOmega, *]); (first | done | rfl | (go_at_call 15; refine (heard_any _ _ _ _ _).mono ?_; rintro e wy ⟨rfl, hby⟩; exact ⟨rfl, hwx.trans (hby.mono (by have := hwx.size; simp at this; simp; omega))⟩)))); (try go_simp); refine hK _ ?_; clear hK K)))
                refine wpQuiet_nil ?_
                intro wq hbq
                have hcwq := cellA hbq
                have hfwq := frozA hbq
                have hzwq := hbq.size
                try simp at hzwq
                go_wp2_with (first | (go_at_call 16; refine (valid_any _ _ _).mono ?_; rintro e wx ⟨rfl, rfl⟩))
                go_roundw
                case rel => exact ⟨k + 1, hd + 1, an, _, _, by omega, by omega, by omega, l1, by go_num, by go_num, by go_num, by repeat' (first | assumption | exact Below.refl _ _ | apply Below.alloc | apply Below.setCell | apply Below.drew | (refine Below.trans ?_ (Below.mono (by assumption) ?_)) | omega | (simp; omega) | (simp; done)), by (first | (simp [go_sem, BigFrame.eval_const, BigFrame.eval_global, BigFrame.eval_func, ↓IntWalk.iteOmega, *]; done) | (simp [go_sem, BigFrame.eval_const, BigFrame.eval_global, BigFrame.eval_func, ↓IntWalk.iteOmega, *]; intros; omega) | (simp [go_sem, BigFrame.eval_const, BigFrame.eval_global, BigFrame.eval_func, ↓IntWalk.iteOmega, *]; intros; exfalso; omega)), by (first | (simp [go_sem, BigFrame.eval_const, BigFrame.eval_global, BigFrame.eval_func, ↓IntWalk.iteOmega, *]; done) | (simp [go_sem, BigFrame.eval_const, BigFrame.eval_global, BigFrame.eval_func, ↓IntWalk.iteOmega, *]; intros; omega) | (simp [go_sem, BigFrame.eval_const, BigFrame.eval_global, BigFrame.eval_func, ↓IntWalk.iteOmega, *]; intros; exfalso; omega)), by (first | (simp [go_sem, BigFrame.eval_const, BigFrame.eval_global, BigFrame.eval_func, ↓IntWalk.iteOmega, *]; done) | (simp [go_sem, BigFrame.eval_const, BigFrame.eval_global, BigFrame.eval_func, ↓IntWalk.iteOmega, *]; intros; omega) | (simp [go_sem, BigFrame.eval_const, BigFrame.eval_global, BigFrame.eval_func, ↓IntWalk.iteOmega, *]; intros; exfalso; omega)), by (first | (simp [go_sem, BigFrame.eval_const, BigFrame.eval_global, BigFrame.eval_func, ↓IntWalk.iteOmega, *]; done) | (simp [go_sem, BigFrame.eval_const, BigFrame.eval_global, BigFrame.eval_func, ↓IntWalk.iteOmega, *]; intros; omega) | (simp [go_sem, BigFrame.eval_const, BigFrame.eval_global, BigFrame.eval_func, ↓IntWalk.iteOmega, *]; intros; exfalso; omega)), by (first | (simp [go_sem, BigFrame.eval_const, BigFrame.eval_global, BigFrame.eval_func, ↓IntWalk.iteOmega, *]; done) | (simp [go_sem, BigFrame.eval_const, BigFrame.eval_global, BigFrame.eval_func, ↓IntWalk.iteOmega, *]; intros; omega) | (simp [go_sem, BigFrame.eval_const, BigFrame.eval_global, BigFrame.eval_func, ↓IntWalk.iteOmega, *]; intros; exfalso; omega))⟩
                case measure => simp [intOf]; omega
              · 
                go_wp2_with fail
                refine wp_region_hush_tail (C := fun x => Below (wr.heap.size + 1) (wr.alloc (Obj.cells #[Value.int IntKind.i64 _, Value.bool _] 25)) x) 12 (by kernel_rfl) (by kernel_rfl) (fun _ _ dx _ _ hx => by cases dx <;> exact hx) (Below.drew (Below.refl _ _)) ?_
                simp only [List.take_succ_cons, List.take_zero, List.drop_succ_cons, List.drop_zero]
                iterate 12 (refine wpQuiet_step (fun K hK => ?_); (first | (refine hush_skip ?_ ?_; (focus (go_simp; done)); (try go_simp); refine hK _ ?_; clear hK K) | (refine hush_do ?_ ?_; (focus (go_simp; done)); apply Exists.intro; refine ⟨fun wx hwx => ?_, ?_⟩; (focus ((have hcx := cellA hwx); (have hzx := hwx.size); (try simp at hzx); (try simp [go_sem, BigFrame.eval_const, BigFrame.eval_global, BigFrame.eval_func, ↓IntWalk.iteOmega, *]); (first | done | rfl | (go_at_call 15; refine (heard_any _ _ _ _ _).mono ?_; rintro e wy ⟨rfl, hby⟩; exact ⟨rfl, hwx.trans (hby.mono (by have := hwx.size; simp at this; simp; omega))⟩)))); (try go_simp); refine hK _ ?_; clear hK K)))
                refine wpQuiet_nil ?_
                intro wq hbq
                have hcwq := cellA hbq
                have hfwq := frozA hbq
                have hzwq := hbq.size
                try simp at hzwq
                go_wp2_with (first | (go_at_call 16; refine (valid_any _ _ _).mono ?_; rintro e wx ⟨rfl, rfl⟩))
                go_roundw
                case rel => exact ⟨k + 1, hd + 1, an + 1, _, _, by omega, by omega, by omega, l1, by go_num, by go_num, by go_num, by repeat' (first | assumption | exact Below.refl _ _ | apply Below.alloc | apply Below.setCell | apply Below.drew | (refine Below.trans ?_ (Below.mono (by assumption) ?_)) | omega | (simp; omega) | (simp; done)), by (first | (simp [go_sem, BigFrame.eval_const, BigFrame.eval_global, BigFrame.eval_func, ↓IntWalk.iteOmega, *]; done) | (simp [go_sem, BigFrame.eval_const, BigFrame.eval_global, BigFrame.eval_func, ↓IntWalk.iteOmega, *]; intros; omega) | (simp [go_sem, BigFrame.eval_const, BigFrame.eval_global, BigFrame.eval_func, ↓IntWalk.iteOmega, *]; intros; exfalso; omega)), by (first | (simp [go_sem, BigFrame.eval_const, BigFrame.eval_global, BigFrame.eval_func, ↓IntWalk.iteOmega, *]; done) | (simp [go_sem, BigFrame.eval_const, BigFrame.eval_global, BigFrame.eval_func, ↓IntWalk.iteOmega, *]; intros; omega) | (simp [go_sem, BigFrame.eval_const, BigFrame.eval_global, BigFrame.eval_func, ↓IntWalk.iteOmega, *]; intros; exfalso; omega)), by (first | (simp [go_sem, BigFrame.eval_const, BigFrame.eval_global, BigFrame.eval_func, ↓IntWalk.iteOmega, *]; done) | (simp [go_sem, BigFrame.eval_const, BigFrame.eval_global, BigFrame.eval_func, ↓IntWalk.iteOmega, *]; intros; omega) | (simp [go_sem, BigFrame.eval_const, BigFrame.eval_global, BigFrame.eval_func, ↓IntWalk.iteOmega, *]; intros; exfalso; omega)), by (first | (simp [go_sem, BigFrame.eval_const, BigFrame.eval_global, BigFrame.eval_func, ↓IntWalk.iteOmega, *]; done) | (simp [go_sem, BigFrame.eval_const, BigFrame.eval_global, BigFrame.eval_func, ↓IntWalk.iteOmega, *]; intros; omega) | (simp [go_sem, BigFrame.eval_const, BigFrame.eval_global, BigFrame.eval_func, ↓IntWalk.iteOmega, *]; intros; exfalso; omega)), by (first | (simp [go_sem, BigFrame.eval_const, BigFrame.eval_global, BigFrame.eval_func, ↓IntWalk.iteOmega, *]; done) | (simp [go_sem, BigFrame.eval_const, BigFrame.eval_global, BigFrame.eval_func, ↓IntWalk.iteOmega, *]; intros; omega) | (simp [go_sem, BigFrame.eval_const, BigFrame.eval_global, BigFrame.eval_func, ↓IntWalk.iteOmega, *]; intros; exfalso; omega))⟩
                case measure => simp [intOf]; omega
              · 
                go_wp2_with fail
                refine wp_region_hush_tail (C := fun x => Below (wr.heap.size + 1) (wr.alloc (Obj.cells #[Value.int IntKind.i64 _, Value.bool _] 25)) x) 12 (by kernel_rfl) (by kernel_rfl) (fun _ _ dx _ _ hx => by cases dx <;> exact hx) (Below.drew (Below.refl _ _)) ?_
                simp only [List.take_succ_cons, List.take_zero, List.drop_succ_cons, List.drop_zero]
                iterate 12 (refine wpQuiet_step (fun K hK => ?_); (first | (refine hush_skip ?_ ?_; (focus (go_simp; done)); (try go_simp); refine hK _ ?_; clear hK K) | (refine hush_do ?_ ?_; (focus (go_simp; done)); apply Exists.intro; refine ⟨fun wx hwx => ?_, ?_⟩; (focus ((have hcx := cellA hwx); (have hzx := hwx.size); (try simp at hzx); (try simp [go_sem, BigFrame.eval_const, BigFrame.eval_global, BigFrame.eval_func, ↓IntWalk.iteOmega, *]); (first | done | rfl | (go_at_call 15; refine (heard_any _ _ _ _ _).mono ?_; rintro e wy ⟨rfl, hby⟩; exact ⟨rfl, hwx.trans (hby.mono (by have := hwx.size; simp at this; simp; omega))⟩)))); (try go_simp); refine hK _ ?_; clear hK K)))
                refine wpQuiet_nil ?_
                intro wq hbq
                have hcwq := cellA hbq
                have hfwq := frozA hbq
                have hzwq := hbq.size
                try simp at hzwq
                go_wp2_with (first | (go_at_call 16; refine (valid_any _ _ _).mono ?_; rintro e wx ⟨rfl, rfl⟩))
                go_roundw
                case rel => exact ⟨k + 1, hd + 1, an + 1, _, _, by omega, by omega, by omega, l1, by go_num, by go_num, by go_num, by repeat' (first | assumption | exact Below.refl _ _ | apply Below.alloc | apply Below.setCell | apply Below.drew | (refine Below.trans ?_ (Below.mono (by assumption) ?_)) | omega | (simp; omega) | (simp; done)), by (first | (simp [go_sem, BigFrame.eval_const, BigFrame.eval_global, BigFrame.eval_func, ↓IntWalk.iteOmega, *]; done) | (simp [go_sem, BigFrame.eval_const, BigFrame.eval_global, BigFrame.eval_func, ↓IntWalk.iteOmega, *]; intros; omega) | (simp [go_sem, BigFrame.eval_const, BigFrame.eval_global, BigFrame.eval_func, ↓IntWalk.iteOmega, *]; intros; exfalso; omega)), by (first | (simp [go_sem, BigFrame.eval_const, BigFrame.eval_global, BigFrame.eval_func, ↓IntWalk.iteOmega, *]; done) | (simp [go_sem, BigFrame.eval_const, BigFrame.eval_global, BigFrame.eval_func, ↓IntWalk.iteOmega, *]; intros; omega) | (simp [go_sem, BigFrame.eval_const, BigFrame.eval_global, BigFrame.eval_func, ↓IntWalk.iteOmega, *]; intros; exfalso; omega)), by (first | (simp [go_sem, BigFrame.eval_const, BigFrame.eval_global, BigFrame.eval_func, ↓IntWalk.iteOmega, *]; done) | (simp [go_sem, BigFrame.eval_const, BigFrame.eval_global, BigFrame.eval_func, ↓IntWalk.iteOmega, *]; intros; omega) | (simp [go_sem, BigFrame.eval_const, BigFrame.eval_global, BigFrame.eval_func, ↓IntWalk.iteOmega, *]; intros; exfalso; omega)), by (first | (simp [go_sem, BigFrame.eval_const, BigFrame.eval_global, BigFrame.eval_func, ↓IntWalk.iteOmega, *]; done) | (simp [go_sem, BigFrame.eval_const, BigFrame.eval_global, BigFrame.eval_func, ↓IntWalk.iteOmega, *]; intros; omega) | (simp [go_sem, BigFrame.eval_const, BigFrame.eval_global, BigFrame.eval_func, ↓IntWalk.iteOmega, *]; intros; exfalso; omega)), by (first | (simp [go_sem, BigFrame.eval_const, BigFrame.eval_global, BigFrame.eval_func, ↓IntWalk.iteOmega, *]; done) | (simp [go_sem, BigFrame.eval_const, BigFrame.eval_global, BigFrame.eval_func, ↓IntWalk.iteOmega, *]; intros; omega) | (simp [go_sem, BigFrame.eval_const, BigFrame.eval_global, BigFrame.eval_func, ↓IntWalk.iteOmega, *]; intros; exfalso; omega))⟩
                case measure => simp [intOf]; omega
        · rw [hA] at c0
          obtain ⟨l1, l2⟩ := ask_law (F k) hv
          rcases l2 with l2 | ⟨l2, rfl⟩ | ⟨l2, rfl⟩
          · 
            go_wp2_with fail
            refine wp_region_hush_tail (C := fun x => Below (wr.heap.size + 1) (wr.alloc (Obj.cells #[Value.int IntKind.i64 _, Value.bool _] 25)) x) 7 (by kernel_rfl) (by kernel_rfl) (fun _ _ dx _ _ hx => by cases dx <;> exact hx) (Below.drew (Below.refl _ _)) ?_
            simp only [List.take_succ_cons, List.take_zero, List.drop_succ_cons, List.drop_zero]
            iterate 7 (refine wpQuiet_step (fun K hK => ?_); (first | (refine hush_skip ?_ ?_; (focus (go_simp; done)); (try go_simp); refine hK _ ?_; clear hK K) | (refine hush_do ?_ ?_; (focus (go_simp; done)); apply Exists.intro; refine ⟨fun wx hwx => ?_, ?_⟩; (focus ((have hcx := cellA hwx); (have hzx := hwx.size); (try simp at hzx); (try simp [go_sem, BigFrame.eval_const, BigFrame.eval_global, BigFrame.eval_func, ↓IntWalk.iteOmega, *]); (first | done | rfl | (go_at_call 14; refine (ask_any _ _ _ _).mono ?_; rintro e wy ⟨rfl, hby⟩; exact ⟨rfl, hwx.trans (hby.mono (by have := hwx.size; simp at this; simp; omega))⟩)))); (try go_simp); refine hK _ ?_; clear hK K)))
            refine wpQuiet_nil ?_
            intro wq hbq
            have hcwq := cellA hbq
            have hfwq := frozA hbq
            have hzwq := hbq.size
            try simp at hzwq
            go_wp2_with (first | (go_at_call 16; refine (valid_any _ _ _).mono ?_; rintro e wx ⟨rfl, rfl⟩))
            go_roundw
            case rel => exact ⟨k + 1, hd, an, _, _, by omega, by omega, by omega, l1, by go_num, by go_num, by go_num, by repeat' (first | assumption | exact Below.refl _ _ | apply Below.alloc | apply Below.setCell | apply Below.drew | (refine Below.trans ?_ (Below.mono (by assumption) ?_)) | omega | (simp; omega) | (simp; done)), by (first | (simp [go_sem, BigFrame.eval_const, BigFrame.eval_global, BigFrame.eval_func, ↓IntWalk.iteOmega, *]; done) | (simp [go_sem, BigFrame.eval_const, BigFrame.eval_global, BigFrame.eval_func, ↓IntWalk.iteOmega, *]; intros; omega) | (simp [go_sem, BigFrame.eval_const, BigFrame.eval_global, BigFrame.eval_func, ↓IntWalk.iteOmega, *]; intros; exfalso; omega)), by (first | (simp [go_sem, BigFrame.eval_const, BigFrame.eval_global, BigFrame.eval_func, ↓IntWalk.iteOmega, *]; done) | (simp [go_sem, BigFrame.eval_const, BigFrame.eval_global, BigFrame.eval_func, ↓IntWalk.iteOmega, *]; intros; omega) | (simp [go_sem, BigFrame.eval_const, BigFrame.eval_global, BigFrame.eval_func, ↓IntWalk.iteOmega, *]; intros; exfalso; omega)), by (first | (simp [go_sem, BigFrame.eval_const, BigFrame.eval_global, BigFrame.eval_func, ↓IntWalk.iteOmega, *]; done) | (simp [go_sem, BigFrame.eval_const, BigFrame.eval_global, BigFrame.eval_func, ↓IntWalk.iteOmega, *]; intros; omega) | (simp [go_sem, BigFrame.eval_const, BigFrame.eval_global, BigFrame.eval_func, ↓IntWalk.iteOmega, *]; intros; exfalso; omega)), by (first | (simp [go_sem, BigFrame.eval_const, BigFrame.eval_global, BigFrame.eval_func, ↓IntWalk.iteOmega, *]; done) | (simp [go_sem, BigFrame.eval_const, BigFrame.eval_global, BigFrame.eval_func, ↓IntWalk.iteOmega, *]; intros; omega) | (simp [go_sem, BigFrame.eval_const, BigFrame.eval_global, BigFrame.eval_func, ↓IntWalk.iteOmega, *]; intros; exfalso; omega)), by (first | (simp [go_sem, BigFrame.eval_const, BigFrame.eval_global, BigFrame.eval_func, ↓IntWalk.iteOmega, *]; done) | (simp [go_sem, BigFrame.eval_const, BigFrame.eval_global, BigFrame.eval_func, ↓IntWalk.iteOmega, *]; intros; omega) | (simp [go_sem, BigFrame.eval_const, BigFrame.eval_global, BigFrame.eval_func, ↓IntWalk.iteOmega, *]; intros; exfalso; omega))⟩
            case measure => simp [intOf]; omega
          · 
            go_wp2_with fail
            refine wp_region_hush_tail (C := fun x => Below (wr.heap.size + 1) (wr.alloc (Obj.cells #[Value.int IntKind.i64 _, Value.bool _] 25)) x) 7 (by kernel_rfl) (by kernel_rfl) (fun _ _ dx _ _ hx => by cases dx <;> exact hx) (Below.drew (Below.refl _ _)) ?_
            simp only [List.take_succ_cons, List.take_zero, List.drop_succ_cons, List.drop_zero]
            iterate 7 (refine wpQuiet_step (fun K hK => ?_); (first | (refine hush_skip ?_ ?_; (focus (go_simp; done)); (try go_simp); refine hK _ ?_; clear hK K) | (refine hush_do ?_ ?_; (focus (go_simp; done)); apply Exists.intro; refine ⟨fun wx hwx => ?_, ?_⟩; (focus ((have hcx := cellA hwx); (have hzx := hwx.size); (try simp at hzx); (try simp [go_sem, BigFrame.eval_const, BigFrame.eval_global, BigFrame.eval_func, ↓IntWalk.iteOmega, *]); (first | done | rfl | (go_at_call 14; refine (ask_any _ _ _ _).mono ?_; rintro e wy ⟨rfl, hby⟩; exact ⟨rfl, hwx.trans (hby.mono (by have := hwx.size; simp at this; simp; omega))⟩)))); (try go_simp); refine hK _ ?_; clear hK K)))
            refine wpQuiet_nil ?_
            intro wq hbq
            have hcwq := cellA hbq
            have hfwq := frozA hbq
            have hzwq := hbq.size
            try simp at hzwq
            go_wp2_with (first | (go_at_call 16; refine (valid_any _ _ _).mono ?_; rintro e wx ⟨rfl, rfl⟩))
            go_roundw
            case rel => exact ⟨k + 1, hd, an, _, _, by omega, by omega, by omega, l1, by go_num, by go_num, by go_num, by repeat' (first | assumption | exact Below.refl _ _ | apply Below.alloc | apply Below.setCell | apply Below.drew | (refine Below.trans ?_ (Below.mono (by assumption) ?_)) | omega | (simp; omega) | (simp; done)), by (first | (simp [go_sem, BigFrame.eval_const, BigFrame.eval_global, BigFrame.eval_func, ↓IntWalk.iteOmega, *]; done) | (simp [go_sem, BigFrame.eval_const, BigFrame.eval_global, BigFrame.eval_func, ↓IntWalk.iteOmega, *]; intros; omega) | (simp [go_sem, BigFrame.eval_const, BigFrame.eval_global, BigFrame.eval_func, ↓IntWalk.iteOmega, *]; intros; exfalso; omega)), by (first | (simp [go_sem, BigFrame.eval_const, BigFrame.eval_global, BigFrame.eval_func, ↓IntWalk.iteOmega, *]; done) | (simp [go_sem, BigFrame.eval_const, BigFrame.eval_global, BigFrame.eval_func, ↓IntWalk.iteOmega, *]; intros; omega) | (simp [go_sem, BigFrame.eval_const, BigFrame.eval_global, BigFrame.eval_func, ↓IntWalk.iteOmega, *]; intros; exfalso; omega)), by (first | (simp [go_sem, BigFrame.eval_const, BigFrame.eval_global, BigFrame.eval_func, ↓IntWalk.iteOmega, *]; done) | (simp [go_sem, BigFrame.eval_const, BigFrame.eval_global, BigFrame.eval_func, ↓IntWalk.iteOmega, *]; intros; omega) | (simp [go_sem, BigFrame.eval_const, BigFrame.eval_global, BigFrame.eval_func, ↓IntWalk.iteOmega, *]; intros; exfalso; omega)), by (first | (simp [go_sem, BigFrame.eval_const, BigFrame.eval_global, BigFrame.eval_func, ↓IntWalk.iteOmega, *]; done) | (simp [go_sem, BigFrame.eval_const, BigFrame.eval_global, BigFrame.eval_func, ↓IntWalk.iteOmega, *]; intros; omega) | (simp [go_sem, BigFrame.eval_const, BigFrame.eval_global, BigFrame.eval_func, ↓IntWalk.iteOmega, *]; intros; exfalso; omega)), by (first | (simp [go_sem, BigFrame.eval_const, BigFrame.eval_global, BigFrame.eval_func, ↓IntWalk.iteOmega, *]; done) | (simp [go_sem, BigFrame.eval_const, BigFrame.eval_global, BigFrame.eval_func, ↓IntWalk.iteOmega, *]; intros; omega) | (simp [go_sem, BigFrame.eval_const, BigFrame.eval_global, BigFrame.eval_func, ↓IntWalk.iteOmega, *]; intros; exfalso; omega))⟩
            case measure => simp [intOf]; omega
          · 
            go_wp2_with fail
            refine wp_region_hush_tail (C := fun x => Below (wr.heap.size + 1) (wr.alloc (Obj.cells #[Value.int IntKind.i64 _, Value.bool _] 25)) x) 7 (by kernel_rfl) (by kernel_rfl) (fun _ _ dx _ _ hx => by cases dx <;> exact hx) (Below.drew (Below.refl _ _)) ?_
            simp only [List.take_succ_cons, List.take_zero, List.drop_succ_cons, List.drop_zero]
            iterate 7 (refine wpQuiet_step (fun K hK => ?_); (first | (refine hush_skip ?_ ?_; (focus (go_simp; done)); (try go_simp); refine hK _ ?_; clear hK K) | (refine hush_do ?_ ?_; (focus (go_simp; done)); apply Exists.intro; refine ⟨fun wx hwx => ?_, ?_⟩; (focus ((have hcx := cellA hwx); (have hzx := hwx.size); (try simp at hzx); (try simp [go_sem, BigFrame.eval_const, BigFrame.eval_global, BigFrame.eval_func, ↓IntWalk.iteOmega, *]); (first | done | rfl | (go_at_call 14; refine (ask_any _ _ _ _).mono ?_; rintro e wy ⟨rfl, hby⟩; exact ⟨rfl, hwx.trans (hby.mono (by have := hwx.size; simp at this; simp; omega))⟩)))); (try go_simp); refine hK _ ?_; clear hK K)))
            refine wpQuiet_nil ?_
            intro wq hbq
            have hcwq := cellA hbq
            have hfwq := frozA hbq
            have hzwq := hbq.size
            try simp at hzwq
            go_wp2_with (first | (go_at_call 16; refine (valid_any _ _ _).mono ?_; rintro e wx ⟨rfl, rfl⟩))
            go_roundw
            case rel => exact ⟨k + 1, hd, an, _, _, by omega, by omega, by omega, l1, by go_num, by go_num, by go_num, by repeat' (first | assumption | exact Below.refl _ _ | apply Below.alloc | apply Below.setCell | apply Below.drew | (refine Below.trans ?_ (Below.mono (by assumption) ?_)) | omega | (simp; omega) | (simp; done)), by (first | (simp [go_sem, BigFrame.eval_const, BigFrame.eval_global, BigFrame.eval_func, ↓IntWalk.iteOmega, *]; done) | (simp [go_sem, BigFrame.eval_const, BigFrame.eval_global, BigFrame.eval_func, ↓IntWalk.iteOmega, *]; intros; omega) | (simp [go_sem, BigFrame.eval_const, BigFrame.eval_global, BigFrame.eval_func, ↓IntWalk.iteOmega, *]; intros; exfalso; omega)), by (first | (simp [go_sem, BigFrame.eval_const, BigFrame.eval_global, BigFrame.eval_func, ↓IntWalk.iteOmega, *]; done) | (simp [go_sem, BigFrame.eval_const, BigFrame.eval_global, BigFrame.eval_func, ↓IntWalk.iteOmega, *]; intros; omega) | (simp [go_sem, BigFrame.eval_const, BigFrame.eval_global, BigFrame.eval_func, ↓IntWalk.iteOmega, *]; intros; exfalso; omega)), by (first | (simp [go_sem, BigFrame.eval_const, BigFrame.eval_global, BigFrame.eval_func, ↓IntWalk.iteOmega, *]; done) | (simp [go_sem, BigFrame.eval_const, BigFrame.eval_global, BigFrame.eval_func, ↓IntWalk.iteOmega, *]; intros; omega) | (simp [go_sem, BigFrame.eval_const, BigFrame.eval_global, BigFrame.eval_func, ↓IntWalk.iteOmega, *]; intros; exfalso; omega)), by (first | (simp [go_sem, BigFrame.eval_const, BigFrame.eval_global, BigFrame.eval_func, ↓IntWalk.iteOmega, *]; done) | (simp [go_sem, BigFrame.eval_const, BigFrame.eval_global, BigFrame.eval_func, ↓IntWalk.iteOmega, *]; intros; omega) | (simp [go_sem, BigFrame.eval_const, BigFrame.eval_global, BigFrame.eval_func, ↓IntWalk.iteOmega, *]; intros; exfalso; omega)), by (first | (simp [go_sem, BigFrame.eval_const, BigFrame.eval_global, BigFrame.eval_func, ↓IntWalk.iteOmega, *]; done) | (simp [go_sem, BigFrame.eval_const, BigFrame.eval_global, BigFrame.eval_func, ↓IntWalk.iteOmega, *]; intros; omega) | (simp [go_sem, BigFrame.eval_const, BigFrame.eval_global, BigFrame.eval_func, ↓IntWalk.iteOmega, *]; intros; exfalso; omega))⟩
            case measure => simp [intOf]; omega
      · go_wp2
        go_ret
        exact ⟨by first | (simp; done) | (simp; omega), hB⟩
  · go_enter Try.func3, Try.ntmps3
    go_wp2_with (first | (go_at_call 13; refine (alive_any _).mono ?_; rintro e w1 ⟨rfl, hb1⟩; obtain ⟨hc1, hf1, hz1⟩ := aft hb1; try simp at hz1))
    all_goals first | (go_ret; exact ⟨rfl, hb1⟩) | (go_outline; sorry)
end Go.Proofs.Ytgbnpdgaalpkcaa.O8
