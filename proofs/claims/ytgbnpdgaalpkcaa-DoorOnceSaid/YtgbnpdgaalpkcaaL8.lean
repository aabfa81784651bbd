/- the walk of DoorOnce -/
import Derived.Test.YtgbnpdgaalpkcaaL6
import Derived.Test.YtgbnpdgaalpkcaaK9
import Derived.StillTailTactics
namespace Go.Proofs.Ytgbnpdgaalpkcaa.L8
set_option linter.unusedVariables false
set_option linter.unusedSimpArgs false
open Go.RowKit K1 K3 K5 K7 K9 L1 L2 L3 L4 L5 L6
attribute [local go_sem] cell_pastA froz_pastA

set_option maxRecDepth 100000 in
set_option maxHeartbeats 1000000 in
theorem once_any (ao : Option Addr) (sb off N cap : Nat) (L : Nat → Int) (w : World) (hao : ao = some ⟨sb, off, none⟩ ∨ N = 0) (hcap : N ≤ cap) (hNb : N ≤ 9223372036854775807)
    (hc : ∀ k, k < N → w.cell? ⟨sb, off + k, none⟩ = some (.int .i64 (L k))) (hsb : 0 < N → sb < w.heap.size) :
    Calls Try.prog 11 #[.slice ao N cap] w fun e w' => e = .returned (.bool true) ∧ Below w.heap.size w w' := by
  by_cases hN : 40 < N
  · go_enter Try.func11, Try.ntmps11
    go_wp2_with (first | (go_at_call 40; refine (alive_any _).mono ?_; rintro e w1 ⟨rfl, hb1⟩; obtain ⟨hc1, hf1, hz1⟩ := aft hb1; try simp at hz1))
    all_goals
      go_ret
      exact ⟨rfl, by repeat' (first | assumption | exact Below.refl _ _ | apply Below.alloc | apply Below.setCell | apply Below.drew | (refine Below.trans ?_ (Below.mono (by assumption) ?_)) | omega | (simp; omega) | (simp; done))⟩
  have hnd : decide (40 < (N : Int)) = false := by simp; omega
  have HC0 := Lib.hid hc
  have HSB := Lib.hid hsb
  have HAO := Lib.hid hao
  clear hc hsb hao
  go_enter Try.func11, Try.ntmps11
  go_wp2_with (first | (go_at_call 40; refine (alive_any _).mono ?_; rintro e w1 ⟨rfl, hb1⟩; obtain ⟨hc1, hf1, hz1⟩ := aft hb1; try simp at hz1))
  have HD0 := Lib.hid (door_new w1 98)
  have HB0 : Hid (Below w.heap.size w (w1.alloc (.cells #[.int .u32 0, .int .i32 0, .int .u32 0, .int .i64 0, .int .i64 0] 98))) := (hb1.alloc (by omega) _)
  obtain ⟨db, hdb⟩ : ∃ db, db = w1.heap.size := ⟨_, rfl⟩
  have hz2 : (w1.alloc (.cells #[.int .u32 0, .int .i32 0, .int .u32 0, .int .i64 0, .int .i64 0] 98)).heap.size = db + 1 := by simp [hdb]
  have hwd : w.heap.size ≤ db := by omega
  clear hc1 hf1 hb1
  rw [← hdb] at HD0 ⊢
  generalize w1.alloc (.cells #[.int .u32 0, .int .i32 0, .int .u32 0, .int .i64 0, .int .i64 0] 98) = w2 at *
  clear hdb hz1
  refine (is_any HD0.out).mono ?_
  rintro e wx ⟨rfl, rfl⟩
  go_wp2_with fail
  refine (who_any HD0.out).mono ?_
  rintro e wx ⟨rfl, rfl⟩
  go_wp2_with fail
  go_loopw [4] (fun i wr => ∃ k : Nat, k ≤ N ∧ i = .int .i64 k ∧ db < wr.heap.size ∧ Below w.heap.size w wr ∧ ((k = 0 ∧ DoorAt wr db 0 false 0) ∨ (0 < k ∧ DoorAt wr db 0 true (L 0)))) (fun i _ => N - (intOf i).toNat)
  case atStart => exact ⟨0, by omega, rfl, by omega, HB0.out, .inl ⟨rfl, HD0.out⟩⟩
  case round =>
    obtain ⟨k, hk, rfl, hz, hb, hor⟩ := hrel
    have HB := Lib.hid hb
    clear hb
    by_cases hlt : k < N
    · have hL0 := HC0.out 0 (by omega)
      have hLk := HC0.out k hlt
      have hsbN := HSB.out (by omega)
      have hxw : w.heap.size ≤ wr.heap.size := HB.out.size
      rw [← HB.out.cell (p := ⟨sb, off + 0, none⟩) hsbN] at hL0
      rw [← HB.out.cell (p := ⟨sb, off + k, none⟩) hsbN] at hLk
      obtain rfl : ao = some ⟨sb, off, none⟩ := by rcases HAO.out with h | h; exact h; omega
      simp only [Nat.add_zero] at hL0
      have hne : sb ≠ db := by omega
      rcases hor with ⟨rfl, hd⟩ | ⟨hk0, hd⟩
      · have HD := Lib.hid hd
        clear hd
        simp only [Nat.add_zero] at hLk
        go_wp2_with fail
        refine wp_region_stages [9, 21] (by kernel_rfl) (by kernel_rfl) (by kernel_rfl) (fun _ _ dx _ _ hx => by cases dx <;> exact hx) ?_
        refine stage_go (fun x => Fr wr.heap.size [db] wr x) (fun q x => match q with | false => Below wr.heap.size wr x | true => Fr wr.heap.size [db] wr x ∧ DoorAt x db 0 true (L 0)) 5 (by omega) ⟨fun q x hq => by cases q; exact Fr.of_below hq; exact hq.1, fun q x y hq hxy => by cases q; exact hq.trans (hxy.mono hq.size); exact ⟨hq.1.trans (.of_below (hxy.mono hq.1.size)), hq.2.keepB (hxy.block db (by have := hq.1.size; omega))⟩⟩ (Below.drew (Below.refl _ _)) ?_
        simp only [List.take_succ_cons, List.take_zero, List.drop_succ_cons, List.drop_zero]
        iterate 5 (first | (refine wpY_skip (by decide) ?_ ?_; (focus (go_simp; done)); (try go_simp)) | (refine wpY_do (by decide) ?_ ?_; (focus (go_simp; done)); apply Exists.intro; refine ⟨fun wx hwx => ?_, ?_⟩; (focus ((have hcx := hwx.cellA); (have hzx := hwx.size); try simp at hcx; unfold hushAt; (try simp [go_sem, BigFrame.eval_const, BigFrame.eval_global, BigFrame.eval_func, ↓IntWalk.iteOmega, *]); (try simp [hushUpon]); (first | done | rfl | fail))); (try go_simp)))
        refine wpY_eff rfl ?_ ?_
        · go_simp
        apply Exists.intro
        refine ⟨fun x hx => ?_, ?_⟩
        · unfold effAt
          have hx' : Below wr.heap.size wr x := hx
          have hzx := hx'.size
          simp [go_sem, BigFrame.eval_const, BigFrame.eval_global, BigFrame.eval_func, effUpon]
          refine (open_first (HD.out.keepB (hx'.block db (by omega))) (L 0)).mono ?_
          rintro e w' ⟨rfl, hF, hD, _⟩
          exact ⟨rfl, (Fr.of_below hx').trans (hF.mono hzx (by simp)), hD⟩
        try go_simp
        iterate 3 (first | (refine wpY_skip (by decide) ?_ ?_; (focus (go_simp; done)); (try go_simp)) | (refine wpY_do (by decide) ?_ ?_; (focus (go_simp; done)); apply Exists.intro; refine ⟨fun wx hwx => ?_, ?_⟩; (focus ((have hcx := hwx.cellA); (have hzx := hwx.size); try simp at hcx; unfold hushAt; (try simp [go_sem, BigFrame.eval_const, BigFrame.eval_global, BigFrame.eval_func, ↓IntWalk.iteOmega, *]); (try simp [hushUpon]); (first | done | rfl | fail))); (try go_simp)))
        refine wpY_nil ?_
        intro w3 hF3 hD3
        have HF3 := Lib.hid hF3
        have HD3 := Lib.hid hD3
        have hz3 := hF3.size
        have hL3 : w3.cell? ⟨sb, off, none⟩ = some (.int .i64 (L 0)) := (World.cell?_of_block (hF3.block sb (by omega) (by simp; omega))).trans hL0
        have hsb3 : sb < w3.heap.size := by omega
        clear hF3 hD3
        refine stage_quiet ?_
        simp only [List.take_succ_cons, List.take_zero, List.drop_succ_cons, List.drop_zero]
        iterate 12 (first | (refine wpY_skip (by decide) ?_ ?_; (focus (go_simp; done)); (try go_simp)) | (refine wpY_do (by decide) ?_ ?_; (focus (go_simp; done)); apply Exists.intro; refine ⟨fun wx hwx => ?_, ?_⟩; (focus ((have hcx := cellA hwx); (have hzx := hwx.size); (try simp at hzx); unfold hushAt; (try simp [go_sem, BigFrame.eval_const, BigFrame.eval_global, BigFrame.eval_func, ↓IntWalk.iteOmega, *]); (try simp [hushUpon]); (first | done | rfl | (go_at_call 46; refine (who_any (HD3.out.keepB (hwx.block db (by omega)))).mono ?_; rintro e wy ⟨rfl, rfl⟩; exact ⟨rfl, Below.refl _ _⟩) | (go_at_call 45; refine (is_any (HD3.out.keepB (hwx.block db (by omega)))).mono ?_; rintro e wy ⟨rfl, rfl⟩; exact ⟨rfl, Below.refl _ _⟩)))); (try go_simp)))
        refine wpY_nil ?_
        intro w4 hb4
        have HD4 := Lib.hid (HD3.out.keepB (hb4.block db (by omega)))
        have HB4 := Lib.hid (HB.out.trans ((HF3.out.below_of (C := w.heap.size) (by omega) (by simp; omega)).trans (hb4.mono (by omega))))
        have hz4 := hb4.size
        clear hb4
        refine stage_end ?_
        simp only [List.take_succ_cons, List.take_zero, List.drop_succ_cons, List.drop_zero]
        go_wp2_with fail
        go_roundw
        case rel => exact ⟨1, by omega, by go_num, by omega, HB4.out, .inr ⟨by omega, HD4.out⟩⟩
        case measure => simp [intOf]; omega
      · have HD := Lib.hid hd
        clear hd
        have hkne : ¬ k = 0 := by omega
        have hk00 : decide ((k : Int) = 0) = false := by simp; omega
        go_wp2_with fail
        refine wp_region_stages [21] (by kernel_rfl) (by kernel_rfl) (by kernel_rfl) (fun _ _ dx _ _ hx => by cases dx <;> exact hx) ?_
        refine stage_go (fun x => Below wr.heap.size wr x) (fun _ x => Below wr.heap.size wr x) 100 (by omega) ⟨fun _ _ h => h, fun _ _ _ h h' => h.trans (h'.mono h.size)⟩ (Below.drew (Below.refl _ _)) ?_
        simp only [List.take_succ_cons, List.take_zero, List.drop_succ_cons, List.drop_zero]
        iterate 21 (first | (refine wpY_skip (by decide) ?_ ?_; (focus (go_simp; done)); (try go_simp)) | (refine wpY_do (by decide) ?_ ?_; (focus (go_simp; done)); apply Exists.intro; refine ⟨fun wx hwx => ?_, ?_⟩; (focus ((have hcx := cellA hwx); (have hzx := hwx.size); (try simp at hzx); unfold hushAt; (try simp [go_sem, BigFrame.eval_const, BigFrame.eval_global, BigFrame.eval_func, ↓IntWalk.iteOmega, *]); (try simp [hushUpon]); (first | done | rfl | (go_at_call 47; refine (open_done (HD.out.keepB (hwx.block db (by omega))) (L k)).mono ?_; rintro e wy ⟨rfl, hby⟩; exact ⟨rfl, hby⟩) | (go_at_call 46; refine (who_any (HD.out.keepB (hwx.block db (by omega)))).mono ?_; rintro e wy ⟨rfl, rfl⟩; exact ⟨rfl, Below.refl _ _⟩) | (go_at_call 45; refine (is_any (HD.out.keepB (hwx.block db (by omega)))).mono ?_; rintro e wy ⟨rfl, rfl⟩; exact ⟨rfl, Below.refl _ _⟩)))); (try go_simp)))
        refine wpY_nil ?_
        intro w4 hb4
        have hb4 : Below wr.heap.size wr w4 := hb4
        have HD4 := Lib.hid (HD.out.keepB (hb4.block db (by omega)))
        have HB4 := Lib.hid (HB.out.trans (hb4.mono (by omega)))
        have hz4 := hb4.size
        clear hb4
        refine stage_end ?_
        simp only [List.take_succ_cons, List.take_zero, List.drop_succ_cons, List.drop_zero]
        go_wp2_with fail
        go_roundw
        case rel => exact ⟨k + 1, by omega, by go_num, by omega, HB4.out, .inr ⟨by omega, HD4.out⟩⟩
        case measure => simp [intOf]; omega
    · obtain rfl : k = N := by omega
      clear hor
      go_wp2_with fail
      refine (open_nil _ _).mono ?_
      rintro e wx ⟨rfl, rfl⟩
      go_wp2_with fail
      refine (who_nil _).mono ?_
      rintro e wx ⟨rfl, rfl⟩
      go_wp2_with fail
      refine (is_nil _).mono ?_
      rintro e wx ⟨rfl, rfl⟩
      go_wp2_with fail
      go_ret
      exact ⟨rfl, HB.out⟩
end Go.Proofs.Ytgbnpdgaalpkcaa.L8
