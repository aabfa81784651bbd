/- the walk of LazyOnce -/
import Derived.Test.YtgbnpdgaalpkcaaL6
import Derived.StillTailTactics
namespace Go.Proofs.Ytgbnpdgaalpkcaa.L7
set_option linter.unusedVariables false
set_option linter.unusedSimpArgs false
open Go.RowKit K1 K3 K5 K7 L1 L2 L3 L4 L5 L6
attribute [local go_sem] cell_pastA froz_pastA

theorem run43 (x : World) (cb sb : Nat) (n : Int) (s : ByteArray) (h1 : x.cell? ⟨cb, 0, none⟩ = some (.int .i64 n)) (f1 : x.frozen? ⟨cb, 0, none⟩ = false) (h2 : x.cell? ⟨sb, 0, none⟩ = some (.string s)) (hn : n = 0) (hne : cb ≠ sb) :
    Calls Try.prog 43 #[.pointer (some ⟨cb, 0, none⟩), .pointer (some ⟨sb, 0, none⟩)] x fun e w' => e = .returned (.string s) ∧ w' = x.setCell ⟨cb, 0, none⟩ (.int .i64 1) := by
  subst hn
  go_enter Try.func43, Try.ntmps43
  go_wp2_with fail
  go_ret
  exact ⟨rfl, rfl⟩

set_option maxRecDepth 100000 in
set_option maxHeartbeats 1000000 in
theorem once_any (nn : Bool) (ao : Option Addr) (sb off N cap : Nat) (L : Nat → ByteArray) (w : World) (hao : ao = some ⟨sb, off, none⟩ ∨ N = 0) (hcap : N ≤ cap) (hNb : N ≤ 9223372036854775807)
    (hc : ∀ k, k < N → w.cell? ⟨sb, off + k, none⟩ = some (.string (L k))) (hs : ∀ k, k < N → (L k).size ≤ 281474976710656) (hsb : 0 < N → sb < w.heap.size) :
    Calls Try.prog 10 #[.slice ao N cap, .bool nn] w fun e w' => e = .returned (.bool true) ∧ Below w.heap.size w w' := by
  by_cases hN : 40 < N
  · go_enter Try.func10, Try.ntmps10
    go_wp2_with (first | (go_at_call 40; refine (alive_any _).mono ?_; rintro e w1 ⟨rfl, hb1⟩; obtain ⟨hc1, hf1, hz1⟩ := aft hb1; try simp at hz1))
    all_goals
      go_ret
      exact ⟨rfl, by repeat' (first | assumption | exact Below.refl _ _ | apply Below.alloc | apply Below.setCell | apply Below.drew | (refine Below.trans ?_ (Below.mono (by assumption) ?_)) | omega | (simp; omega) | (simp; done))⟩
  have hnd : decide (40 < (N : Int)) = false := by simp; omega
  have HC0 := Lib.hid hc
  have HLS := Lib.hid hs
  have HSB := Lib.hid hsb
  have HAO := Lib.hid hao
  clear hc hs hsb hao
  cases nn
  · by_cases hN0 : 0 < N
    · have hd0 : decide (0 < (N : Int)) = true := by simp; omega
      have hne0 : decide ((N : Int) = 0) = false := by simp; omega
      go_enter Try.func10, Try.ntmps10
      go_wp2_with (first | (go_at_call 40; refine (alive_any _).mono ?_; rintro e w1 ⟨rfl, hb1⟩; obtain ⟨hc1, hf1, hz1⟩ := aft hb1; try simp at hz1))
      have hL0 := lazy_new w1 92
      have HB0 := Lib.hid hb1
      clear hc1 hf1 hb1
      have HL0 := Lib.hid hL0
      clear hL0
      refine (made_any HL0.out).mono ?_
      rintro e wx ⟨rfl, rfl⟩
      go_wp2_with fail
      have hL00 := HC0.out 0 hN0
      have hsb0 := HSB.out hN0
      obtain rfl : ao = some ⟨sb, off, none⟩ := by rcases HAO.out with h | h; exact h; omega
      obtain ⟨xb, hxb⟩ : ∃ xb, xb = w1.heap.size := ⟨_, rfl⟩
      obtain ⟨cb, hcb⟩ : ∃ cb, cb = w1.heap.size + 1 := ⟨_, rfl⟩
      rw [← hcb, ← hxb]
      obtain ⟨w1', hw1'⟩ : ∃ x, x = (w1.alloc (.cells #[.int .u32 0, .int .i32 0, .int .u32 0, .int .i64 0, .string ⟨#[]⟩] 92)).alloc (.cells #[.int .i64 0] 3) := ⟨_, rfl⟩
      have HL1 : Hid (LazyAt w1' xb 0 false ⟨#[]⟩) := by rw [hw1', hxb]; exact HL0.out.keepB (Below.heap_alloc _ _ _ (by simp))
      have HC1 : Hid (w1'.cell? ⟨cb, 0, none⟩ = some (.int .i64 0)) := by rw [hw1', hcb]; show _ = _; (first | (simp [go_sem, BigFrame.eval_const, BigFrame.eval_global, BigFrame.eval_func, ↓IntWalk.iteOmega, *]; done) | (simp [go_sem, BigFrame.eval_const, BigFrame.eval_global, BigFrame.eval_func, ↓IntWalk.iteOmega, *]; intros; omega) | (simp [go_sem, BigFrame.eval_const, BigFrame.eval_global, BigFrame.eval_func, ↓IntWalk.iteOmega, *]; intros; exfalso; omega))
      have HF1 : Hid (w1'.frozen? ⟨cb, 0, none⟩ = false) := by rw [hw1', hcb]; show _ = _; (first | (simp [go_sem, BigFrame.eval_const, BigFrame.eval_global, BigFrame.eval_func, ↓IntWalk.iteOmega, *]; done) | (simp [go_sem, BigFrame.eval_const, BigFrame.eval_global, BigFrame.eval_func, ↓IntWalk.iteOmega, *]; intros; omega) | (simp [go_sem, BigFrame.eval_const, BigFrame.eval_global, BigFrame.eval_func, ↓IntWalk.iteOmega, *]; intros; exfalso; omega))
      have HB1 : Hid (Below w.heap.size w w1') := by rw [hw1']; exact ((HB0.out.alloc (by omega) _).alloc (by simp; omega) _)
      have hs1 : w1'.heap.size = w1.heap.size + 2 := by rw [hw1']; simp
      rw [← hw1']
      have hxc : xb ≠ cb := by omega
      have hxz : xb < w1'.heap.size := by omega
      have hcz : cb < w1'.heap.size := by omega
      have hwx : w.heap.size ≤ xb := by omega
      have hwc : w.heap.size ≤ cb := by omega
      clear hw1' HL0 HB0 hxb hcb hs1
      have HL3 := HL1
      have HC3 := HC1
      have HF3 := HF1
      have HB3 := HB1
      have HZ3 : cb < w1'.heap.size := by omega
      rw [← HB3.out.cell (p := ⟨sb, off + 0, none⟩) hsb0] at hL00
      simp only [Nat.add_zero] at hL00
      go_wp2_with fail
      go_loopw [8] (fun i wr => ∃ k : Nat, k ≤ N ∧ i = .int .i64 k ∧ wr.frozen? ⟨cb, 0, none⟩ = false ∧ cb < wr.heap.size ∧ Below w.heap.size w wr ∧ ((k = 0 ∧ LazyAt wr xb 0 false ⟨#[]⟩ ∧ wr.cell? ⟨cb, 0, none⟩ = some (.int .i64 0)) ∨ (0 < k ∧ LazyAt wr xb 0 true (L 0) ∧ wr.cell? ⟨cb, 0, none⟩ = some (.int .i64 1)))) (fun i _ => N - (intOf i).toNat)
      case atStart => exact ⟨0, by omega, rfl, HF3.out, HZ3, HB3.out, .inl ⟨rfl, HL3.out, HC3.out⟩⟩
      case round =>
        obtain ⟨k, hk, rfl, hf, HZ, hb, hor⟩ := hrel
        have HF := Lib.hid hf
        have HB := Lib.hid hb
        clear hf hb
        by_cases hlt : k < N
        · have hLk := HC0.out k hlt
          have hsbN := HSB.out (by omega)
          have hxw : w.heap.size ≤ wr.heap.size := HB.out.size
          rw [← HB.out.cell (p := ⟨sb, off + k, none⟩) hsbN] at hLk
          rcases hor with ⟨rfl, hl, hc⟩ | ⟨hk0, hl, hc⟩
          · have HL := Lib.hid hl
            have HC := Lib.hid hc
            clear hl hc
            have hxl := HL.out.lt
            simp only [Nat.add_zero] at hLk
            go_wp2_with fail
            have hcx := HC.out
            have hfx := HF.out
            refine (get_call (Z := fun x => x.cell? ⟨cb, 0, none⟩ = some (.int .i64 1) ∧ x.frozen? ⟨cb, 0, none⟩ = false ∧ cb < x.heap.size) (w := wr.alloc (.cells #[.string (L 0)] 9)) (HL.out.keepB (Below.heap_alloc _ _ _ hxl)) 43 cb #[.pointer (some ⟨cb, 0, none⟩), .pointer (some ⟨wr.heap.size, 0, none⟩)] (L 0) (HLS.out 0 (by omega)) hxc (by simp; omega) ?hz ?hk (cf43 _ _)).mono ?_
            case hz =>
              rintro x y ⟨h1, h2, h3⟩ hy
              have hbl := hy.block cb h3 (by simp; omega)
              exact ⟨(World.cell?_of_block hbl).trans h1, (World.frozen?_of_block hbl).trans h2, by have := hy.size; omega⟩
            case hk =>
              intro x hx
              have hx1 := hx.block cb (by simp; omega) (by simp; omega)
              have hx2 := hx.block wr.heap.size (by simp) (by simp; omega)
              have hxs := hx.size
              simp at hxs
              have hx1c : x.cell? ⟨cb, 0, none⟩ = some (.int .i64 0) := by rw [World.cell?_of_block hx1, World.cell?_of_block (Below.heap_alloc _ _ _ HZ)]; exact hcx
              have hx1f : x.frozen? ⟨cb, 0, none⟩ = false := by rw [World.frozen?_of_block hx1, World.frozen?_of_block (Below.heap_alloc _ _ _ HZ)]; exact hfx
              have hx2c : x.cell? ⟨wr.heap.size, 0, none⟩ = some (.string (L 0)) := by rw [World.cell?_of_block hx2]; (first | (simp [go_sem, BigFrame.eval_const, BigFrame.eval_global, BigFrame.eval_func, ↓IntWalk.iteOmega, *]; done) | (simp [go_sem, BigFrame.eval_const, BigFrame.eval_global, BigFrame.eval_func, ↓IntWalk.iteOmega, *]; intros; omega) | (simp [go_sem, BigFrame.eval_const, BigFrame.eval_global, BigFrame.eval_func, ↓IntWalk.iteOmega, *]; intros; exfalso; omega))
              refine (run43 x cb wr.heap.size 0 (L 0) hx1c hx1f hx2c rfl (by omega)).mono ?_
              rintro e w' ⟨rfl, rfl⟩
              exact ⟨rfl, (Fr.refl _ _ _).setCell (.inl (by simp)) _, by (first | (simp [go_sem, BigFrame.eval_const, BigFrame.eval_global, BigFrame.eval_func, ↓IntWalk.iteOmega, *]; done) | (simp [go_sem, BigFrame.eval_const, BigFrame.eval_global, BigFrame.eval_func, ↓IntWalk.iteOmega, *]; intros; omega) | (simp [go_sem, BigFrame.eval_const, BigFrame.eval_global, BigFrame.eval_func, ↓IntWalk.iteOmega, *]; intros; exfalso; omega)), by (first | (simp [go_sem, BigFrame.eval_const, BigFrame.eval_global, BigFrame.eval_func, ↓IntWalk.iteOmega, *]; done) | (simp [go_sem, BigFrame.eval_const, BigFrame.eval_global, BigFrame.eval_func, ↓IntWalk.iteOmega, *]; intros; omega) | (simp [go_sem, BigFrame.eval_const, BigFrame.eval_global, BigFrame.eval_func, ↓IntWalk.iteOmega, *]; intros; exfalso; omega)), by simp; omega⟩
            rintro e w4 ⟨rfl, hF4, hL4, _, hz1, hz2, hz3⟩
            have HL4 := Lib.hid hL4
            have hs4 := hF4.size
            simp at hs4
            have HB4 := Lib.hid ((HB.out.alloc (by omega) (.cells #[.string (L 0)] 9)).trans (hF4.below_of (C := w.heap.size) (by simp; omega) (by simp; omega)))
            clear hF4 hL4
            go_wp2_with fail
            refine (made_any HL4.out).mono ?_
            rintro e wx ⟨rfl, rfl⟩
            go_wp2_with fail
            go_roundw
            case rel => exact ⟨1, by omega, by go_num, hz2, hz3, HB4.out, .inr ⟨by omega, HL4.out, hz1⟩⟩
            case measure => simp [intOf]; omega
          · have HL := Lib.hid hl
            have HC := Lib.hid hc
            clear hl hc
            have hsl : wr.heap.size ≠ xb := by have := HL.out.lt; omega
            go_wp2_with fail
            refine (get_done (HL.out.keepB (w' := wr.alloc (.cells #[.string (L k)] 9)) (Below.heap_alloc _ _ _ (by have := HL.out.lt; omega))) _ (.inr ⟨_, _, rfl⟩)).mono ?_
            rintro e wx ⟨rfl, rfl⟩
            go_wp2_with fail
            refine (made_any (HL.out.keepB (w' := wr.alloc (.cells #[.string (L k)] 9)) (Below.heap_alloc _ _ _ (by have := HL.out.lt; omega)))).mono ?_
            rintro e wx ⟨rfl, rfl⟩
            go_wp2_with fail
            go_roundw
            case rel => exact ⟨k + 1, by omega, by go_num, (World.frozen?_of_block (Below.heap_alloc _ _ _ HZ)).trans HF.out, by simp; omega, HB.out.alloc (by have := HB.out.size; omega) _, .inr ⟨by omega, HL.out.keepB (Below.heap_alloc _ _ _ (by have := HL.out.lt; omega)), (World.cell?_of_block (Below.heap_alloc _ _ _ HZ)).trans HC.out⟩⟩
            case measure => simp [intOf]; omega
        · obtain rfl : k = N := by omega
          rcases hor with ⟨rfl, hl, hc⟩ | ⟨hk0, hl, hc⟩
          · omega
          go_wp2_with fail
          refine (get_nil _ _).mono ?_
          rintro e wx ⟨rfl, rfl⟩
          go_wp2_with fail
          refine (made_nil _).mono ?_
          rintro e wx ⟨rfl, rfl⟩
          go_wp2_with fail
          all_goals
            go_ret
            exact ⟨by simp, HB.out⟩
    · obtain rfl : N = 0 := by omega
      go_enter Try.func10, Try.ntmps10
      go_wp2_with (first | (go_at_call 40; refine (alive_any _).mono ?_; rintro e w1 ⟨rfl, hb1⟩; obtain ⟨hc1, hf1, hz1⟩ := aft hb1; try simp at hz1))
      have hL0 := lazy_new w1 92
      have HB0 := Lib.hid hb1
      clear hc1 hf1 hb1
      have HL0 := Lib.hid hL0
      clear hL0
      refine (made_any HL0.out).mono ?_
      rintro e wx ⟨rfl, rfl⟩
      go_wp2_with fail
      obtain ⟨xb, hxb⟩ : ∃ xb, xb = w1.heap.size := ⟨_, rfl⟩
      obtain ⟨cb, hcb⟩ : ∃ cb, cb = w1.heap.size + 1 := ⟨_, rfl⟩
      rw [← hcb, ← hxb]
      obtain ⟨w1', hw1'⟩ : ∃ x, x = (w1.alloc (.cells #[.int .u32 0, .int .i32 0, .int .u32 0, .int .i64 0, .string ⟨#[]⟩] 92)).alloc (.cells #[.int .i64 0] 3) := ⟨_, rfl⟩
      have HL1 : Hid (LazyAt w1' xb 0 false ⟨#[]⟩) := by rw [hw1', hxb]; exact HL0.out.keepB (Below.heap_alloc _ _ _ (by simp))
      have HC1 : Hid (w1'.cell? ⟨cb, 0, none⟩ = some (.int .i64 0)) := by rw [hw1', hcb]; show _ = _; (first | (simp [go_sem, BigFrame.eval_const, BigFrame.eval_global, BigFrame.eval_func, ↓IntWalk.iteOmega, *]; done) | (simp [go_sem, BigFrame.eval_const, BigFrame.eval_global, BigFrame.eval_func, ↓IntWalk.iteOmega, *]; intros; omega) | (simp [go_sem, BigFrame.eval_const, BigFrame.eval_global, BigFrame.eval_func, ↓IntWalk.iteOmega, *]; intros; exfalso; omega))
      have HF1 : Hid (w1'.frozen? ⟨cb, 0, none⟩ = false) := by rw [hw1', hcb]; show _ = _; (first | (simp [go_sem, BigFrame.eval_const, BigFrame.eval_global, BigFrame.eval_func, ↓IntWalk.iteOmega, *]; done) | (simp [go_sem, BigFrame.eval_const, BigFrame.eval_global, BigFrame.eval_func, ↓IntWalk.iteOmega, *]; intros; omega) | (simp [go_sem, BigFrame.eval_const, BigFrame.eval_global, BigFrame.eval_func, ↓IntWalk.iteOmega, *]; intros; exfalso; omega))
      have HB1 : Hid (Below w.heap.size w w1') := by rw [hw1']; exact ((HB0.out.alloc (by omega) _).alloc (by simp; omega) _)
      have hs1 : w1'.heap.size = w1.heap.size + 2 := by rw [hw1']; simp
      rw [← hw1']
      have hxc : xb ≠ cb := by omega
      have hxz : xb < w1'.heap.size := by omega
      have hcz : cb < w1'.heap.size := by omega
      have hwx : w.heap.size ≤ xb := by omega
      have hwc : w.heap.size ≤ cb := by omega
      clear hw1' HL0 HB0 hxb hcb hs1
      have HL3 := HL1
      have HC3 := HC1
      have HF3 := HF1
      have HB3 := HB1
      have HZ3 : cb < w1'.heap.size := by omega
      go_wp2_with fail
      go_loopw [8] (fun i wr => ∃ k : Nat, k ≤ 0 ∧ i = .int .i64 k ∧ wr.frozen? ⟨cb, 0, none⟩ = false ∧ cb < wr.heap.size ∧ Below w.heap.size w wr ∧ LazyAt wr xb 0 false ⟨#[]⟩ ∧ wr.cell? ⟨cb, 0, none⟩ = some (.int .i64 0)) (fun i _ => 0 - (intOf i).toNat)
      case atStart => exact ⟨0, by omega, rfl, HF3.out, HZ3, HB3.out, HL3.out, HC3.out⟩
      case round =>
        obtain ⟨k, hk, rfl, hf, HZ, hb, hl, hc⟩ := hrel
        have HL := Lib.hid hl
        have HF := Lib.hid hf
        have HC := Lib.hid hc
        have HB := Lib.hid hb
        clear hl hf hc hb
        obtain rfl : k = 0 := by omega
        have hcc := HC.out
        go_wp2_with fail
        refine (get_nil _ _).mono ?_
        rintro e wx ⟨rfl, rfl⟩
        go_wp2_with fail
        refine (made_nil _).mono ?_
        rintro e wx ⟨rfl, rfl⟩
        go_wp2_with fail
        all_goals
          go_ret
          exact ⟨by simp, HB.out⟩
  · 
    go_enter Try.func10, Try.ntmps10
    go_wp2_with (first | (go_at_call 40; refine (alive_any _).mono ?_; rintro e w1 ⟨rfl, hb1⟩; obtain ⟨hc1, hf1, hz1⟩ := aft hb1; try simp at hz1))
    have hL0 := lazy_new w1 92
    have HB0 := Lib.hid hb1
    clear hc1 hf1 hb1
    have HL0 := Lib.hid hL0
    clear hL0
    refine (made_any HL0.out).mono ?_
    rintro e wx ⟨rfl, rfl⟩
    go_wp2_with fail
    obtain ⟨xb, hxb⟩ : ∃ xb, xb = w1.heap.size := ⟨_, rfl⟩
    obtain ⟨cb, hcb⟩ : ∃ cb, cb = w1.heap.size + 1 := ⟨_, rfl⟩
    rw [← hcb, ← hxb]
    obtain ⟨w1', hw1'⟩ : ∃ x, x = (w1.alloc (.cells #[.int .u32 0, .int .i32 0, .int .u32 0, .int .i64 0, .string ⟨#[]⟩] 92)).alloc (.cells #[.int .i64 0] 3) := ⟨_, rfl⟩
    have HL1 : Hid (LazyAt w1' xb 0 false ⟨#[]⟩) := by rw [hw1', hxb]; exact HL0.out.keepB (Below.heap_alloc _ _ _ (by simp))
    have HC1 : Hid (w1'.cell? ⟨cb, 0, none⟩ = some (.int .i64 0)) := by rw [hw1', hcb]; show _ = _; (first | (simp [go_sem, BigFrame.eval_const, BigFrame.eval_global, BigFrame.eval_func, ↓IntWalk.iteOmega, *]; done) | (simp [go_sem, BigFrame.eval_const, BigFrame.eval_global, BigFrame.eval_func, ↓IntWalk.iteOmega, *]; intros; omega) | (simp [go_sem, BigFrame.eval_const, BigFrame.eval_global, BigFrame.eval_func, ↓IntWalk.iteOmega, *]; intros; exfalso; omega))
    have HF1 : Hid (w1'.frozen? ⟨cb, 0, none⟩ = false) := by rw [hw1', hcb]; show _ = _; (first | (simp [go_sem, BigFrame.eval_const, BigFrame.eval_global, BigFrame.eval_func, ↓IntWalk.iteOmega, *]; done) | (simp [go_sem, BigFrame.eval_const, BigFrame.eval_global, BigFrame.eval_func, ↓IntWalk.iteOmega, *]; intros; omega) | (simp [go_sem, BigFrame.eval_const, BigFrame.eval_global, BigFrame.eval_func, ↓IntWalk.iteOmega, *]; intros; exfalso; omega))
    have HB1 : Hid (Below w.heap.size w w1') := by rw [hw1']; exact ((HB0.out.alloc (by omega) _).alloc (by simp; omega) _)
    have hs1 : w1'.heap.size = w1.heap.size + 2 := by rw [hw1']; simp
    rw [← hw1']
    have hxc : xb ≠ cb := by omega
    have hxz : xb < w1'.heap.size := by omega
    have hcz : cb < w1'.heap.size := by omega
    have hwx : w.heap.size ≤ xb := by omega
    have hwc : w.heap.size ≤ cb := by omega
    clear hw1' HL0 HB0 hxb hcb hs1
    refine (get_none HL1.out).mono ?_
    rintro e w2 ⟨rfl, hF2, hL2⟩
    have hz2 := hF2.size
    have HL3 := Lib.hid hL2
    have HC3 : Hid (w2.cell? ⟨cb, 0, none⟩ = some (.int .i64 0)) := (World.cell?_of_block (hF2.block cb (by omega) (by simp; omega))).trans HC1.out
    have HF3 : Hid (w2.frozen? ⟨cb, 0, none⟩ = false) := (World.frozen?_of_block (hF2.block cb (by omega) (by simp; omega))).trans HF1.out
    have HB3 := Lib.hid (HB1.out.trans (hF2.below_of (C := w.heap.size) (by omega) (by simp; omega)))
    have HZ3 : cb < w2.heap.size := by omega
    clear hF2 hL2
    go_wp2_with fail
    refine (made_any HL3.out).mono ?_
    rintro e wx ⟨rfl, rfl⟩
    go_wp2_with fail
    go_loopw [8] (fun i wr => ∃ k : Nat, k ≤ N ∧ i = .int .i64 k ∧ wr.frozen? ⟨cb, 0, none⟩ = false ∧ cb < wr.heap.size ∧ Below w.heap.size w wr ∧ LazyAt wr xb 0 true ⟨#[]⟩ ∧ wr.cell? ⟨cb, 0, none⟩ = some (.int .i64 0)) (fun i _ => N - (intOf i).toNat)
    case atStart => exact ⟨0, by omega, rfl, HF3.out, HZ3, HB3.out, HL3.out, HC3.out⟩
    case round =>
      obtain ⟨k, hk, rfl, hf, HZ, hb, hl, hc⟩ := hrel
      have HL := Lib.hid hl
      have HF := Lib.hid hf
      have HC := Lib.hid hc
      have HB := Lib.hid hb
      clear hl hf hc hb
      by_cases hlt : k < N
      · have hLk := HC0.out k hlt
        have hsbN := HSB.out (by omega)
        have hxw : w.heap.size ≤ wr.heap.size := HB.out.size
        rw [← HB.out.cell (p := ⟨sb, off + k, none⟩) hsbN] at hLk
        obtain rfl : ao = some ⟨sb, off, none⟩ := by rcases HAO.out with h | h; exact h; omega
        have hsl : wr.heap.size ≠ xb := by have := HL.out.lt; omega
        go_wp2_with fail
        refine (get_done (HL.out.keepB (w' := wr.alloc (.cells #[.string (L k)] 9)) (Below.heap_alloc _ _ _ (by have := HL.out.lt; omega))) _ (.inr ⟨_, _, rfl⟩)).mono ?_
        rintro e wx ⟨rfl, rfl⟩
        go_wp2_with fail
        refine (made_any (HL.out.keepB (w' := wr.alloc (.cells #[.string (L k)] 9)) (Below.heap_alloc _ _ _ (by have := HL.out.lt; omega)))).mono ?_
        rintro e wx ⟨rfl, rfl⟩
        go_wp2_with fail
        go_roundw
        case rel => exact ⟨k + 1, by omega, by go_num, (World.frozen?_of_block (Below.heap_alloc _ _ _ HZ)).trans HF.out, by simp; omega, HB.out.alloc (by have := HB.out.size; omega) _, HL.out.keepB (Below.heap_alloc _ _ _ (by have := HL.out.lt; omega)), (World.cell?_of_block (Below.heap_alloc _ _ _ HZ)).trans HC.out⟩
        case measure => simp [intOf]; omega
      · obtain rfl : k = N := by omega
        have hcc := HC.out
        go_wp2_with fail
        refine (get_nil _ _).mono ?_
        rintro e wx ⟨rfl, rfl⟩
        go_wp2_with fail
        refine (made_nil _).mono ?_
        rintro e wx ⟨rfl, rfl⟩
        go_wp2_with fail
        all_goals
          go_ret
          exact ⟨by simp, HB.out⟩
end Go.Proofs.Ytgbnpdgaalpkcaa.L7
