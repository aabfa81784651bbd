/- Option, Sub of wire; the document's Option, Sub -/
import Derived.Test.YtjlamnioknbcaaaDoorV2
namespace Go.Proofs.YtjlamnioknbcaaaDoor.V3
set_option linter.unusedVariables false
set_option linter.unusedSimpArgs false
set_option linter.unnecessarySimpa false
set_option maxRecDepth 100000
open Go.RowKit K1 K3 K5 K11 K12 K14 K20 K21 K22 K25 W0 V1 V2
attribute [local go_sem] cell_pastA froz_pastA
theorem app_arr (a b : List UInt8) : (⟨(a ++ b).toArray⟩ : ByteArray) = ⟨a.toArray⟩ ++ ⟨b.toArray⟩ := by
  apply ByteArray.ext
  simp
theorem wrapu8 (n : Int) (h0 : 0 ≤ n) (h1 : n ≤ 255) : IntKind.u8.wrap n = n := by
  unfold IntKind.wrap
  have h : IntKind.u8.signed = false := rfl
  simp [h, IntKind.bits]
  omega
def optB (c o : Nat) : List UInt8 := [255, UInt8.ofNat c, UInt8.ofNat o]
theorem ofNat_toNat (n : Nat) (h : n ≤ 255) : (UInt8.ofNat n).toNat = n := by simp [UInt8.toNat_ofNat] <;> omega
def subB (o : Nat) (s : List UInt8) : List UInt8 := [255, 250, UInt8.ofNat o] ++ dbl s ++ [255, 240]
theorem conv_new {w : World} {b : Nat} {cs : Array Value} (l : List UInt8) (h : w.heap[b]? = some (.cells cs 5 (0, 0))) (e : cs.toList = l.map K14.u8) (hl : l.length ≤ maxLen) : (convert 72 9 (.slice (some ⟨b, 0, none⟩) l.length l.length)).run Tryd.prog w = .ok (.string ⟨l.toArray⟩) w :=
  conv_own (v := .slice (some ⟨b, 0, none⟩) l.length l.length) (n := l.length) ⟨by simp, .inr ⟨b, l.length, cs, rfl, Nat.zero_le _, h, Nat.le_refl _, hl, by rw [← Array.length_toList, e]; simp, by rw [e, Nat.mul_one, List.take_of_length_le (by simp)]⟩⟩ rfl
def optW (f c o : Nat) (P : Program) (w : World) : Prop := True
theorem opt_conv (c o : Nat) (w : World) (hc : c ≤ 255) (ho : o ≤ 255) : (convert 72 9 (.slice (some ⟨w.heap.size, 0, none⟩) 3 3)).run Tryd.prog (w.alloc (.cells #[.int .u8 255, .int .u8 c, .int .u8 o] 5)) = .ok (.string ⟨(optB c o).toArray⟩) (w.alloc (.cells #[.int .u8 255, .int .u8 c, .int .u8 o] 5)) :=
  conv_new (optB c o) (blk_new rfl) (by simp [optB, K14.u8, ofNat_toNat c hc, ofNat_toNat o ho]) (by simp [optB, maxLen])
set_option maxHeartbeats 4000000 in
theorem option_any (c o : Nat) (w : World) (hc : 251 ≤ c) (hc2 : c ≤ 254) (ho : o ≤ 255) : Calls Tryd.prog 38 #[.int .i64 c, .int .i64 o] w fun e w' => e = .returned (.tuple #[.string ⟨(optB c o).toArray⟩, .int .i64 0]) ∧ Below w.heap.size w w' := by
  have h1 : decide ((c : Int) < 251) = false := by simp; omega
  have h2 : decide ((254 : Int) < (c : Int)) = false := by simp; omega
  have h3 : decide ((o : Int) < 0) = false := by simp
  have h4 : decide ((255 : Int) < (o : Int)) = false := by simp; omega
  have w1 := wrapu8 c (by omega) (by omega)
  have w2 := wrapu8 o (by omega) (by omega)
  have HCV := opt_conv c o w (by omega) ho
  go_enter Tryd.func38, Tryd.ntmps38
  go_wp2_with fail
  go_ret2
  exact ⟨rfl, by repeat' (first | with_reducible assumption | with_reducible exact Below.refl _ _ | with_reducible apply Below.alloc | with_reducible apply Below.setCell | with_reducible apply Below.drew | (refine Below.trans ?_ (Below.mono (by with_reducible assumption) ?_)) | omega | (simp; omega) | (simp; done))⟩
set_option maxHeartbeats 4000000 in
theorem option_err (c o : Int) (w : World) (h : c < 251 ∨ 254 < c ∨ o < 0 ∨ 255 < o) : Calls Tryd.prog 38 #[.int .i64 c, .int .i64 o] w fun e w' => e = .returned (.tuple #[.string ⟨#[]⟩, .int .i64 1]) ∧ w' = w := by
  have h0 : (decide (c < 251) = true) ∨ (decide (c < 251) = false ∧ decide (254 < c) = true) ∨ (decide (c < 251) = false ∧ decide (254 < c) = false ∧ decide (o < 0) = true) ∨ (decide (c < 251) = false ∧ decide (254 < c) = false ∧ decide (o < 0) = false ∧ decide (255 < o) = true) := by
    simp only [decide_eq_true_eq, decide_eq_false_iff_not]; omega
  clear h
  rcases h0 with h1 | ⟨h1, h2⟩ | ⟨h1, h2, h3⟩ | ⟨h1, h2, h3, h4⟩
  all_goals
    go_enter Tryd.func38, Tryd.ntmps38
    go_wp2_with fail
    go_ret2
    exact ⟨rfl, rfl⟩
set_option maxHeartbeats 4000000 in
theorem refOption_any (c o : Nat) (w : World) (hc : c ≤ 255) (ho : o ≤ 255) : Calls Tryd.prog 10 #[.int .i64 c, .int .i64 o] w fun e w' => e = .returned (.string ⟨(optB c o).toArray⟩) ∧ Below w.heap.size w w' := by
  have w1 := wrapu8 c (by omega) (by omega)
  have w2 := wrapu8 o (by omega) (by omega)
  have HCV := opt_conv c o w hc ho
  go_enter Tryd.func10, Tryd.ntmps10
  go_wp2_with fail
  go_ret
  exact ⟨rfl, by repeat' (first | with_reducible assumption | with_reducible exact Below.refl _ _ | with_reducible apply Below.alloc | with_reducible apply Below.setCell | with_reducible apply Below.drew | (refine Below.trans ?_ (Below.mono (by with_reducible assumption) ?_)) | omega | (simp; omega) | (simp; done))⟩
theorem refDbl_any (s : ByteArray) (w : World) (hs : s.size ≤ 100000) : Calls Tryd.prog 21 #[.bool true, .string s] w fun e w' => e = .returned (.string ⟨(dbl s.data.toList).toArray⟩) ∧ Below w.heap.size w w' := refData_any true s w hs
theorem sub_head (o : Nat) (ho : o ≤ 255) {w : World} {b : Nat} (h : w.heap[b]? = some (.cells #[.int .u8 255, .int .u8 250, .int .u8 o] 5 (0, 0))) : (convert 72 9 (.slice (some ⟨b, 0, none⟩) 3 3)).run Tryd.prog w = .ok (.string ⟨[255, 250, UInt8.ofNat o].toArray⟩) w :=
  conv_new [255, 250, UInt8.ofNat o] h (by simp [K14.u8, ofNat_toNat o ho]) (by simp [maxLen])
theorem sub_tail {w : World} {b : Nat} (h : w.heap[b]? = some (.cells #[.int .u8 255, .int .u8 240] 5 (0, 0))) : (convert 72 9 (.slice (some ⟨b, 0, none⟩) 2 2)).run Tryd.prog w = .ok (.string ⟨[255, 240].toArray⟩) w :=
  conv_new [255, 240] h (by simp [K14.u8]) (by simp [maxLen])
theorem sub_str (o : Nat) (l : List UInt8) : ((⟨[255, 250, UInt8.ofNat o].toArray⟩ : ByteArray) ++ ⟨(dbl l).toArray⟩) ++ ⟨[255, 240].toArray⟩ = ⟨(subB o l).toArray⟩ := by
  unfold subB
  rw [app_arr, app_arr]
theorem size_arr (l : List UInt8) : (⟨l.toArray⟩ : ByteArray).size = l.length := by simp [ByteArray.size]
set_option maxHeartbeats 4000000 in
theorem refSub_any (o : Nat) (s : ByteArray) (w : World) (ho : o ≤ 255) (hs : s.size ≤ 100000) : Calls Tryd.prog 11 #[.int .i64 o, .string s] w fun e w' => e = .returned (.string ⟨(subB o s.data.toList).toArray⟩) ∧ Below w.heap.size w w' := by
  have w2 := wrapu8 o (by omega) (by omega)
  have hdl := dbl_len s.data.toList
  have hsz := size_arr (dbl s.data.toList)
  have hsl : s.data.toList.length = s.size := by simp
  have SH := fun b (x : World) h => sub_head o ho (w := x) (b := b) h
  go_enter Tryd.func11, Tryd.ntmps11
  go_wp2_with fail
  refine K23.wp_region_quietO (w := _) [2, 7] [] 11 [0, 1, 4, 5, 2, 3, 6, 7, 8, 9, 10] (by kernel_rfl) (by kernel_rfl) (fun _ _ dx _ _ hx => by cases dx <;> exact hx) ?_
  simp only [K23.pickOps, List.getElem?_cons_succ, List.getElem?_cons_zero, List.drop_succ_cons, List.drop_zero, List.drop_nil]
  (refine wz_do (by decide) (by decide) C0e.es (growsB (by simp)) ?_ ?_; (focus (first | rfl | (go_simp; done))); apply Exists.intro; refine ⟨fun bs hok wx hwx hL => ?_, ?_⟩; (focus ((have hwx : Below _ _ wx := hwx; have hcx := cellA hwx; have hfx := frozA hwx; have hzx := hwx.size; (try simp at hzx)); unfold zAt; (try simp [go_sem, BigFrame.eval_const, BigFrame.eval_global, BigFrame.eval_func, ↓IntWalk.iteOmega, *]); (try simp only [zUpon]); (first | exact ⟨rfl, Below.refl _ _⟩ | (refine ⟨rfl, ?_⟩; go_at_call 21; refine (refDbl_any s _ hs).mono ?_; rintro e wy ⟨rfl, hby⟩; exact ⟨_, rfl, rfl, hby⟩)))); (try go_simp))
  (refine wz_do (by decide) (by decide) C0e.es (growsB (by simp)) ?_ ?_; (focus (first | rfl | (go_simp; done))); apply Exists.intro; refine ⟨fun bs hok wx hwx hL => ?_, ?_⟩; (focus ((have hwx : Below _ _ wx := hwx; have hcx := cellA hwx; have hfx := frozA hwx; have hzx := hwx.size; (try simp at hzx)); unfold zAt; (try simp [go_sem, BigFrame.eval_const, BigFrame.eval_global, BigFrame.eval_func, ↓IntWalk.iteOmega, *]); (try simp only [zUpon]); (first | exact ⟨rfl, Below.refl _ _⟩ | (refine ⟨rfl, ?_⟩; go_at_call 21; refine (refDbl_any s _ hs).mono ?_; rintro e wy ⟨rfl, hby⟩; exact ⟨_, rfl, rfl, hby⟩)))); (try go_simp))
  (refine wz_do (by decide) (by decide) C0e.es (growsB (by simp)) ?_ ?_; (focus (first | rfl | (go_simp; done))); apply Exists.intro; refine ⟨fun bs hok wx hwx hL => ?_, ?_⟩; (focus ((have hwx : Below _ _ wx := hwx; have hcx := cellA hwx; have hfx := frozA hwx; have hzx := hwx.size; (try simp at hzx)); unfold zAt; (try simp [go_sem, BigFrame.eval_const, BigFrame.eval_global, BigFrame.eval_func, ↓IntWalk.iteOmega, *]); (try simp only [zUpon]); (first | exact ⟨rfl, Below.refl _ _⟩ | (refine ⟨rfl, ?_⟩; go_at_call 21; refine (refDbl_any s _ hs).mono ?_; rintro e wy ⟨rfl, hby⟩; exact ⟨_, rfl, rfl, hby⟩)))); (try go_simp))
  (refine wz_do (by decide) (by decide) C0e.es (growsB (by simp)) ?_ ?_; (focus (first | rfl | (go_simp; done))); apply Exists.intro; refine ⟨fun bs hok wx hwx hL => ?_, ?_⟩; (focus ((have hwx : Below _ _ wx := hwx; have hcx := cellA hwx; have hfx := frozA hwx; have hzx := hwx.size; (try simp at hzx)); unfold zAt; (try simp [go_sem, BigFrame.eval_const, BigFrame.eval_global, BigFrame.eval_func, ↓IntWalk.iteOmega, *]); (try simp only [zUpon]); (first | exact ⟨rfl, Below.refl _ _⟩ | (refine ⟨rfl, ?_⟩; go_at_call 21; refine (refDbl_any s _ hs).mono ?_; rintro e wy ⟨rfl, hby⟩; exact ⟨_, rfl, rfl, hby⟩)))); (try go_simp))
  (refine wz_new (fun b => .slice (some ⟨b, 0, none⟩) 3 3) _ _ (by decide) (by decide) (by decide) C0e.es (growsB (by simp)) (by first | rfl | (go_simp; done)) (by intro b b' h; simp at h; omega) (by simp) (fun _ _ h => Below.size h) (fun bs hok wx hwx hL => by (have hwx : Below _ _ wx := hwx; have hcx := cellA hwx; have hfx := frozA hwx; have hzx := hwx.size; (try simp at hzx)); (try simp [go_sem, BigFrame.eval_const, BigFrame.eval_global, BigFrame.eval_func, ↓IntWalk.iteOmega, *]); first | done | rfl) ?_; intro b2 hb2 F2 hF2; (try simp at hb2); (try go_simp))
  (refine wz_do (by decide) (by decide) C0e.es (growsB (by simp)) ?_ ?_; (focus (first | rfl | (go_simp; done))); apply Exists.intro; refine ⟨fun bs hok wx hwx hL => ?_, ?_⟩; (focus ((have hwx : Below _ _ wx := hwx; have hcx := cellA hwx; have hfx := frozA hwx; have hzx := hwx.size; (try simp at hzx)); (try (have hm2 := hF2 _ (hL (2, F2) (by simp) (by kernel_rfl)); have hk2 := cell_blk hm2)); (try (have hcv := sub_head o ho hm2)); unfold zAt; (try simp [go_sem, BigFrame.eval_const, BigFrame.eval_global, BigFrame.eval_func, ↓IntWalk.iteOmega, *]); (try simp only [zUpon]); (first | exact ⟨rfl, Below.refl _ _⟩ | (refine ⟨rfl, ?_⟩; go_at_call 21; refine (refDbl_any s _ hs).mono ?_; rintro e wy ⟨rfl, hby⟩; exact ⟨_, rfl, rfl, hby⟩)))); (try go_simp))
  (refine wz_do (by decide) (by decide) C0e.es (growsB (by simp)) ?_ ?_; (focus (first | rfl | (go_simp; done))); apply Exists.intro; refine ⟨fun bs hok wx hwx hL => ?_, ?_⟩; (focus ((have hwx : Below _ _ wx := hwx; have hcx := cellA hwx; have hfx := frozA hwx; have hzx := hwx.size; (try simp at hzx)); (try (have hm2 := hF2 _ (hL (2, F2) (by simp) (by kernel_rfl)); have hk2 := cell_blk hm2)); unfold zAt; (try simp [go_sem, BigFrame.eval_const, BigFrame.eval_global, BigFrame.eval_func, ↓IntWalk.iteOmega, *]); (try simp only [zUpon]); (first | exact ⟨rfl, Below.refl _ _⟩ | (refine ⟨rfl, ?_⟩; go_at_call 21; refine (refDbl_any s _ hs).mono ?_; rintro e wy ⟨rfl, hby⟩; exact ⟨_, rfl, rfl, hby⟩)))); (try go_simp))
  (refine wz_new (fun b => .slice (some ⟨b, 0, none⟩) 2 2) _ _ (by decide) (by decide) (by decide) C0e.es (growsB (by simp)) (by first | rfl | (go_simp; done)) (by intro b b' h; simp at h; omega) (by simp) (fun _ _ h => Below.size h) (fun bs hok wx hwx hL => by (have hwx : Below _ _ wx := hwx; have hcx := cellA hwx; have hfx := frozA hwx; have hzx := hwx.size; (try simp at hzx)); (try simp [go_sem, BigFrame.eval_const, BigFrame.eval_global, BigFrame.eval_func, ↓IntWalk.iteOmega, *]); first | done | rfl) ?_; intro b7 hb7 F7 hF7; (try simp at hb7); (try go_simp))
  (refine wz_do (by decide) (by decide) C0e.es (growsB (by simp)) ?_ ?_; (focus (first | rfl | (go_simp; done))); apply Exists.intro; refine ⟨fun bs hok wx hwx hL => ?_, ?_⟩; (focus ((have hwx : Below _ _ wx := hwx; have hcx := cellA hwx; have hfx := frozA hwx; have hzx := hwx.size; (try simp at hzx)); (try (have hm7 := hF7 _ (hL (7, F7) (by simp) (by kernel_rfl)); have hk7 := cell_blk hm7)); (try (have hcv := sub_tail hm7)); unfold zAt; (try simp [go_sem, BigFrame.eval_const, BigFrame.eval_global, BigFrame.eval_func, ↓IntWalk.iteOmega, *]); (try simp only [zUpon]); (first | exact ⟨rfl, Below.refl _ _⟩ | (refine ⟨rfl, ?_⟩; go_at_call 21; refine (refDbl_any s _ hs).mono ?_; rintro e wy ⟨rfl, hby⟩; exact ⟨_, rfl, rfl, hby⟩)))); (try go_simp))
  (refine wz_do (by decide) (by decide) C0e.es (growsB (by simp)) ?_ ?_; (focus (first | rfl | (go_simp; done))); apply Exists.intro; refine ⟨fun bs hok wx hwx hL => ?_, ?_⟩; (focus ((have hwx : Below _ _ wx := hwx; have hcx := cellA hwx; have hfx := frozA hwx; have hzx := hwx.size; (try simp at hzx)); (try (have hm2 := hF2 _ (hL (2, F2) (by simp) (by kernel_rfl)); have hk2 := cell_blk hm2)); (try (have hm7 := hF7 _ (hL (7, F7) (by simp) (by kernel_rfl)); have hk7 := cell_blk hm7)); unfold zAt; (try simp [go_sem, BigFrame.eval_const, BigFrame.eval_global, BigFrame.eval_func, ↓IntWalk.iteOmega, *]); (try simp only [zUpon]); (first | exact ⟨rfl, Below.refl _ _⟩ | (refine ⟨rfl, ?_⟩; go_at_call 21; refine (refDbl_any s _ hs).mono ?_; rintro e wy ⟨rfl, hby⟩; exact ⟨_, rfl, rfl, hby⟩)))); (try go_simp))
  (refine wz_do (by decide) (by decide) C0e.es (growsB (by simp)) ?_ ?_; (focus (first | rfl | (go_simp; done))); apply Exists.intro; refine ⟨fun bs hok wx hwx hL => ?_, ?_⟩; (focus ((have hwx : Below _ _ wx := hwx; have hcx := cellA hwx; have hfx := frozA hwx; have hzx := hwx.size; (try simp at hzx)); (try (have hm2 := hF2 _ (hL (2, F2) (by simp) (by kernel_rfl)); have hk2 := cell_blk hm2)); (try (have hm7 := hF7 _ (hL (7, F7) (by simp) (by kernel_rfl)); have hk7 := cell_blk hm7)); unfold zAt; (try simp [go_sem, BigFrame.eval_const, BigFrame.eval_global, BigFrame.eval_func, ↓IntWalk.iteOmega, *]); (try simp only [zUpon]); (first | exact ⟨rfl, Below.refl _ _⟩ | (refine ⟨rfl, ?_⟩; go_at_call 21; refine (refDbl_any s _ hs).mono ?_; rintro e wy ⟨rfl, hby⟩; exact ⟨_, rfl, rfl, hby⟩)))); (try go_simp))
  refine wz_nil ?_
  intro wq hbq hLq
  have hm2 := hF2 _ (hLq.get 2 (by simp))
  have hm7 := hF7 _ (hLq.get 7 (by simp))
  obtain ⟨hk2, hx2, hg2, hy2, hl2⟩ := blk hm2
  obtain ⟨hk7, hx7, hg7, hy7, hl7⟩ := blk hm7
  clear hLq hF2 hF7
  have hcwq := cellA hbq
  have hfwq := frozA hbq
  have hzwq := hbq.size
  try simp at hzwq
  go_wp2_with fail
  go_ret
  exact ⟨congrArg (fun x => Ending.returned (Value.string x)) (sub_str o s.data.toList), hbq⟩
set_option maxHeartbeats 4000000 in
theorem sub_any (o : Nat) (v : Value) (L : List (List UInt8)) (w : World) (hv : Rd 1 strE w v L) (hg : Glob w) (hl : L.flatten.length ≤ 40) (hn : L.length ≤ 1000000) (ho : o ≤ 255) : Calls Tryd.prog 20 #[.int .i64 o, v] w fun e w' => e = .returned (.tuple #[.string ⟨(subB o L.flatten).toArray⟩, .int .i64 0]) ∧ Below w.heap.size w w' := by
  have HV := Lib.hid hv
  have HG := Lib.hid hg
  clear hv hg
  have w2 := wrapu8 o (by omega) (by omega)
  have hdl := dbl_len L.flatten
  have hsz := size_arr (dbl L.flatten)
  have h1 : decide ((o : Int) < 0) = false := by simp
  have h2 : decide ((255 : Int) < (o : Int)) = false := by simp; omega
  obtain ⟨l, hll⟩ : ∃ l, l = L.flatten := ⟨_, rfl⟩
  have hls := size_arr l
  have h3 : decide ((40 : Int) < (l.length : Int)) = false := by rw [hll]; simp only [decide_eq_false_iff_not]; omega
  have JN := fun w' (hb : Below w.heap.size w w') => join_s v L ⟨l.toArray⟩ w' (by rw [hll]) (HV.out.below hb) (by omega) hn
  rw [← hll] at hl hdl hsz ⊢
  clear hll
  go_enter Tryd.func20, Tryd.ntmps20
  go_wp2_with (go_at_call 31; refine (JN _ (Below.refl _ _)).mono ?_; rintro e w1 ⟨rfl, hb1⟩; have HG1 := Lib.hid (HG.out.below hb1); have HB1 := Lib.hid hb1; clear hb1)
  refine K23.wp_region_quietO (w := _) [2, 7] [] 12 [0, 1, 4, 5, 2, 3, 6, 7, 8, 9, 10, 11] (by kernel_rfl) (by kernel_rfl) (fun _ _ dx _ _ hx => by cases dx <;> exact hx) ?_
  simp only [K23.pickOps, List.getElem?_cons_succ, List.getElem?_cons_zero, List.drop_succ_cons, List.drop_zero, List.drop_nil]
  (refine wz_do (by decide) (by decide) C0e.es (growsB (by simp)) ?_ ?_; (focus (first | rfl | (go_simp; done))); apply Exists.intro; refine ⟨fun bs hok wx hwx hL => ?_, ?_⟩; (focus ((have hwx : Below _ _ wx := hwx; have hcx := cellA hwx; have hfx := frozA hwx; have hzx := hwx.size; (try simp at hzx)); unfold zAt; (try simp [go_sem, BigFrame.eval_const, BigFrame.eval_global, BigFrame.eval_func, ↓IntWalk.iteOmega, *]); (try simp only [zUpon]); (first | exact ⟨rfl, Below.refl _ _⟩ | (refine ⟨rfl, ?_⟩; go_at_call 32; refine (double_any l _ (HG1.out.at hwx (by have := World.block_lt_of_cell? _ _ HG1.out.choose_spec; exact this)) (by omega)).mono ?_; rintro e wy ⟨rfl, hby⟩; exact ⟨_, rfl, rfl, hby⟩)))); (try go_simp))
  (refine wz_do (by decide) (by decide) C0e.es (growsB (by simp)) ?_ ?_; (focus (first | rfl | (go_simp; done))); apply Exists.intro; refine ⟨fun bs hok wx hwx hL => ?_, ?_⟩; (focus ((have hwx : Below _ _ wx := hwx; have hcx := cellA hwx; have hfx := frozA hwx; have hzx := hwx.size; (try simp at hzx)); unfold zAt; (try simp [go_sem, BigFrame.eval_const, BigFrame.eval_global, BigFrame.eval_func, ↓IntWalk.iteOmega, *]); (try simp only [zUpon]); (first | exact ⟨rfl, Below.refl _ _⟩ | (refine ⟨rfl, ?_⟩; go_at_call 32; refine (double_any l _ (HG1.out.at hwx (by have := World.block_lt_of_cell? _ _ HG1.out.choose_spec; exact this)) (by omega)).mono ?_; rintro e wy ⟨rfl, hby⟩; exact ⟨_, rfl, rfl, hby⟩)))); (try go_simp))
  (refine wz_do (by decide) (by decide) C0e.es (growsB (by simp)) ?_ ?_; (focus (first | rfl | (go_simp; done))); apply Exists.intro; refine ⟨fun bs hok wx hwx hL => ?_, ?_⟩; (focus ((have hwx : Below _ _ wx := hwx; have hcx := cellA hwx; have hfx := frozA hwx; have hzx := hwx.size; (try simp at hzx)); unfold zAt; (try simp [go_sem, BigFrame.eval_const, BigFrame.eval_global, BigFrame.eval_func, ↓IntWalk.iteOmega, *]); (try simp only [zUpon]); (first | exact ⟨rfl, Below.refl _ _⟩ | (refine ⟨rfl, ?_⟩; go_at_call 32; refine (double_any l _ (HG1.out.at hwx (by have := World.block_lt_of_cell? _ _ HG1.out.choose_spec; exact this)) (by omega)).mono ?_; rintro e wy ⟨rfl, hby⟩; exact ⟨_, rfl, rfl, hby⟩)))); (try go_simp))
  (refine wz_do (by decide) (by decide) C0e.es (growsB (by simp)) ?_ ?_; (focus (first | rfl | (go_simp; done))); apply Exists.intro; refine ⟨fun bs hok wx hwx hL => ?_, ?_⟩; (focus ((have hwx : Below _ _ wx := hwx; have hcx := cellA hwx; have hfx := frozA hwx; have hzx := hwx.size; (try simp at hzx)); unfold zAt; (try simp [go_sem, BigFrame.eval_const, BigFrame.eval_global, BigFrame.eval_func, ↓IntWalk.iteOmega, *]); (try simp only [zUpon]); (first | exact ⟨rfl, Below.refl _ _⟩ | (refine ⟨rfl, ?_⟩; go_at_call 32; refine (double_any l _ (HG1.out.at hwx (by have := World.block_lt_of_cell? _ _ HG1.out.choose_spec; exact this)) (by omega)).mono ?_; rintro e wy ⟨rfl, hby⟩; exact ⟨_, rfl, rfl, hby⟩)))); (try go_simp))
  (refine wz_new (fun b => .slice (some ⟨b, 0, none⟩) 3 3) _ _ (by decide) (by decide) (by decide) C0e.es (growsB (by simp)) (by first | rfl | (go_simp; done)) (by intro b b' h; simp at h; omega) (by simp) (fun _ _ h => Below.size h) (fun bs hok wx hwx hL => by (have hwx : Below _ _ wx := hwx; have hcx := cellA hwx; have hfx := frozA hwx; have hzx := hwx.size; (try simp at hzx)); (try simp [go_sem, BigFrame.eval_const, BigFrame.eval_global, BigFrame.eval_func, ↓IntWalk.iteOmega, *]); first | done | rfl) ?_; intro b2 hb2 F2 hF2; (try simp at hb2); (try go_simp))
  (refine wz_do (by decide) (by decide) C0e.es (growsB (by simp)) ?_ ?_; (focus (first | rfl | (go_simp; done))); apply Exists.intro; refine ⟨fun bs hok wx hwx hL => ?_, ?_⟩; (focus ((have hwx : Below _ _ wx := hwx; have hcx := cellA hwx; have hfx := frozA hwx; have hzx := hwx.size; (try simp at hzx)); (try (have hm2 := hF2 _ (hL (2, F2) (by simp) (by kernel_rfl)); have hk2 := cell_blk hm2)); (try (have hcv := sub_head o ho hm2)); unfold zAt; (try simp [go_sem, BigFrame.eval_const, BigFrame.eval_global, BigFrame.eval_func, ↓IntWalk.iteOmega, *]); (try simp only [zUpon]); (first | exact ⟨rfl, Below.refl _ _⟩ | (refine ⟨rfl, ?_⟩; go_at_call 32; refine (double_any l _ (HG1.out.at hwx (by have := World.block_lt_of_cell? _ _ HG1.out.choose_spec; exact this)) (by omega)).mono ?_; rintro e wy ⟨rfl, hby⟩; exact ⟨_, rfl, rfl, hby⟩)))); (try go_simp))
  (refine wz_do (by decide) (by decide) C0e.es (growsB (by simp)) ?_ ?_; (focus (first | rfl | (go_simp; done))); apply Exists.intro; refine ⟨fun bs hok wx hwx hL => ?_, ?_⟩; (focus ((have hwx : Below _ _ wx := hwx; have hcx := cellA hwx; have hfx := frozA hwx; have hzx := hwx.size; (try simp at hzx)); (try (have hm2 := hF2 _ (hL (2, F2) (by simp) (by kernel_rfl)); have hk2 := cell_blk hm2)); unfold zAt; (try simp [go_sem, BigFrame.eval_const, BigFrame.eval_global, BigFrame.eval_func, ↓IntWalk.iteOmega, *]); (try simp only [zUpon]); (first | exact ⟨rfl, Below.refl _ _⟩ | (refine ⟨rfl, ?_⟩; go_at_call 32; refine (double_any l _ (HG1.out.at hwx (by have := World.block_lt_of_cell? _ _ HG1.out.choose_spec; exact this)) (by omega)).mono ?_; rintro e wy ⟨rfl, hby⟩; exact ⟨_, rfl, rfl, hby⟩)))); (try go_simp))
  (refine wz_new (fun b => .slice (some ⟨b, 0, none⟩) 2 2) _ _ (by decide) (by decide) (by decide) C0e.es (growsB (by simp)) (by first | rfl | (go_simp; done)) (by intro b b' h; simp at h; omega) (by simp) (fun _ _ h => Below.size h) (fun bs hok wx hwx hL => by (have hwx : Below _ _ wx := hwx; have hcx := cellA hwx; have hfx := frozA hwx; have hzx := hwx.size; (try simp at hzx)); (try simp [go_sem, BigFrame.eval_const, BigFrame.eval_global, BigFrame.eval_func, ↓IntWalk.iteOmega, *]); first | done | rfl) ?_; intro b7 hb7 F7 hF7; (try simp at hb7); (try go_simp))
  (refine wz_do (by decide) (by decide) C0e.es (growsB (by simp)) ?_ ?_; (focus (first | rfl | (go_simp; done))); apply Exists.intro; refine ⟨fun bs hok wx hwx hL => ?_, ?_⟩; (focus ((have hwx : Below _ _ wx := hwx; have hcx := cellA hwx; have hfx := frozA hwx; have hzx := hwx.size; (try simp at hzx)); (try (have hm7 := hF7 _ (hL (7, F7) (by simp) (by kernel_rfl)); have hk7 := cell_blk hm7)); (try (have hcv := sub_tail hm7)); unfold zAt; (try simp [go_sem, BigFrame.eval_const, BigFrame.eval_global, BigFrame.eval_func, ↓IntWalk.iteOmega, *]); (try simp only [zUpon]); (first | exact ⟨rfl, Below.refl _ _⟩ | (refine ⟨rfl, ?_⟩; go_at_call 32; refine (double_any l _ (HG1.out.at hwx (by have := World.block_lt_of_cell? _ _ HG1.out.choose_spec; exact this)) (by omega)).mono ?_; rintro e wy ⟨rfl, hby⟩; exact ⟨_, rfl, rfl, hby⟩)))); (try go_simp))
  (refine wz_do (by decide) (by decide) C0e.es (growsB (by simp)) ?_ ?_; (focus (first | rfl | (go_simp; done))); apply Exists.intro; refine ⟨fun bs hok wx hwx hL => ?_, ?_⟩; (focus ((have hwx : Below _ _ wx := hwx; have hcx := cellA hwx; have hfx := frozA hwx; have hzx := hwx.size; (try simp at hzx)); (try (have hm2 := hF2 _ (hL (2, F2) (by simp) (by kernel_rfl)); have hk2 := cell_blk hm2)); (try (have hm7 := hF7 _ (hL (7, F7) (by simp) (by kernel_rfl)); have hk7 := cell_blk hm7)); unfold zAt; (try simp [go_sem, BigFrame.eval_const, BigFrame.eval_global, BigFrame.eval_func, ↓IntWalk.iteOmega, *]); (try simp only [zUpon]); (first | exact ⟨rfl, Below.refl _ _⟩ | (refine ⟨rfl, ?_⟩; go_at_call 32; refine (double_any l _ (HG1.out.at hwx (by have := World.block_lt_of_cell? _ _ HG1.out.choose_spec; exact this)) (by omega)).mono ?_; rintro e wy ⟨rfl, hby⟩; exact ⟨_, rfl, rfl, hby⟩)))); (try go_simp))
  (refine wz_do (by decide) (by decide) C0e.es (growsB (by simp)) ?_ ?_; (focus (first | rfl | (go_simp; done))); apply Exists.intro; refine ⟨fun bs hok wx hwx hL => ?_, ?_⟩; (focus ((have hwx : Below _ _ wx := hwx; have hcx := cellA hwx; have hfx := frozA hwx; have hzx := hwx.size; (try simp at hzx)); (try (have hm2 := hF2 _ (hL (2, F2) (by simp) (by kernel_rfl)); have hk2 := cell_blk hm2)); (try (have hm7 := hF7 _ (hL (7, F7) (by simp) (by kernel_rfl)); have hk7 := cell_blk hm7)); unfold zAt; (try simp [go_sem, BigFrame.eval_const, BigFrame.eval_global, BigFrame.eval_func, ↓IntWalk.iteOmega, *]); (try simp only [zUpon]); (first | exact ⟨rfl, Below.refl _ _⟩ | (refine ⟨rfl, ?_⟩; go_at_call 32; refine (double_any l _ (HG1.out.at hwx (by have := World.block_lt_of_cell? _ _ HG1.out.choose_spec; exact this)) (by omega)).mono ?_; rintro e wy ⟨rfl, hby⟩; exact ⟨_, rfl, rfl, hby⟩)))); (try go_simp))
  (refine wz_do (by decide) (by decide) C0e.es (growsB (by simp)) ?_ ?_; (focus (first | rfl | (go_simp; done))); apply Exists.intro; refine ⟨fun bs hok wx hwx hL => ?_, ?_⟩; (focus ((have hwx : Below _ _ wx := hwx; have hcx := cellA hwx; have hfx := frozA hwx; have hzx := hwx.size; (try simp at hzx)); (try (have hm2 := hF2 _ (hL (2, F2) (by simp) (by kernel_rfl)); have hk2 := cell_blk hm2)); (try (have hm7 := hF7 _ (hL (7, F7) (by simp) (by kernel_rfl)); have hk7 := cell_blk hm7)); unfold zAt; (try simp [go_sem, BigFrame.eval_const, BigFrame.eval_global, BigFrame.eval_func, ↓IntWalk.iteOmega, *]); (try simp only [zUpon]); (first | exact ⟨rfl, Below.refl _ _⟩ | (refine ⟨rfl, ?_⟩; go_at_call 32; refine (double_any l _ (HG1.out.at hwx (by have := World.block_lt_of_cell? _ _ HG1.out.choose_spec; exact this)) (by omega)).mono ?_; rintro e wy ⟨rfl, hby⟩; exact ⟨_, rfl, rfl, hby⟩)))); (try go_simp))
  refine wz_nil ?_
  intro wq hbq hLq
  have hm2 := hF2 _ (hLq.get 2 (by simp))
  have hm7 := hF7 _ (hLq.get 7 (by simp))
  obtain ⟨hk2, hx2, hg2, hy2, hl2⟩ := blk hm2
  obtain ⟨hk7, hx7, hg7, hy7, hl7⟩ := blk hm7
  clear hLq hF2 hF7
  have hcwq := cellA hbq
  have hfwq := frozA hbq
  have hzwq := hbq.size
  try simp at hzwq
  go_wp2_with fail
  go_ret2
  exact ⟨congrArg (fun x => Ending.returned (Value.tuple #[.string x, .int .i64 0])) (sub_str o l), HB1.out.trans (hbq.mono HB1.out.size)⟩
set_option maxHeartbeats 4000000 in
theorem sub_err (o : Int) (v : Value) (L : List (List UInt8)) (w : World) (hv : Rd 1 strE w v L) (hl : L.flatten.length ≤ 1000000) (hn : L.length ≤ 1000000) (h : o < 0 ∨ 255 < o) : Calls Tryd.prog 20 #[.int .i64 o, v] w fun e w' => e = .returned (.tuple #[.string ⟨#[]⟩, .int .i64 1]) ∧ Below w.heap.size w w' := by
  have HV := Lib.hid hv
  clear hv
  have h0 : (decide (o < 0) = true) ∨ (decide (o < 0) = false ∧ decide (255 < o) = true) := by
    simp only [decide_eq_true_eq, decide_eq_false_iff_not]; omega
  clear h
  rcases h0 with h1 | ⟨h1, h2⟩
  all_goals
    go_enter Tryd.func20, Tryd.ntmps20
    go_wp2_with (go_at_call 31; refine (join_any v L _ HV.out hl hn).mono ?_; rintro e w1 ⟨rfl, hb1⟩)
    go_ret2
    exact ⟨rfl, hb1⟩
set_option maxHeartbeats 4000000 in
theorem sub_long (o : Nat) (v : Value) (L : List (List UInt8)) (w : World) (hv : Rd 1 strE w v L) (hl : L.flatten.length ≤ 1000000) (hn : L.length ≤ 1000000) (ho : o ≤ 255) (h : 40 < L.flatten.length) : Calls Tryd.prog 20 #[.int .i64 o, v] w fun e w' => e = .returned (.tuple #[.string ⟨#[]⟩, .int .i64 4]) ∧ Below w.heap.size w w' := by
  have HV := Lib.hid hv
  clear hv
  have h1 : decide ((o : Int) < 0) = false := by simp
  have h2 : decide ((255 : Int) < (o : Int)) = false := by simp; omega
  obtain ⟨l, hll⟩ : ∃ l, l = L.flatten := ⟨_, rfl⟩
  have hls := size_arr l
  have h3 : decide ((40 : Int) < (l.length : Int)) = true := by rw [hll]; simp only [decide_eq_true_eq]; omega
  have JN := fun w' (hb : Below w.heap.size w w') => join_s v L ⟨l.toArray⟩ w' (by rw [hll]) (HV.out.below hb) (by omega) hn
  clear hll
  go_enter Tryd.func20, Tryd.ntmps20
  go_wp2_with (go_at_call 31; refine (JN _ (Below.refl _ _)).mono ?_; rintro e w1 ⟨rfl, hb1⟩)
  go_ret2
  exact ⟨rfl, hb1⟩
end Go.Proofs.YtjlamnioknbcaaaDoor.V3
