/- an option is heard: our side -/
import Derived.Test.YtjlamnioknbcaaaDoorP6
import Derived.Lib.Hide
namespace Go.Proofs.YtjlamnioknbcaaaDoor.P7
set_option linter.unusedVariables false
set_option linter.unusedSimpArgs false
set_option linter.unnecessarySimpa false
set_option maxRecDepth 100000
open Go.RowKit K1 K3 K5 K11 K12 K14 K20 K21 K22 K25 W0 V1 V3 Y1 Y2 Y3 Y4 P1 P2 P3 P4 P5 P6

attribute [local go_sem] cell_pastA froz_pastA
abbrev usH (p : Pa) (o : Nat) (on : Bool) : Sd × Int := heardF (p.us o).1 (p.us o).2 on (oursB o)
def usS (p : Pa) (o : Nat) (on : Bool) : List UInt8 × Pa := sayF { p with us := upS p.us o (usH p o on).1 } o (usH p o on).2 251 252
def usF (p : Pa) (o : Nat) (on : Bool) : List UInt8 × Pa := if o = 31 ∧ (usH p o on).1.1 = 1 ∧ (p.us o).1 ≠ 1 then ((usS p o on).1 ++ (tellF (usS p o on).2).1, (tellF (usS p o on).2).2) else usS p o on
theorem _root_.Go.Proofs.YtjlamnioknbcaaaDoor.K20.Sep.drop1 {w : World} {r s : Res} {F : List Res} (h : Sep w (r :: s :: F)) : Sep w (r :: F) := h.sub ((List.sublist_cons_self _ _).cons_cons r)
theorem ret1 {a c : List UInt8} (h : a = c) : Ending.returned (.string ⟨a.toArray⟩) = Ending.returned (.string ⟨c.toArray⟩) := by rw [h]
theorem ret2 {a b c d : List UInt8} (h : a = c) (h2 : b = d) : Ending.returned (.string (⟨a.toArray⟩ ++ ⟨b.toArray⟩)) = Ending.returned (.string ⟨(c ++ d).toArray⟩) := by rw [h, h2, app_arr]
theorem sayF_len (p : Pa) (o : Nat) (what : Int) (on off : Nat) : (sayF p o what on off).1.length ≤ 3 := by
  unfold sayF; split <;> simp [optB]
theorem tellF_len (p : Pa) : (tellF p).1.length ≤ 13 := by
  unfold tellF subB
  have := dbl_len (sizeB p.w p.h)
  rw [sizeB_len] at this
  simp only [List.length_append, List.length_cons, List.length_nil]
  omega
theorem sayF_keeps (p : Pa) (o : Nat) (what : Int) (on off : Nat) : (sayF p o what on off).2.w = p.w ∧ (sayF p o what on off).2.h = p.h := by
  unfold sayF; split <;> exact ⟨rfl, rfl⟩
set_option maxHeartbeats 8000000 in
theorem opt_us253 (b : Nat) (p : Pa) (kind : Int) (text : ByteArray) (o : Nat) (F : List Res) (w : World) (hs : Sep w (.blk b (pcells p) 68 :: F)) (hG : ∀ x, Sep x F → Glob x) (ho : o ≤ 255) (h5 : 0 ≤ p.sent) (h6 : p.sent ≤ 1000000000) (h1 : 0 ≤ p.w ∧ p.w ≤ 65535) (h2 : 0 ≤ p.h ∧ p.h ≤ 65535) :
    Calls Tryd.prog 18 #[.pointer (some ⟨b, 0, none⟩), .agg #[.int .i64 kind, .int .i64 253, .int .i64 o, .string text]] w (OutP F b (usF p o true)) := by
  have HS := Lib.hid hs
  have HG := Lib.hid hG
  clear hG
  obtain ⟨hc, hz, hlt⟩ := at_ hs
  have c1 := (hc _).trans (us_s p o (by omega))
  have c2 := (hc _).trans (us_o p o (by omega))
  clear hs hc hz
  have d1 : decide ((o : Int) < 0) = false := by simp
  have d2 : decide ((256 : Int) ≤ (o : Int)) = false := by simp; omega
  obtain ⟨k1, k2⟩ := sayF_keeps { p with us := upS p.us o (usH p o true).1 } o (usH p o true).2 251 252
  have hw0 : 0 ≤ (usS p o true).2.w := by unfold usS; rw [k1]; exact h1.1
  have hw1 : (usS p o true).2.w ≤ 65535 := by unfold usS; rw [k1]; exact h1.2
  have hh0 : 0 ≤ (usS p o true).2.h := by unfold usS; rw [k2]; exact h2.1
  have hh1 : (usS p o true).2.h ≤ 65535 := by unfold usS; rw [k2]; exact h2.2
  clear k1 k2 h1 h2
  obtain ⟨l10, hl10⟩ : ∃ l, l = (usS p o true).1 := ⟨_, rfl⟩
  obtain ⟨l12, hl12⟩ : ∃ l, l = (tellF (usS p o true).2).1 := ⟨_, rfl⟩
  have hn10 : l10.length ≤ 3 := by rw [hl10]; exact sayF_len _ _ _ _ _
  have hn12 : l12.length ≤ 13 := by rw [hl12]; exact tellF_len _
  have HL10 := Lib.hid hl10
  have HL12 := Lib.hid hl12
  clear hl10 hl12
  go_enter Tryd.func18, Tryd.ntmps18
  go_wp2_with (go_at_call 19; refine (ison_any _ _ _).mono ?_; rintro e w5 ⟨rfl, hb5⟩)
  have hs5 := HS.out.alloc0.below hb5
  have HS5 := Lib.hid hs5
  obtain ⟨hc5, hz5, hlt5⟩ := at_ hs5
  have c3 := (hc5 _).trans (us_s p o (by omega))
  have c4 := (hc5 _).trans (us_o p o (by omega))
  have ht := (HS.out.alloc (cs := #[.int .i64 kind, .int .i64 253, .int .i64 o, .string text]) (t := 27) rfl rfl).below hb5
  obtain ⟨ht1, ht2, ht3⟩ := ht.cellsAt 0 rfl
  have t1 := ht1 1
  simp only [List.getElem?_cons_zero, List.getElem?_cons_succ, Array.toList] at t1
  clear hs5 hc5 hz5 ht ht1 ht2 hb5 c1 c2
  refine wp_region_quiet0 (w := _) [15] [14] 16 (by kernel_rfl) (by kernel_rfl) (fun _ _ dx _ _ hx => by cases dx <;> exact hx) ?_
  simp only [numbered, List.take_succ_cons, List.take_zero, List.drop_succ_cons, List.drop_zero, List.take_nil, List.drop_nil, Nat.reduceAdd]
  (refine wz_do (by decide) (by decide) C0e.es (growsB (by simp)) ?_ ?_; (focus (first | rfl | (go_simp; done))); apply Exists.intro; refine ⟨fun bs hok wx hwx hL => ?_, ?_⟩; (focus ((have hwx : Below _ _ wx := hwx; have hcx := cellA hwx; have hfx := frozA hwx; have hzx := hwx.size; (try simp at hzx)); unfold zAt; (try simp [go_sem, BigFrame.eval_const, BigFrame.eval_global, BigFrame.eval_func, ↓IntWalk.iteOmega, *]); (try simp only [zUpon]); (first | exact ⟨rfl, Below.refl _ _⟩ | (refine ⟨rfl, ?_⟩; go_at_call 30; refine (ours_b _ _).mono ?_; rintro e wy ⟨rfl, hby⟩; exact ⟨_, rfl, rfl, hby⟩) | (refine ⟨rfl, ?_⟩; go_at_call 28; refine (heard_any _ _ _ _ _).mono ?_; rintro e wy ⟨rfl, hby⟩; exact ⟨_, rfl, rfl, hby⟩)))); (try go_simp))
  (refine wz_do (by decide) (by decide) C0e.es (growsB (by simp)) ?_ ?_; (focus (first | rfl | (go_simp; done))); apply Exists.intro; refine ⟨fun bs hok wx hwx hL => ?_, ?_⟩; (focus ((have hwx : Below _ _ wx := hwx; have hcx := cellA hwx; have hfx := frozA hwx; have hzx := hwx.size; (try simp at hzx)); unfold zAt; (try simp [go_sem, BigFrame.eval_const, BigFrame.eval_global, BigFrame.eval_func, ↓IntWalk.iteOmega, *]); (try simp only [zUpon]); (first | exact ⟨rfl, Below.refl _ _⟩ | (refine ⟨rfl, ?_⟩; go_at_call 30; refine (ours_b _ _).mono ?_; rintro e wy ⟨rfl, hby⟩; exact ⟨_, rfl, rfl, hby⟩) | (refine ⟨rfl, ?_⟩; go_at_call 28; refine (heard_any _ _ _ _ _).mono ?_; rintro e wy ⟨rfl, hby⟩; exact ⟨_, rfl, rfl, hby⟩)))); (try go_simp))
  (refine wz_do (by decide) (by decide) C0e.es (growsB (by simp)) ?_ ?_; (focus (first | rfl | (go_simp; done))); apply Exists.intro; refine ⟨fun bs hok wx hwx hL => ?_, ?_⟩; (focus ((have hwx : Below _ _ wx := hwx; have hcx := cellA hwx; have hfx := frozA hwx; have hzx := hwx.size; (try simp at hzx)); unfold zAt; (try simp [go_sem, BigFrame.eval_const, BigFrame.eval_global, BigFrame.eval_func, ↓IntWalk.iteOmega, *]); (try simp only [zUpon]); (first | exact ⟨rfl, Below.refl _ _⟩ | (refine ⟨rfl, ?_⟩; go_at_call 30; refine (ours_b _ _).mono ?_; rintro e wy ⟨rfl, hby⟩; exact ⟨_, rfl, rfl, hby⟩) | (refine ⟨rfl, ?_⟩; go_at_call 28; refine (heard_any _ _ _ _ _).mono ?_; rintro e wy ⟨rfl, hby⟩; exact ⟨_, rfl, rfl, hby⟩)))); (try go_simp))
  (refine wz_do (by decide) (by decide) C0e.es (growsB (by simp)) ?_ ?_; (focus (first | rfl | (go_simp; done))); apply Exists.intro; refine ⟨fun bs hok wx hwx hL => ?_, ?_⟩; (focus ((have hwx : Below _ _ wx := hwx; have hcx := cellA hwx; have hfx := frozA hwx; have hzx := hwx.size; (try simp at hzx)); unfold zAt; (try simp [go_sem, BigFrame.eval_const, BigFrame.eval_global, BigFrame.eval_func, ↓IntWalk.iteOmega, *]); (try simp only [zUpon]); (first | exact ⟨rfl, Below.refl _ _⟩ | (refine ⟨rfl, ?_⟩; go_at_call 30; refine (ours_b _ _).mono ?_; rintro e wy ⟨rfl, hby⟩; exact ⟨_, rfl, rfl, hby⟩) | (refine ⟨rfl, ?_⟩; go_at_call 28; refine (heard_any _ _ _ _ _).mono ?_; rintro e wy ⟨rfl, hby⟩; exact ⟨_, rfl, rfl, hby⟩)))); (try go_simp))
  (refine wz_do (by decide) (by decide) C0e.es (growsB (by simp)) ?_ ?_; (focus (first | rfl | (go_simp; done))); apply Exists.intro; refine ⟨fun bs hok wx hwx hL => ?_, ?_⟩; (focus ((have hwx : Below _ _ wx := hwx; have hcx := cellA hwx; have hfx := frozA hwx; have hzx := hwx.size; (try simp at hzx)); unfold zAt; (try simp [go_sem, BigFrame.eval_const, BigFrame.eval_global, BigFrame.eval_func, ↓IntWalk.iteOmega, *]); (try simp only [zUpon]); (first | exact ⟨rfl, Below.refl _ _⟩ | (refine ⟨rfl, ?_⟩; go_at_call 30; refine (ours_b _ _).mono ?_; rintro e wy ⟨rfl, hby⟩; exact ⟨_, rfl, rfl, hby⟩) | (refine ⟨rfl, ?_⟩; go_at_call 28; refine (heard_any _ _ _ _ _).mono ?_; rintro e wy ⟨rfl, hby⟩; exact ⟨_, rfl, rfl, hby⟩)))); (try go_simp))
  (refine wz_do (by decide) (by decide) C0e.es (growsB (by simp)) ?_ ?_; (focus (first | rfl | (go_simp; done))); apply Exists.intro; refine ⟨fun bs hok wx hwx hL => ?_, ?_⟩; (focus ((have hwx : Below _ _ wx := hwx; have hcx := cellA hwx; have hfx := frozA hwx; have hzx := hwx.size; (try simp at hzx)); unfold zAt; (try simp [go_sem, BigFrame.eval_const, BigFrame.eval_global, BigFrame.eval_func, ↓IntWalk.iteOmega, *]); (try simp only [zUpon]); (first | exact ⟨rfl, Below.refl _ _⟩ | (refine ⟨rfl, ?_⟩; go_at_call 30; refine (ours_b _ _).mono ?_; rintro e wy ⟨rfl, hby⟩; exact ⟨_, rfl, rfl, hby⟩) | (refine ⟨rfl, ?_⟩; go_at_call 28; refine (heard_any _ _ _ _ _).mono ?_; rintro e wy ⟨rfl, hby⟩; exact ⟨_, rfl, rfl, hby⟩)))); (try go_simp))
  (refine wz_do (by decide) (by decide) C0e.es (growsB (by simp)) ?_ ?_; (focus (first | rfl | (go_simp; done))); apply Exists.intro; refine ⟨fun bs hok wx hwx hL => ?_, ?_⟩; (focus ((have hwx : Below _ _ wx := hwx; have hcx := cellA hwx; have hfx := frozA hwx; have hzx := hwx.size; (try simp at hzx)); unfold zAt; (try simp [go_sem, BigFrame.eval_const, BigFrame.eval_global, BigFrame.eval_func, ↓IntWalk.iteOmega, *]); (try simp only [zUpon]); (first | exact ⟨rfl, Below.refl _ _⟩ | (refine ⟨rfl, ?_⟩; go_at_call 30; refine (ours_b _ _).mono ?_; rintro e wy ⟨rfl, hby⟩; exact ⟨_, rfl, rfl, hby⟩) | (refine ⟨rfl, ?_⟩; go_at_call 28; refine (heard_any _ _ _ _ _).mono ?_; rintro e wy ⟨rfl, hby⟩; exact ⟨_, rfl, rfl, hby⟩)))); (try go_simp))
  (refine wz_do (by decide) (by decide) C0e.es (growsB (by simp)) ?_ ?_; (focus (first | rfl | (go_simp; done))); apply Exists.intro; refine ⟨fun bs hok wx hwx hL => ?_, ?_⟩; (focus ((have hwx : Below _ _ wx := hwx; have hcx := cellA hwx; have hfx := frozA hwx; have hzx := hwx.size; (try simp at hzx)); unfold zAt; (try simp [go_sem, BigFrame.eval_const, BigFrame.eval_global, BigFrame.eval_func, ↓IntWalk.iteOmega, *]); (try simp only [zUpon]); (first | exact ⟨rfl, Below.refl _ _⟩ | (refine ⟨rfl, ?_⟩; go_at_call 30; refine (ours_b _ _).mono ?_; rintro e wy ⟨rfl, hby⟩; exact ⟨_, rfl, rfl, hby⟩) | (refine ⟨rfl, ?_⟩; go_at_call 28; refine (heard_any _ _ _ _ _).mono ?_; rintro e wy ⟨rfl, hby⟩; exact ⟨_, rfl, rfl, hby⟩)))); (try go_simp))
  (refine wz_do (by decide) (by decide) C0e.es (growsB (by simp)) ?_ ?_; (focus (first | rfl | (go_simp; done))); apply Exists.intro; refine ⟨fun bs hok wx hwx hL => ?_, ?_⟩; (focus ((have hwx : Below _ _ wx := hwx; have hcx := cellA hwx; have hfx := frozA hwx; have hzx := hwx.size; (try simp at hzx)); unfold zAt; (try simp [go_sem, BigFrame.eval_const, BigFrame.eval_global, BigFrame.eval_func, ↓IntWalk.iteOmega, *]); (try simp only [zUpon]); (first | exact ⟨rfl, Below.refl _ _⟩ | (refine ⟨rfl, ?_⟩; go_at_call 30; refine (ours_b _ _).mono ?_; rintro e wy ⟨rfl, hby⟩; exact ⟨_, rfl, rfl, hby⟩) | (refine ⟨rfl, ?_⟩; go_at_call 28; refine (heard_any _ _ _ _ _).mono ?_; rintro e wy ⟨rfl, hby⟩; exact ⟨_, rfl, rfl, hby⟩)))); (try go_simp))
  (refine wz_do (by decide) (by decide) C0e.es (growsB (by simp)) ?_ ?_; (focus (first | rfl | (go_simp; done))); apply Exists.intro; refine ⟨fun bs hok wx hwx hL => ?_, ?_⟩; (focus ((have hwx : Below _ _ wx := hwx; have hcx := cellA hwx; have hfx := frozA hwx; have hzx := hwx.size; (try simp at hzx)); unfold zAt; (try simp [go_sem, BigFrame.eval_const, BigFrame.eval_global, BigFrame.eval_func, ↓IntWalk.iteOmega, *]); (try simp only [zUpon]); (first | exact ⟨rfl, Below.refl _ _⟩ | (refine ⟨rfl, ?_⟩; go_at_call 30; refine (ours_b _ _).mono ?_; rintro e wy ⟨rfl, hby⟩; exact ⟨_, rfl, rfl, hby⟩) | (refine ⟨rfl, ?_⟩; go_at_call 28; refine (heard_any _ _ _ _ _).mono ?_; rintro e wy ⟨rfl, hby⟩; exact ⟨_, rfl, rfl, hby⟩)))); (try go_simp))
  (refine wz_do (by decide) (by decide) C0e.es (growsB (by simp)) ?_ ?_; (focus (first | rfl | (go_simp; done))); apply Exists.intro; refine ⟨fun bs hok wx hwx hL => ?_, ?_⟩; (focus ((have hwx : Below _ _ wx := hwx; have hcx := cellA hwx; have hfx := frozA hwx; have hzx := hwx.size; (try simp at hzx)); unfold zAt; (try simp [go_sem, BigFrame.eval_const, BigFrame.eval_global, BigFrame.eval_func, ↓IntWalk.iteOmega, *]); (try simp only [zUpon]); (first | exact ⟨rfl, Below.refl _ _⟩ | (refine ⟨rfl, ?_⟩; go_at_call 30; refine (ours_b _ _).mono ?_; rintro e wy ⟨rfl, hby⟩; exact ⟨_, rfl, rfl, hby⟩) | (refine ⟨rfl, ?_⟩; go_at_call 28; refine (heard_any _ _ _ _ _).mono ?_; rintro e wy ⟨rfl, hby⟩; exact ⟨_, rfl, rfl, hby⟩)))); (try go_simp))
  (refine wz_do (by decide) (by decide) C0e.es (growsB (by simp)) ?_ ?_; (focus (first | rfl | (go_simp; done))); apply Exists.intro; refine ⟨fun bs hok wx hwx hL => ?_, ?_⟩; (focus ((have hwx : Below _ _ wx := hwx; have hcx := cellA hwx; have hfx := frozA hwx; have hzx := hwx.size; (try simp at hzx)); unfold zAt; (try simp [go_sem, BigFrame.eval_const, BigFrame.eval_global, BigFrame.eval_func, ↓IntWalk.iteOmega, *]); (try simp only [zUpon]); (first | exact ⟨rfl, Below.refl _ _⟩ | (refine ⟨rfl, ?_⟩; go_at_call 30; refine (ours_b _ _).mono ?_; rintro e wy ⟨rfl, hby⟩; exact ⟨_, rfl, rfl, hby⟩) | (refine ⟨rfl, ?_⟩; go_at_call 28; refine (heard_any _ _ _ _ _).mono ?_; rintro e wy ⟨rfl, hby⟩; exact ⟨_, rfl, rfl, hby⟩)))); (try go_simp))
  (refine wz_do (by decide) (by decide) C0e.es (growsB (by simp)) ?_ ?_; (focus (first | rfl | (go_simp; done))); apply Exists.intro; refine ⟨fun bs hok wx hwx hL => ?_, ?_⟩; (focus ((have hwx : Below _ _ wx := hwx; have hcx := cellA hwx; have hfx := frozA hwx; have hzx := hwx.size; (try simp at hzx)); unfold zAt; (try simp [go_sem, BigFrame.eval_const, BigFrame.eval_global, BigFrame.eval_func, ↓IntWalk.iteOmega, *]); (try simp only [zUpon]); (first | exact ⟨rfl, Below.refl _ _⟩ | (refine ⟨rfl, ?_⟩; go_at_call 30; refine (ours_b _ _).mono ?_; rintro e wy ⟨rfl, hby⟩; exact ⟨_, rfl, rfl, hby⟩) | (refine ⟨rfl, ?_⟩; go_at_call 28; refine (heard_any _ _ _ _ _).mono ?_; rintro e wy ⟨rfl, hby⟩; exact ⟨_, rfl, rfl, hby⟩)))); (try go_simp))
  (refine wz_do (by decide) (by decide) C0e.es (growsB (by simp)) ?_ ?_; (focus (first | rfl | (go_simp; done))); apply Exists.intro; refine ⟨fun bs hok wx hwx hL => ?_, ?_⟩; (focus ((have hwx : Below _ _ wx := hwx; have hcx := cellA hwx; have hfx := frozA hwx; have hzx := hwx.size; (try simp at hzx)); unfold zAt; (try simp [go_sem, BigFrame.eval_const, BigFrame.eval_global, BigFrame.eval_func, ↓IntWalk.iteOmega, *]); (try simp only [zUpon]); (first | exact ⟨rfl, Below.refl _ _⟩ | (refine ⟨rfl, ?_⟩; go_at_call 30; refine (ours_b _ _).mono ?_; rintro e wy ⟨rfl, hby⟩; exact ⟨_, rfl, rfl, hby⟩) | (refine ⟨rfl, ?_⟩; go_at_call 28; refine (heard_any _ _ _ _ _).mono ?_; rintro e wy ⟨rfl, hby⟩; exact ⟨_, rfl, rfl, hby⟩)))); (try go_simp))
  (refine wz_flo (by decide) C0e.es ?_ ?_; (focus (first | rfl | (go_simp; done))); apply Exists.intro; refine ⟨fun wx => ?_, ?_⟩; (focus ((try simp [go_sem, BigFrame.eval_const, BigFrame.eval_global, BigFrame.eval_func, ↓IntWalk.iteOmega, *]); (first | done | rfl))); (try go_simp))
  (refine wz_new (fun b => .pointer (some ⟨b, 0, none⟩)) _ _ (by decide) (by decide) (by decide) C0e.es (growsB (by simp)) (by first | rfl | (go_simp; done)) (by intro b b' h; simp at h; omega) (by simp) (fun _ _ h => Below.size h) (fun bs hok wx hwx hL => by (have hwx : Below _ _ wx := hwx; have hcx := cellA hwx; have hfx := frozA hwx; have hzx := hwx.size; (try simp at hzx)); (try simp [go_sem, BigFrame.eval_const, BigFrame.eval_global, BigFrame.eval_func, ↓IntWalk.iteOmega, *]); first | done | rfl) ?_; intro b15 hb15 F15 hF15; (try simp at hb15); (try go_simp))
  refine wz_nil ?_
  intro wq hbq hLq
  have hm15 := hF15 _ (hLq.get 15 (by simp))
  obtain ⟨hk15, hx15, hg15, hy15, hl15⟩ := blk hm15
  clear hLq hF15
  have hcwq := cellA hbq
  have hfwq := frozA hbq
  have hzwq := hbq.size
  try simp at hzwq
  have hs7 := HS5.out.addBlk hbq hm15 hb15 rfl
  have hs8 := (hs7.set (i := 0) (v := .int .i64 (usH p o true).1.1) rfl).set (i := 1) (v := .bool (usH p o true).1.2) rfl
  go_wp2_with fail
  refine wp_name (fun x hx => ?_)
  rw [← hx] at hs8
  have HS8 := Lib.hid hs8
  obtain ⟨hc8, hz8, hlt8⟩ := hs8.cellsAt 0 rfl
  have hc0 := hc8 0
  have hc1 := hc8 1
  obtain ⟨hc9, hz9, hlt9⟩ := hs8.cellsAt 1 rfl
  simp only [List.set_cons_zero, List.set_cons_succ, List.getElem?_cons_zero, List.getElem?_cons_succ, Array.toList] at hc0 hc1
  have z1 := hz9 (3 + o * 2)
  have z2 := hz9 (3 + o * 2 + 1)
  have e1 := (hc9 _).trans (us_s p o (by omega))
  have e2 := (hc9 _).trans (us_o p o (by omega))
  clear hx hs7 hs8 hc8 hz8 hc9 hz9 hcwq hfwq hk15 hx15 hg15 hy15 hm15 hbq hb15 hzwq c3 c4 hl15
  refine wp_region_quiet0 (w := _) [] [] 6 (by kernel_rfl) (by kernel_rfl) (fun _ _ dx _ _ hx => by cases dx <;> exact hx) ?_
  simp only [numbered, List.take_succ_cons, List.take_zero, List.drop_succ_cons, List.drop_zero, List.take_nil, List.drop_nil, Nat.reduceAdd]
  (refine wz_do (by decide) (by decide) C0e.es (growsB (by simp)) ?_ ?_; (focus (first | rfl | (go_simp; done))); apply Exists.intro; refine ⟨fun bs hok wx hwx hL => ?_, ?_⟩; (focus ((have hwx : Below _ _ wx := hwx; have hcx := cellA hwx; have hfx := frozA hwx; have hzx := hwx.size; (try simp at hzx)); unfold zAt; (try simp [go_sem, BigFrame.eval_const, BigFrame.eval_global, BigFrame.eval_func, ↓IntWalk.iteOmega, *]); (try simp only [zUpon]); (first | exact ⟨rfl, Below.refl _ _⟩ | fail))); (try go_simp))
  (refine wz_do (by decide) (by decide) C0e.es (growsB (by simp)) ?_ ?_; (focus (first | rfl | (go_simp; done))); apply Exists.intro; refine ⟨fun bs hok wx hwx hL => ?_, ?_⟩; (focus ((have hwx : Below _ _ wx := hwx; have hcx := cellA hwx; have hfx := frozA hwx; have hzx := hwx.size; (try simp at hzx)); unfold zAt; (try simp [go_sem, BigFrame.eval_const, BigFrame.eval_global, BigFrame.eval_func, ↓IntWalk.iteOmega, *]); (try simp only [zUpon]); (first | exact ⟨rfl, Below.refl _ _⟩ | fail))); (try go_simp))
  (refine wz_do (by decide) (by decide) C0e.es (growsB (by simp)) ?_ ?_; (focus (first | rfl | (go_simp; done))); apply Exists.intro; refine ⟨fun bs hok wx hwx hL => ?_, ?_⟩; (focus ((have hwx : Below _ _ wx := hwx; have hcx := cellA hwx; have hfx := frozA hwx; have hzx := hwx.size; (try simp at hzx)); unfold zAt; (try simp [go_sem, BigFrame.eval_const, BigFrame.eval_global, BigFrame.eval_func, ↓IntWalk.iteOmega, *]); (try simp only [zUpon]); (first | exact ⟨rfl, Below.refl _ _⟩ | fail))); (try go_simp))
  (refine wz_do (by decide) (by decide) C0e.es (growsB (by simp)) ?_ ?_; (focus (first | rfl | (go_simp; done))); apply Exists.intro; refine ⟨fun bs hok wx hwx hL => ?_, ?_⟩; (focus ((have hwx : Below _ _ wx := hwx; have hcx := cellA hwx; have hfx := frozA hwx; have hzx := hwx.size; (try simp at hzx)); unfold zAt; (try simp [go_sem, BigFrame.eval_const, BigFrame.eval_global, BigFrame.eval_func, ↓IntWalk.iteOmega, *]); (try simp only [zUpon]); (first | exact ⟨rfl, Below.refl _ _⟩ | fail))); (try go_simp))
  (refine wz_do (by decide) (by decide) C0e.es (growsB (by simp)) ?_ ?_; (focus (first | rfl | (go_simp; done))); apply Exists.intro; refine ⟨fun bs hok wx hwx hL => ?_, ?_⟩; (focus ((have hwx : Below _ _ wx := hwx; have hcx := cellA hwx; have hfx := frozA hwx; have hzx := hwx.size; (try simp at hzx)); unfold zAt; (try simp [go_sem, BigFrame.eval_const, BigFrame.eval_global, BigFrame.eval_func, ↓IntWalk.iteOmega, *]); (try simp only [zUpon]); (first | exact ⟨rfl, Below.refl _ _⟩ | fail))); (try go_simp))
  (refine wz_do (by decide) (by decide) C0e.es (growsB (by simp)) ?_ ?_; (focus (first | rfl | (go_simp; done))); apply Exists.intro; refine ⟨fun bs hok wx hwx hL => ?_, ?_⟩; (focus ((have hwx : Below _ _ wx := hwx; have hcx := cellA hwx; have hfx := frozA hwx; have hzx := hwx.size; (try simp at hzx)); unfold zAt; (try simp [go_sem, BigFrame.eval_const, BigFrame.eval_global, BigFrame.eval_func, ↓IntWalk.iteOmega, *]); (try simp only [zUpon]); (first | exact ⟨rfl, Below.refl _ _⟩ | fail))); (try go_simp))
  refine wz_nil ?_
  intro wq hbq hLq
  clear hLq 
  have hcwq := cellA hbq
  have hfwq := frozA hbq
  have hzwq := hbq.size
  try simp at hzwq
  have hs9 := (((HS8.out.below hbq).perm (List.Perm.swap _ _ _)).set (i := 3 + o * 2) (v := .int .i64 (usH p o true).1.1) rfl).set (i := 3 + o * 2 + 1) (v := .bool (usH p o true).1.2) rfl
  rw [← set_us p o (usH p o true).1 (by omega)] at hs9
  have HS9 := Lib.hid hs9
  clear hs9
  by_cases i1 : o = 31
  · have j1 : ((o : Int) == 31) = true := by simp [i1]
    by_cases i2 : (usH p o true).1.1 = 1
    · have j2 : ((usH p o true).1.1 == 1) = true := by simp [i2]
      by_cases i3 : (p.us o).1 = 1
      · have j3 : ((p.us o).1 == 1) = true := by simp [i3]
        have HR : Hid (usF p o true = usS p o true) := Lib.hid (by unfold usF; rw [if_neg (fun h => h.2.2 i3)])
        clear i1 i2 i3
        go_wp2_with (first | (go_at_call 25; refine (say_any b _ o _ 251 252 (.blk b15 [.int .i64 (usH p o true).1.1, .bool (usH p o true).1.2] 46 :: F) _ HS9.out ho (by decide) (by decide) (by decide) (by decide) h5 h6).mono ?_; rintro e w10 ⟨⟨he10, hs10⟩⟩; have he10 : e = .returned (.string ⟨l10.toArray⟩) := (by rw [he10, HL10.out]; rfl); subst he10; have hs10 : Sep w10 (.blk b (pcells (usS p o true).2) 68 :: .blk b15 [.int .i64 (usH p o true).1.1, .bool (usH p o true).1.2] 46 :: F) := hs10; have HS10 := Lib.hid hs10; have hb0 := (hs10.cellsAt 1 rfl).1 0; have hb1 := (hs10.cellsAt 1 rfl).1 1; simp only [List.getElem?_cons_zero, List.getElem?_cons_succ] at hb0 hb1; clear hs10) | (go_at_call 19; refine (ison_any _ _ _).mono ?_; rintro e w11 ⟨rfl, hb11⟩; have HS11 := Lib.hid (HS10.out.below hb11); clear hb11) | (go_at_call 26; refine (tell_any b (usS p o true).2 _ _ HS11.out (fun x hx => HG.out x hx.tail) hw0 hw1 hh0 hh1).mono ?_; rintro e w12 ⟨⟨he12, hs12⟩⟩; have he12 : e = .returned (.string ⟨l12.toArray⟩) := (by rw [he12, HL12.out]); subst he12; have HS12 := Lib.hid hs12; clear hs12))
        go_ret
        rw [HR.out]
        exact ⟨⟨by first | exact ret1 HL10.out | exact ret2 HL10.out HL12.out, HS11.out.drop1⟩⟩
    
      · have j3 : ((p.us o).1 == 1) = false := by simp [i3]
        have HR : Hid (usF p o true = ((usS p o true).1 ++ (tellF (usS p o true).2).1, (tellF (usS p o true).2).2)) := Lib.hid (by unfold usF; rw [if_pos ⟨i1, i2, i3⟩])
        clear i1 i2 i3
        go_wp2_with (first | (go_at_call 25; refine (say_any b _ o _ 251 252 (.blk b15 [.int .i64 (usH p o true).1.1, .bool (usH p o true).1.2] 46 :: F) _ HS9.out ho (by decide) (by decide) (by decide) (by decide) h5 h6).mono ?_; rintro e w10 ⟨⟨he10, hs10⟩⟩; have he10 : e = .returned (.string ⟨l10.toArray⟩) := (by rw [he10, HL10.out]; rfl); subst he10; have hs10 : Sep w10 (.blk b (pcells (usS p o true).2) 68 :: .blk b15 [.int .i64 (usH p o true).1.1, .bool (usH p o true).1.2] 46 :: F) := hs10; have HS10 := Lib.hid hs10; have hb0 := (hs10.cellsAt 1 rfl).1 0; have hb1 := (hs10.cellsAt 1 rfl).1 1; simp only [List.getElem?_cons_zero, List.getElem?_cons_succ] at hb0 hb1; clear hs10) | (go_at_call 19; refine (ison_any _ _ _).mono ?_; rintro e w11 ⟨rfl, hb11⟩; have HS11 := Lib.hid (HS10.out.below hb11); clear hb11) | (go_at_call 26; refine (tell_any b (usS p o true).2 _ _ HS11.out (fun x hx => HG.out x hx.tail) hw0 hw1 hh0 hh1).mono ?_; rintro e w12 ⟨⟨he12, hs12⟩⟩; have he12 : e = .returned (.string ⟨l12.toArray⟩) := (by rw [he12, HL12.out]); subst he12; have HS12 := Lib.hid hs12; clear hs12))
        go_ret
        rw [HR.out]
        exact ⟨⟨by first | exact ret1 HL10.out | exact ret2 HL10.out HL12.out, HS12.out.drop1⟩⟩
    
    · have j2 : ((usH p o true).1.1 == 1) = false := by simp [i2]
      have HR : Hid (usF p o true = usS p o true) := Lib.hid (by unfold usF; rw [if_neg (fun h => i2 h.2.1)])
      clear i1 i2
      go_wp2_with (first | (go_at_call 25; refine (say_any b _ o _ 251 252 (.blk b15 [.int .i64 (usH p o true).1.1, .bool (usH p o true).1.2] 46 :: F) _ HS9.out ho (by decide) (by decide) (by decide) (by decide) h5 h6).mono ?_; rintro e w10 ⟨⟨he10, hs10⟩⟩; have he10 : e = .returned (.string ⟨l10.toArray⟩) := (by rw [he10, HL10.out]; rfl); subst he10; have hs10 : Sep w10 (.blk b (pcells (usS p o true).2) 68 :: .blk b15 [.int .i64 (usH p o true).1.1, .bool (usH p o true).1.2] 46 :: F) := hs10; have HS10 := Lib.hid hs10; have hb0 := (hs10.cellsAt 1 rfl).1 0; have hb1 := (hs10.cellsAt 1 rfl).1 1; simp only [List.getElem?_cons_zero, List.getElem?_cons_succ] at hb0 hb1; clear hs10) | (go_at_call 19; refine (ison_any _ _ _).mono ?_; rintro e w11 ⟨rfl, hb11⟩; have HS11 := Lib.hid (HS10.out.below hb11); clear hb11) | (go_at_call 26; refine (tell_any b (usS p o true).2 _ _ HS11.out (fun x hx => HG.out x hx.tail) hw0 hw1 hh0 hh1).mono ?_; rintro e w12 ⟨⟨he12, hs12⟩⟩; have he12 : e = .returned (.string ⟨l12.toArray⟩) := (by rw [he12, HL12.out]); subst he12; have HS12 := Lib.hid hs12; clear hs12))
      go_ret
      rw [HR.out]
      exact ⟨⟨by first | exact ret1 HL10.out | exact ret2 HL10.out HL12.out, HS11.out.drop1⟩⟩
  
  · have j1 : ((o : Int) == 31) = false := by simp; omega
    have HR : Hid (usF p o true = usS p o true) := Lib.hid (by unfold usF; rw [if_neg (fun h => i1 h.1)])
    clear i1
    go_wp2_with (first | (go_at_call 25; refine (say_any b _ o _ 251 252 (.blk b15 [.int .i64 (usH p o true).1.1, .bool (usH p o true).1.2] 46 :: F) _ HS9.out ho (by decide) (by decide) (by decide) (by decide) h5 h6).mono ?_; rintro e w10 ⟨⟨he10, hs10⟩⟩; have he10 : e = .returned (.string ⟨l10.toArray⟩) := (by rw [he10, HL10.out]; rfl); subst he10; have hs10 : Sep w10 (.blk b (pcells (usS p o true).2) 68 :: .blk b15 [.int .i64 (usH p o true).1.1, .bool (usH p o true).1.2] 46 :: F) := hs10; have HS10 := Lib.hid hs10; have hb0 := (hs10.cellsAt 1 rfl).1 0; have hb1 := (hs10.cellsAt 1 rfl).1 1; simp only [List.getElem?_cons_zero, List.getElem?_cons_succ] at hb0 hb1; clear hs10) | (go_at_call 19; refine (ison_any _ _ _).mono ?_; rintro e w11 ⟨rfl, hb11⟩; have HS11 := Lib.hid (HS10.out.below hb11); clear hb11) | (go_at_call 26; refine (tell_any b (usS p o true).2 _ _ HS11.out (fun x hx => HG.out x hx.tail) hw0 hw1 hh0 hh1).mono ?_; rintro e w12 ⟨⟨he12, hs12⟩⟩; have he12 : e = .returned (.string ⟨l12.toArray⟩) := (by rw [he12, HL12.out]); subst he12; have HS12 := Lib.hid hs12; clear hs12))
    go_ret
    rw [HR.out]
    exact ⟨⟨by first | exact ret1 HL10.out | exact ret2 HL10.out HL12.out, HS10.out.drop1⟩⟩

set_option maxHeartbeats 8000000 in
theorem opt_us254 (b : Nat) (p : Pa) (kind : Int) (text : ByteArray) (o : Nat) (F : List Res) (w : World) (hs : Sep w (.blk b (pcells p) 68 :: F)) (hG : ∀ x, Sep x F → Glob x) (ho : o ≤ 255) (h5 : 0 ≤ p.sent) (h6 : p.sent ≤ 1000000000) (h1 : 0 ≤ p.w ∧ p.w ≤ 65535) (h2 : 0 ≤ p.h ∧ p.h ≤ 65535) :
    Calls Tryd.prog 18 #[.pointer (some ⟨b, 0, none⟩), .agg #[.int .i64 kind, .int .i64 254, .int .i64 o, .string text]] w (OutP F b (usF p o false)) := by
  have HS := Lib.hid hs
  have HG := Lib.hid hG
  clear hG
  obtain ⟨hc, hz, hlt⟩ := at_ hs
  have c1 := (hc _).trans (us_s p o (by omega))
  have c2 := (hc _).trans (us_o p o (by omega))
  clear hs hc hz
  have d1 : decide ((o : Int) < 0) = false := by simp
  have d2 : decide ((256 : Int) ≤ (o : Int)) = false := by simp; omega
  obtain ⟨k1, k2⟩ := sayF_keeps { p with us := upS p.us o (usH p o false).1 } o (usH p o false).2 251 252
  have hw0 : 0 ≤ (usS p o false).2.w := by unfold usS; rw [k1]; exact h1.1
  have hw1 : (usS p o false).2.w ≤ 65535 := by unfold usS; rw [k1]; exact h1.2
  have hh0 : 0 ≤ (usS p o false).2.h := by unfold usS; rw [k2]; exact h2.1
  have hh1 : (usS p o false).2.h ≤ 65535 := by unfold usS; rw [k2]; exact h2.2
  clear k1 k2 h1 h2
  obtain ⟨l10, hl10⟩ : ∃ l, l = (usS p o false).1 := ⟨_, rfl⟩
  obtain ⟨l12, hl12⟩ : ∃ l, l = (tellF (usS p o false).2).1 := ⟨_, rfl⟩
  have hn10 : l10.length ≤ 3 := by rw [hl10]; exact sayF_len _ _ _ _ _
  have hn12 : l12.length ≤ 13 := by rw [hl12]; exact tellF_len _
  have HL10 := Lib.hid hl10
  have HL12 := Lib.hid hl12
  clear hl10 hl12
  go_enter Tryd.func18, Tryd.ntmps18
  go_wp2_with (go_at_call 19; refine (ison_any _ _ _).mono ?_; rintro e w5 ⟨rfl, hb5⟩)
  have hs5 := HS.out.alloc0.below hb5
  have HS5 := Lib.hid hs5
  obtain ⟨hc5, hz5, hlt5⟩ := at_ hs5
  have c3 := (hc5 _).trans (us_s p o (by omega))
  have c4 := (hc5 _).trans (us_o p o (by omega))
  have ht := (HS.out.alloc (cs := #[.int .i64 kind, .int .i64 254, .int .i64 o, .string text]) (t := 27) rfl rfl).below hb5
  obtain ⟨ht1, ht2, ht3⟩ := ht.cellsAt 0 rfl
  have t1 := ht1 1
  simp only [List.getElem?_cons_zero, List.getElem?_cons_succ, Array.toList] at t1
  clear hs5 hc5 hz5 ht ht1 ht2 hb5 c1 c2
  refine wp_region_quiet0 (w := _) [15] [14] 16 (by kernel_rfl) (by kernel_rfl) (fun _ _ dx _ _ hx => by cases dx <;> exact hx) ?_
  simp only [numbered, List.take_succ_cons, List.take_zero, List.drop_succ_cons, List.drop_zero, List.take_nil, List.drop_nil, Nat.reduceAdd]
  (refine wz_do (by decide) (by decide) C0e.es (growsB (by simp)) ?_ ?_; (focus (first | rfl | (go_simp; done))); apply Exists.intro; refine ⟨fun bs hok wx hwx hL => ?_, ?_⟩; (focus ((have hwx : Below _ _ wx := hwx; have hcx := cellA hwx; have hfx := frozA hwx; have hzx := hwx.size; (try simp at hzx)); unfold zAt; (try simp [go_sem, BigFrame.eval_const, BigFrame.eval_global, BigFrame.eval_func, ↓IntWalk.iteOmega, *]); (try simp only [zUpon]); (first | exact ⟨rfl, Below.refl _ _⟩ | (refine ⟨rfl, ?_⟩; go_at_call 30; refine (ours_b _ _).mono ?_; rintro e wy ⟨rfl, hby⟩; exact ⟨_, rfl, rfl, hby⟩) | (refine ⟨rfl, ?_⟩; go_at_call 28; refine (heard_any _ _ _ _ _).mono ?_; rintro e wy ⟨rfl, hby⟩; exact ⟨_, rfl, rfl, hby⟩)))); (try go_simp))
  (refine wz_do (by decide) (by decide) C0e.es (growsB (by simp)) ?_ ?_; (focus (first | rfl | (go_simp; done))); apply Exists.intro; refine ⟨fun bs hok wx hwx hL => ?_, ?_⟩; (focus ((have hwx : Below _ _ wx := hwx; have hcx := cellA hwx; have hfx := frozA hwx; have hzx := hwx.size; (try simp at hzx)); unfold zAt; (try simp [go_sem, BigFrame.eval_const, BigFrame.eval_global, BigFrame.eval_func, ↓IntWalk.iteOmega, *]); (try simp only [zUpon]); (first | exact ⟨rfl, Below.refl _ _⟩ | (refine ⟨rfl, ?_⟩; go_at_call 30; refine (ours_b _ _).mono ?_; rintro e wy ⟨rfl, hby⟩; exact ⟨_, rfl, rfl, hby⟩) | (refine ⟨rfl, ?_⟩; go_at_call 28; refine (heard_any _ _ _ _ _).mono ?_; rintro e wy ⟨rfl, hby⟩; exact ⟨_, rfl, rfl, hby⟩)))); (try go_simp))
  (refine wz_do (by decide) (by decide) C0e.es (growsB (by simp)) ?_ ?_; (focus (first | rfl | (go_simp; done))); apply Exists.intro; refine ⟨fun bs hok wx hwx hL => ?_, ?_⟩; (focus ((have hwx : Below _ _ wx := hwx; have hcx := cellA hwx; have hfx := frozA hwx; have hzx := hwx.size; (try simp at hzx)); unfold zAt; (try simp [go_sem, BigFrame.eval_const, BigFrame.eval_global, BigFrame.eval_func, ↓IntWalk.iteOmega, *]); (try simp only [zUpon]); (first | exact ⟨rfl, Below.refl _ _⟩ | (refine ⟨rfl, ?_⟩; go_at_call 30; refine (ours_b _ _).mono ?_; rintro e wy ⟨rfl, hby⟩; exact ⟨_, rfl, rfl, hby⟩) | (refine ⟨rfl, ?_⟩; go_at_call 28; refine (heard_any _ _ _ _ _).mono ?_; rintro e wy ⟨rfl, hby⟩; exact ⟨_, rfl, rfl, hby⟩)))); (try go_simp))
  (refine wz_do (by decide) (by decide) C0e.es (growsB (by simp)) ?_ ?_; (focus (first | rfl | (go_simp; done))); apply Exists.intro; refine ⟨fun bs hok wx hwx hL => ?_, ?_⟩; (focus ((have hwx : Below _ _ wx := hwx; have hcx := cellA hwx; have hfx := frozA hwx; have hzx := hwx.size; (try simp at hzx)); unfold zAt; (try simp [go_sem, BigFrame.eval_const, BigFrame.eval_global, BigFrame.eval_func, ↓IntWalk.iteOmega, *]); (try simp only [zUpon]); (first | exact ⟨rfl, Below.refl _ _⟩ | (refine ⟨rfl, ?_⟩; go_at_call 30; refine (ours_b _ _).mono ?_; rintro e wy ⟨rfl, hby⟩; exact ⟨_, rfl, rfl, hby⟩) | (refine ⟨rfl, ?_⟩; go_at_call 28; refine (heard_any _ _ _ _ _).mono ?_; rintro e wy ⟨rfl, hby⟩; exact ⟨_, rfl, rfl, hby⟩)))); (try go_simp))
  (refine wz_do (by decide) (by decide) C0e.es (growsB (by simp)) ?_ ?_; (focus (first | rfl | (go_simp; done))); apply Exists.intro; refine ⟨fun bs hok wx hwx hL => ?_, ?_⟩; (focus ((have hwx : Below _ _ wx := hwx; have hcx := cellA hwx; have hfx := frozA hwx; have hzx := hwx.size; (try simp at hzx)); unfold zAt; (try simp [go_sem, BigFrame.eval_const, BigFrame.eval_global, BigFrame.eval_func, ↓IntWalk.iteOmega, *]); (try simp only [zUpon]); (first | exact ⟨rfl, Below.refl _ _⟩ | (refine ⟨rfl, ?_⟩; go_at_call 30; refine (ours_b _ _).mono ?_; rintro e wy ⟨rfl, hby⟩; exact ⟨_, rfl, rfl, hby⟩) | (refine ⟨rfl, ?_⟩; go_at_call 28; refine (heard_any _ _ _ _ _).mono ?_; rintro e wy ⟨rfl, hby⟩; exact ⟨_, rfl, rfl, hby⟩)))); (try go_simp))
  (refine wz_do (by decide) (by decide) C0e.es (growsB (by simp)) ?_ ?_; (focus (first | rfl | (go_simp; done))); apply Exists.intro; refine ⟨fun bs hok wx hwx hL => ?_, ?_⟩; (focus ((have hwx : Below _ _ wx := hwx; have hcx := cellA hwx; have hfx := frozA hwx; have hzx := hwx.size; (try simp at hzx)); unfold zAt; (try simp [go_sem, BigFrame.eval_const, BigFrame.eval_global, BigFrame.eval_func, ↓IntWalk.iteOmega, *]); (try simp only [zUpon]); (first | exact ⟨rfl, Below.refl _ _⟩ | (refine ⟨rfl, ?_⟩; go_at_call 30; refine (ours_b _ _).mono ?_; rintro e wy ⟨rfl, hby⟩; exact ⟨_, rfl, rfl, hby⟩) | (refine ⟨rfl, ?_⟩; go_at_call 28; refine (heard_any _ _ _ _ _).mono ?_; rintro e wy ⟨rfl, hby⟩; exact ⟨_, rfl, rfl, hby⟩)))); (try go_simp))
  (refine wz_do (by decide) (by decide) C0e.es (growsB (by simp)) ?_ ?_; (focus (first | rfl | (go_simp; done))); apply Exists.intro; refine ⟨fun bs hok wx hwx hL => ?_, ?_⟩; (focus ((have hwx : Below _ _ wx := hwx; have hcx := cellA hwx; have hfx := frozA hwx; have hzx := hwx.size; (try simp at hzx)); unfold zAt; (try simp [go_sem, BigFrame.eval_const, BigFrame.eval_global, BigFrame.eval_func, ↓IntWalk.iteOmega, *]); (try simp only [zUpon]); (first | exact ⟨rfl, Below.refl _ _⟩ | (refine ⟨rfl, ?_⟩; go_at_call 30; refine (ours_b _ _).mono ?_; rintro e wy ⟨rfl, hby⟩; exact ⟨_, rfl, rfl, hby⟩) | (refine ⟨rfl, ?_⟩; go_at_call 28; refine (heard_any _ _ _ _ _).mono ?_; rintro e wy ⟨rfl, hby⟩; exact ⟨_, rfl, rfl, hby⟩)))); (try go_simp))
  (refine wz_do (by decide) (by decide) C0e.es (growsB (by simp)) ?_ ?_; (focus (first | rfl | (go_simp; done))); apply Exists.intro; refine ⟨fun bs hok wx hwx hL => ?_, ?_⟩; (focus ((have hwx : Below _ _ wx := hwx; have hcx := cellA hwx; have hfx := frozA hwx; have hzx := hwx.size; (try simp at hzx)); unfold zAt; (try simp [go_sem, BigFrame.eval_const, BigFrame.eval_global, BigFrame.eval_func, ↓IntWalk.iteOmega, *]); (try simp only [zUpon]); (first | exact ⟨rfl, Below.refl _ _⟩ | (refine ⟨rfl, ?_⟩; go_at_call 30; refine (ours_b _ _).mono ?_; rintro e wy ⟨rfl, hby⟩; exact ⟨_, rfl, rfl, hby⟩) | (refine ⟨rfl, ?_⟩; go_at_call 28; refine (heard_any _ _ _ _ _).mono ?_; rintro e wy ⟨rfl, hby⟩; exact ⟨_, rfl, rfl, hby⟩)))); (try go_simp))
  (refine wz_do (by decide) (by decide) C0e.es (growsB (by simp)) ?_ ?_; (focus (first | rfl | (go_simp; done))); apply Exists.intro; refine ⟨fun bs hok wx hwx hL => ?_, ?_⟩; (focus ((have hwx : Below _ _ wx := hwx; have hcx := cellA hwx; have hfx := frozA hwx; have hzx := hwx.size; (try simp at hzx)); unfold zAt; (try simp [go_sem, BigFrame.eval_const, BigFrame.eval_global, BigFrame.eval_func, ↓IntWalk.iteOmega, *]); (try simp only [zUpon]); (first | exact ⟨rfl, Below.refl _ _⟩ | (refine ⟨rfl, ?_⟩; go_at_call 30; refine (ours_b _ _).mono ?_; rintro e wy ⟨rfl, hby⟩; exact ⟨_, rfl, rfl, hby⟩) | (refine ⟨rfl, ?_⟩; go_at_call 28; refine (heard_any _ _ _ _ _).mono ?_; rintro e wy ⟨rfl, hby⟩; exact ⟨_, rfl, rfl, hby⟩)))); (try go_simp))
  (refine wz_do (by decide) (by decide) C0e.es (growsB (by simp)) ?_ ?_; (focus (first | rfl | (go_simp; done))); apply Exists.intro; refine ⟨fun bs hok wx hwx hL => ?_, ?_⟩; (focus ((have hwx : Below _ _ wx := hwx; have hcx := cellA hwx; have hfx := frozA hwx; have hzx := hwx.size; (try simp at hzx)); unfold zAt; (try simp [go_sem, BigFrame.eval_const, BigFrame.eval_global, BigFrame.eval_func, ↓IntWalk.iteOmega, *]); (try simp only [zUpon]); (first | exact ⟨rfl, Below.refl _ _⟩ | (refine ⟨rfl, ?_⟩; go_at_call 30; refine (ours_b _ _).mono ?_; rintro e wy ⟨rfl, hby⟩; exact ⟨_, rfl, rfl, hby⟩) | (refine ⟨rfl, ?_⟩; go_at_call 28; refine (heard_any _ _ _ _ _).mono ?_; rintro e wy ⟨rfl, hby⟩; exact ⟨_, rfl, rfl, hby⟩)))); (try go_simp))
  (refine wz_do (by decide) (by decide) C0e.es (growsB (by simp)) ?_ ?_; (focus (first | rfl | (go_simp; done))); apply Exists.intro; refine ⟨fun bs hok wx hwx hL => ?_, ?_⟩; (focus ((have hwx : Below _ _ wx := hwx; have hcx := cellA hwx; have hfx := frozA hwx; have hzx := hwx.size; (try simp at hzx)); unfold zAt; (try simp [go_sem, BigFrame.eval_const, BigFrame.eval_global, BigFrame.eval_func, ↓IntWalk.iteOmega, *]); (try simp only [zUpon]); (first | exact ⟨rfl, Below.refl _ _⟩ | (refine ⟨rfl, ?_⟩; go_at_call 30; refine (ours_b _ _).mono ?_; rintro e wy ⟨rfl, hby⟩; exact ⟨_, rfl, rfl, hby⟩) | (refine ⟨rfl, ?_⟩; go_at_call 28; refine (heard_any _ _ _ _ _).mono ?_; rintro e wy ⟨rfl, hby⟩; exact ⟨_, rfl, rfl, hby⟩)))); (try go_simp))
  (refine wz_do (by decide) (by decide) C0e.es (growsB (by simp)) ?_ ?_; (focus (first | rfl | (go_simp; done))); apply Exists.intro; refine ⟨fun bs hok wx hwx hL => ?_, ?_⟩; (focus ((have hwx : Below _ _ wx := hwx; have hcx := cellA hwx; have hfx := frozA hwx; have hzx := hwx.size; (try simp at hzx)); unfold zAt; (try simp [go_sem, BigFrame.eval_const, BigFrame.eval_global, BigFrame.eval_func, ↓IntWalk.iteOmega, *]); (try simp only [zUpon]); (first | exact ⟨rfl, Below.refl _ _⟩ | (refine ⟨rfl, ?_⟩; go_at_call 30; refine (ours_b _ _).mono ?_; rintro e wy ⟨rfl, hby⟩; exact ⟨_, rfl, rfl, hby⟩) | (refine ⟨rfl, ?_⟩; go_at_call 28; refine (heard_any _ _ _ _ _).mono ?_; rintro e wy ⟨rfl, hby⟩; exact ⟨_, rfl, rfl, hby⟩)))); (try go_simp))
  (refine wz_do (by decide) (by decide) C0e.es (growsB (by simp)) ?_ ?_; (focus (first | rfl | (go_simp; done))); apply Exists.intro; refine ⟨fun bs hok wx hwx hL => ?_, ?_⟩; (focus ((have hwx : Below _ _ wx := hwx; have hcx := cellA hwx; have hfx := frozA hwx; have hzx := hwx.size; (try simp at hzx)); unfold zAt; (try simp [go_sem, BigFrame.eval_const, BigFrame.eval_global, BigFrame.eval_func, ↓IntWalk.iteOmega, *]); (try simp only [zUpon]); (first | exact ⟨rfl, Below.refl _ _⟩ | (refine ⟨rfl, ?_⟩; go_at_call 30; refine (ours_b _ _).mono ?_; rintro e wy ⟨rfl, hby⟩; exact ⟨_, rfl, rfl, hby⟩) | (refine ⟨rfl, ?_⟩; go_at_call 28; refine (heard_any _ _ _ _ _).mono ?_; rintro e wy ⟨rfl, hby⟩; exact ⟨_, rfl, rfl, hby⟩)))); (try go_simp))
  (refine wz_do (by decide) (by decide) C0e.es (growsB (by simp)) ?_ ?_; (focus (first | rfl | (go_simp; done))); apply Exists.intro; refine ⟨fun bs hok wx hwx hL => ?_, ?_⟩; (focus ((have hwx : Below _ _ wx := hwx; have hcx := cellA hwx; have hfx := frozA hwx; have hzx := hwx.size; (try simp at hzx)); unfold zAt; (try simp [go_sem, BigFrame.eval_const, BigFrame.eval_global, BigFrame.eval_func, ↓IntWalk.iteOmega, *]); (try simp only [zUpon]); (first | exact ⟨rfl, Below.refl _ _⟩ | (refine ⟨rfl, ?_⟩; go_at_call 30; refine (ours_b _ _).mono ?_; rintro e wy ⟨rfl, hby⟩; exact ⟨_, rfl, rfl, hby⟩) | (refine ⟨rfl, ?_⟩; go_at_call 28; refine (heard_any _ _ _ _ _).mono ?_; rintro e wy ⟨rfl, hby⟩; exact ⟨_, rfl, rfl, hby⟩)))); (try go_simp))
  (refine wz_flo (by decide) C0e.es ?_ ?_; (focus (first | rfl | (go_simp; done))); apply Exists.intro; refine ⟨fun wx => ?_, ?_⟩; (focus ((try simp [go_sem, BigFrame.eval_const, BigFrame.eval_global, BigFrame.eval_func, ↓IntWalk.iteOmega, *]); (first | done | rfl))); (try go_simp))
  (refine wz_new (fun b => .pointer (some ⟨b, 0, none⟩)) _ _ (by decide) (by decide) (by decide) C0e.es (growsB (by simp)) (by first | rfl | (go_simp; done)) (by intro b b' h; simp at h; omega) (by simp) (fun _ _ h => Below.size h) (fun bs hok wx hwx hL => by (have hwx : Below _ _ wx := hwx; have hcx := cellA hwx; have hfx := frozA hwx; have hzx := hwx.size; (try simp at hzx)); (try simp [go_sem, BigFrame.eval_const, BigFrame.eval_global, BigFrame.eval_func, ↓IntWalk.iteOmega, *]); first | done | rfl) ?_; intro b15 hb15 F15 hF15; (try simp at hb15); (try go_simp))
  refine wz_nil ?_
  intro wq hbq hLq
  have hm15 := hF15 _ (hLq.get 15 (by simp))
  obtain ⟨hk15, hx15, hg15, hy15, hl15⟩ := blk hm15
  clear hLq hF15
  have hcwq := cellA hbq
  have hfwq := frozA hbq
  have hzwq := hbq.size
  try simp at hzwq
  have hs7 := HS5.out.addBlk hbq hm15 hb15 rfl
  have hs8 := (hs7.set (i := 0) (v := .int .i64 (usH p o false).1.1) rfl).set (i := 1) (v := .bool (usH p o false).1.2) rfl
  go_wp2_with fail
  refine wp_name (fun x hx => ?_)
  rw [← hx] at hs8
  have HS8 := Lib.hid hs8
  obtain ⟨hc8, hz8, hlt8⟩ := hs8.cellsAt 0 rfl
  have hc0 := hc8 0
  have hc1 := hc8 1
  obtain ⟨hc9, hz9, hlt9⟩ := hs8.cellsAt 1 rfl
  simp only [List.set_cons_zero, List.set_cons_succ, List.getElem?_cons_zero, List.getElem?_cons_succ, Array.toList] at hc0 hc1
  have z1 := hz9 (3 + o * 2)
  have z2 := hz9 (3 + o * 2 + 1)
  have e1 := (hc9 _).trans (us_s p o (by omega))
  have e2 := (hc9 _).trans (us_o p o (by omega))
  clear hx hs7 hs8 hc8 hz8 hc9 hz9 hcwq hfwq hk15 hx15 hg15 hy15 hm15 hbq hb15 hzwq c3 c4 hl15
  refine wp_region_quiet0 (w := _) [] [] 6 (by kernel_rfl) (by kernel_rfl) (fun _ _ dx _ _ hx => by cases dx <;> exact hx) ?_
  simp only [numbered, List.take_succ_cons, List.take_zero, List.drop_succ_cons, List.drop_zero, List.take_nil, List.drop_nil, Nat.reduceAdd]
  (refine wz_do (by decide) (by decide) C0e.es (growsB (by simp)) ?_ ?_; (focus (first | rfl | (go_simp; done))); apply Exists.intro; refine ⟨fun bs hok wx hwx hL => ?_, ?_⟩; (focus ((have hwx : Below _ _ wx := hwx; have hcx := cellA hwx; have hfx := frozA hwx; have hzx := hwx.size; (try simp at hzx)); unfold zAt; (try simp [go_sem, BigFrame.eval_const, BigFrame.eval_global, BigFrame.eval_func, ↓IntWalk.iteOmega, *]); (try simp only [zUpon]); (first | exact ⟨rfl, Below.refl _ _⟩ | fail))); (try go_simp))
  (refine wz_do (by decide) (by decide) C0e.es (growsB (by simp)) ?_ ?_; (focus (first | rfl | (go_simp; done))); apply Exists.intro; refine ⟨fun bs hok wx hwx hL => ?_, ?_⟩; (focus ((have hwx : Below _ _ wx := hwx; have hcx := cellA hwx; have hfx := frozA hwx; have hzx := hwx.size; (try simp at hzx)); unfold zAt; (try simp [go_sem, BigFrame.eval_const, BigFrame.eval_global, BigFrame.eval_func, ↓IntWalk.iteOmega, *]); (try simp only [zUpon]); (first | exact ⟨rfl, Below.refl _ _⟩ | fail))); (try go_simp))
  (refine wz_do (by decide) (by decide) C0e.es (growsB (by simp)) ?_ ?_; (focus (first | rfl | (go_simp; done))); apply Exists.intro; refine ⟨fun bs hok wx hwx hL => ?_, ?_⟩; (focus ((have hwx : Below _ _ wx := hwx; have hcx := cellA hwx; have hfx := frozA hwx; have hzx := hwx.size; (try simp at hzx)); unfold zAt; (try simp [go_sem, BigFrame.eval_const, BigFrame.eval_global, BigFrame.eval_func, ↓IntWalk.iteOmega, *]); (try simp only [zUpon]); (first | exact ⟨rfl, Below.refl _ _⟩ | fail))); (try go_simp))
  (refine wz_do (by decide) (by decide) C0e.es (growsB (by simp)) ?_ ?_; (focus (first | rfl | (go_simp; done))); apply Exists.intro; refine ⟨fun bs hok wx hwx hL => ?_, ?_⟩; (focus ((have hwx : Below _ _ wx := hwx; have hcx := cellA hwx; have hfx := frozA hwx; have hzx := hwx.size; (try simp at hzx)); unfold zAt; (try simp [go_sem, BigFrame.eval_const, BigFrame.eval_global, BigFrame.eval_func, ↓IntWalk.iteOmega, *]); (try simp only [zUpon]); (first | exact ⟨rfl, Below.refl _ _⟩ | fail))); (try go_simp))
  (refine wz_do (by decide) (by decide) C0e.es (growsB (by simp)) ?_ ?_; (focus (first | rfl | (go_simp; done))); apply Exists.intro; refine ⟨fun bs hok wx hwx hL => ?_, ?_⟩; (focus ((have hwx : Below _ _ wx := hwx; have hcx := cellA hwx; have hfx := frozA hwx; have hzx := hwx.size; (try simp at hzx)); unfold zAt; (try simp [go_sem, BigFrame.eval_const, BigFrame.eval_global, BigFrame.eval_func, ↓IntWalk.iteOmega, *]); (try simp only [zUpon]); (first | exact ⟨rfl, Below.refl _ _⟩ | fail))); (try go_simp))
  (refine wz_do (by decide) (by decide) C0e.es (growsB (by simp)) ?_ ?_; (focus (first | rfl | (go_simp; done))); apply Exists.intro; refine ⟨fun bs hok wx hwx hL => ?_, ?_⟩; (focus ((have hwx : Below _ _ wx := hwx; have hcx := cellA hwx; have hfx := frozA hwx; have hzx := hwx.size; (try simp at hzx)); unfold zAt; (try simp [go_sem, BigFrame.eval_const, BigFrame.eval_global, BigFrame.eval_func, ↓IntWalk.iteOmega, *]); (try simp only [zUpon]); (first | exact ⟨rfl, Below.refl _ _⟩ | fail))); (try go_simp))
  refine wz_nil ?_
  intro wq hbq hLq
  clear hLq 
  have hcwq := cellA hbq
  have hfwq := frozA hbq
  have hzwq := hbq.size
  try simp at hzwq
  have hs9 := (((HS8.out.below hbq).perm (List.Perm.swap _ _ _)).set (i := 3 + o * 2) (v := .int .i64 (usH p o false).1.1) rfl).set (i := 3 + o * 2 + 1) (v := .bool (usH p o false).1.2) rfl
  rw [← set_us p o (usH p o false).1 (by omega)] at hs9
  have HS9 := Lib.hid hs9
  clear hs9
  by_cases i1 : o = 31
  · have j1 : ((o : Int) == 31) = true := by simp [i1]
    by_cases i2 : (usH p o false).1.1 = 1
    · have j2 : ((usH p o false).1.1 == 1) = true := by simp [i2]
      by_cases i3 : (p.us o).1 = 1
      · have j3 : ((p.us o).1 == 1) = true := by simp [i3]
        have HR : Hid (usF p o false = usS p o false) := Lib.hid (by unfold usF; rw [if_neg (fun h => h.2.2 i3)])
        clear i1 i2 i3
        go_wp2_with (first | (go_at_call 25; refine (say_any b _ o _ 251 252 (.blk b15 [.int .i64 (usH p o false).1.1, .bool (usH p o false).1.2] 46 :: F) _ HS9.out ho (by decide) (by decide) (by decide) (by decide) h5 h6).mono ?_; rintro e w10 ⟨⟨he10, hs10⟩⟩; have he10 : e = .returned (.string ⟨l10.toArray⟩) := (by rw [he10, HL10.out]; rfl); subst he10; have hs10 : Sep w10 (.blk b (pcells (usS p o false).2) 68 :: .blk b15 [.int .i64 (usH p o false).1.1, .bool (usH p o false).1.2] 46 :: F) := hs10; have HS10 := Lib.hid hs10; have hb0 := (hs10.cellsAt 1 rfl).1 0; have hb1 := (hs10.cellsAt 1 rfl).1 1; simp only [List.getElem?_cons_zero, List.getElem?_cons_succ] at hb0 hb1; clear hs10) | (go_at_call 19; refine (ison_any _ _ _).mono ?_; rintro e w11 ⟨rfl, hb11⟩; have HS11 := Lib.hid (HS10.out.below hb11); clear hb11) | (go_at_call 26; refine (tell_any b (usS p o false).2 _ _ HS11.out (fun x hx => HG.out x hx.tail) hw0 hw1 hh0 hh1).mono ?_; rintro e w12 ⟨⟨he12, hs12⟩⟩; have he12 : e = .returned (.string ⟨l12.toArray⟩) := (by rw [he12, HL12.out]); subst he12; have HS12 := Lib.hid hs12; clear hs12))
        go_ret
        rw [HR.out]
        exact ⟨⟨by first | exact ret1 HL10.out | exact ret2 HL10.out HL12.out, HS11.out.drop1⟩⟩
    
      · have j3 : ((p.us o).1 == 1) = false := by simp [i3]
        have HR : Hid (usF p o false = ((usS p o false).1 ++ (tellF (usS p o false).2).1, (tellF (usS p o false).2).2)) := Lib.hid (by unfold usF; rw [if_pos ⟨i1, i2, i3⟩])
        clear i1 i2 i3
        go_wp2_with (first | (go_at_call 25; refine (say_any b _ o _ 251 252 (.blk b15 [.int .i64 (usH p o false).1.1, .bool (usH p o false).1.2] 46 :: F) _ HS9.out ho (by decide) (by decide) (by decide) (by decide) h5 h6).mono ?_; rintro e w10 ⟨⟨he10, hs10⟩⟩; have he10 : e = .returned (.string ⟨l10.toArray⟩) := (by rw [he10, HL10.out]; rfl); subst he10; have hs10 : Sep w10 (.blk b (pcells (usS p o false).2) 68 :: .blk b15 [.int .i64 (usH p o false).1.1, .bool (usH p o false).1.2] 46 :: F) := hs10; have HS10 := Lib.hid hs10; have hb0 := (hs10.cellsAt 1 rfl).1 0; have hb1 := (hs10.cellsAt 1 rfl).1 1; simp only [List.getElem?_cons_zero, List.getElem?_cons_succ] at hb0 hb1; clear hs10) | (go_at_call 19; refine (ison_any _ _ _).mono ?_; rintro e w11 ⟨rfl, hb11⟩; have HS11 := Lib.hid (HS10.out.below hb11); clear hb11) | (go_at_call 26; refine (tell_any b (usS p o false).2 _ _ HS11.out (fun x hx => HG.out x hx.tail) hw0 hw1 hh0 hh1).mono ?_; rintro e w12 ⟨⟨he12, hs12⟩⟩; have he12 : e = .returned (.string ⟨l12.toArray⟩) := (by rw [he12, HL12.out]); subst he12; have HS12 := Lib.hid hs12; clear hs12))
        go_ret
        rw [HR.out]
        exact ⟨⟨by first | exact ret1 HL10.out | exact ret2 HL10.out HL12.out, HS12.out.drop1⟩⟩
    
    · have j2 : ((usH p o false).1.1 == 1) = false := by simp [i2]
      have HR : Hid (usF p o false = usS p o false) := Lib.hid (by unfold usF; rw [if_neg (fun h => i2 h.2.1)])
      clear i1 i2
      go_wp2_with (first | (go_at_call 25; refine (say_any b _ o _ 251 252 (.blk b15 [.int .i64 (usH p o false).1.1, .bool (usH p o false).1.2] 46 :: F) _ HS9.out ho (by decide) (by decide) (by decide) (by decide) h5 h6).mono ?_; rintro e w10 ⟨⟨he10, hs10⟩⟩; have he10 : e = .returned (.string ⟨l10.toArray⟩) := (by rw [he10, HL10.out]; rfl); subst he10; have hs10 : Sep w10 (.blk b (pcells (usS p o false).2) 68 :: .blk b15 [.int .i64 (usH p o false).1.1, .bool (usH p o false).1.2] 46 :: F) := hs10; have HS10 := Lib.hid hs10; have hb0 := (hs10.cellsAt 1 rfl).1 0; have hb1 := (hs10.cellsAt 1 rfl).1 1; simp only [List.getElem?_cons_zero, List.getElem?_cons_succ] at hb0 hb1; clear hs10) | (go_at_call 19; refine (ison_any _ _ _).mono ?_; rintro e w11 ⟨rfl, hb11⟩; have HS11 := Lib.hid (HS10.out.below hb11); clear hb11) | (go_at_call 26; refine (tell_any b (usS p o false).2 _ _ HS11.out (fun x hx => HG.out x hx.tail) hw0 hw1 hh0 hh1).mono ?_; rintro e w12 ⟨⟨he12, hs12⟩⟩; have he12 : e = .returned (.string ⟨l12.toArray⟩) := (by rw [he12, HL12.out]); subst he12; have HS12 := Lib.hid hs12; clear hs12))
      go_ret
      rw [HR.out]
      exact ⟨⟨by first | exact ret1 HL10.out | exact ret2 HL10.out HL12.out, HS11.out.drop1⟩⟩
  
  · have j1 : ((o : Int) == 31) = false := by simp; omega
    have HR : Hid (usF p o false = usS p o false) := Lib.hid (by unfold usF; rw [if_neg (fun h => i1 h.1)])
    clear i1
    go_wp2_with (first | (go_at_call 25; refine (say_any b _ o _ 251 252 (.blk b15 [.int .i64 (usH p o false).1.1, .bool (usH p o false).1.2] 46 :: F) _ HS9.out ho (by decide) (by decide) (by decide) (by decide) h5 h6).mono ?_; rintro e w10 ⟨⟨he10, hs10⟩⟩; have he10 : e = .returned (.string ⟨l10.toArray⟩) := (by rw [he10, HL10.out]; rfl); subst he10; have hs10 : Sep w10 (.blk b (pcells (usS p o false).2) 68 :: .blk b15 [.int .i64 (usH p o false).1.1, .bool (usH p o false).1.2] 46 :: F) := hs10; have HS10 := Lib.hid hs10; have hb0 := (hs10.cellsAt 1 rfl).1 0; have hb1 := (hs10.cellsAt 1 rfl).1 1; simp only [List.getElem?_cons_zero, List.getElem?_cons_succ] at hb0 hb1; clear hs10) | (go_at_call 19; refine (ison_any _ _ _).mono ?_; rintro e w11 ⟨rfl, hb11⟩; have HS11 := Lib.hid (HS10.out.below hb11); clear hb11) | (go_at_call 26; refine (tell_any b (usS p o false).2 _ _ HS11.out (fun x hx => HG.out x hx.tail) hw0 hw1 hh0 hh1).mono ?_; rintro e w12 ⟨⟨he12, hs12⟩⟩; have he12 : e = .returned (.string ⟨l12.toArray⟩) := (by rw [he12, HL12.out]); subst he12; have HS12 := Lib.hid hs12; clear hs12))
    go_ret
    rw [HR.out]
    exact ⟨⟨by first | exact ret1 HL10.out | exact ret2 HL10.out HL12.out, HS10.out.drop1⟩⟩

end Go.Proofs.YtjlamnioknbcaaaDoor.P7
