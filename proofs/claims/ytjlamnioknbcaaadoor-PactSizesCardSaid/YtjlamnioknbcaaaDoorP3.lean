/- say, tell, Sent, Told -/
import Derived.Test.YtjlamnioknbcaaaDoorP2
import Derived.Lib.Hide
namespace Go.Proofs.YtjlamnioknbcaaaDoor.P3
set_option linter.unusedVariables false
set_option linter.unusedSimpArgs false
set_option linter.unnecessarySimpa false
set_option maxRecDepth 100000
open Go.RowKit K1 K3 K5 K11 K12 K14 K20 K21 K22 K25 W0 V1 V2 V3 Y1 Y2 Y3 Y4 P1 P2

attribute [local go_sem] cell_pastA froz_pastA
structure OutP (F : List Res) (b : Nat) (r : List UInt8 × Pa) (e : Ending) (w' : World) : Prop where
  out : e = .returned (.string ⟨r.1.toArray⟩) ∧ Sep w' (.blk b (pcells r.2) 68 :: F)
def sayF (p : Pa) (o : Nat) (what : Int) (on off : Nat) : List UInt8 × Pa := if what = 0 then ([], p) else (optB (if what < 0 then off else on) o, { p with sent := p.sent + 1 })
theorem at_ {p : Pa} {b : Nat} {F : List Res} {w : World} (h : Sep w (.blk b (pcells p) 68 :: F)) : (∀ i, w.cell? ⟨b, i, none⟩ = (pcells p)[i]?) ∧ (∀ i, w.frozen? ⟨b, i, none⟩ = false) ∧ b < w.heap.size := h.cellsAt 0 rfl
set_option maxHeartbeats 4000000 in
theorem say_any (b : Nat) (p : Pa) (o : Nat) (what : Int) (on off : Nat) (F : List Res) (w : World) (hs : Sep w (.blk b (pcells p) 68 :: F)) (ho : o ≤ 255) (h1 : 251 ≤ on) (h2 : on ≤ 254) (h3 : 251 ≤ off) (h4 : off ≤ 254) (h5 : 0 ≤ p.sent) (h6 : p.sent ≤ 1000000000) :
    Calls Tryd.prog 25 #[.pointer (some ⟨b, 0, none⟩), .int .i64 o, .int .i64 what, .int .i64 on, .int .i64 off] w (OutP F b (sayF p o what on off)) := by
  have HS := Lib.hid hs
  obtain ⟨hc, hz, hlt⟩ := at_ hs
  clear hs hc hz
  by_cases h0 : what = 0
  · subst h0
    go_enter Tryd.func25, Tryd.ntmps25
    go_wp2_with fail
    go_ret
    exact ⟨⟨rfl, HS.out⟩⟩
  · have hd0 : (what == 0) = false := by simpa using h0
    by_cases hn : what < 0
    · have hd1 : decide (what < 0) = true := by simpa using hn
      have hr : sayF p o what on off = (optB off o, { p with sent := p.sent + 1 }) := by unfold sayF; rw [if_neg h0, if_pos hn]
      have HR := Lib.hid hr
      clear hr hn h0
      go_enter Tryd.func25, Tryd.ntmps25
      go_wp2_with (first | (go_at_call 37; refine (add1_any b 1032 _ p.sent _ (((at_ (p := p) (F := F) HS.out.alloc0).1 1032).trans (lies p).sent) ((at_ (p := p) (F := F) HS.out.alloc0).2.1 1032) (by simp [go_sem]) h5 h6).mono ?_; rintro e w1 ⟨rfl, rfl⟩) | (go_at_call 38; refine (option_any off o _ h3 h4 ho).mono ?_; rintro e w2 ⟨rfl, hb2⟩))
      go_ret
      rw [HR.out]
      exact ⟨⟨rfl, (HS.out.set (set_sent p _)).alloc0.below hb2⟩⟩
    · have hd1 : decide (what < 0) = false := by simpa using hn
      have hr : sayF p o what on off = (optB on o, { p with sent := p.sent + 1 }) := by unfold sayF; rw [if_neg h0, if_neg hn]
      have HR := Lib.hid hr
      clear hr hn h0
      go_enter Tryd.func25, Tryd.ntmps25
      go_wp2_with (first | (go_at_call 37; refine (add1_any b 1032 _ p.sent _ (((at_ (p := p) (F := F) HS.out.alloc0).1 1032).trans (lies p).sent) ((at_ (p := p) (F := F) HS.out.alloc0).2.1 1032) (by simp [go_sem]) h5 h6).mono ?_; rintro e w1 ⟨rfl, rfl⟩) | (go_at_call 38; refine (option_any on o _ h1 h2 ho).mono ?_; rintro e w2 ⟨rfl, hb2⟩))
      go_ret
      rw [HR.out]
      exact ⟨⟨rfl, (HS.out.set (set_sent p _)).alloc0.below hb2⟩⟩
theorem sent_any (b : Nat) (p : Pa) (F : List Res) (w : World) (hs : Sep w (.blk b (pcells p) 68 :: F)) : Calls Tryd.prog 12 #[.pointer (some ⟨b, 0, none⟩)] w fun e w' => e = .returned (.int .i64 p.sent) ∧ w' = w := by
  have hc := ((at_ hs).1 1032).trans (lies p).sent
  go_enter Tryd.func12, Tryd.ntmps12
  go_wp2_with (go_at_call 22; refine (now_any b 1032 p.sent _ hc).mono ?_; rintro e w1 ⟨rfl, rfl⟩)
  go_ret
  exact ⟨rfl, rfl⟩
def sizeB (x y : Int) : List UInt8 := [twoB x, twoB y].flatten
theorem sizeB_len (x y : Int) : (sizeB x y).length = 4 := rfl
def tellF (p : Pa) : List UInt8 × Pa := (subB 31 (sizeB p.w p.h), { p with told := true, lw := p.w, lh := p.h })
theorem sub_l (o : Nat) (v : Value) (L : List (List UInt8)) (l : List UInt8) (w : World) (hl : l = L.flatten) (hv : Rd 1 strE w v L) (hg : Glob w) (h : l.length ≤ 40) (hn : L.length ≤ 1000000) (ho : o ≤ 255) : Calls Tryd.prog 20 #[.int .i64 o, v] w fun e w' => e = .returned (.tuple #[.string ⟨(subB o l).toArray⟩, .int .i64 0]) ∧ Below w.heap.size w w' := by
  subst hl
  exact sub_any o v L w hv hg h hn ho
theorem rd2 {w : World} {b : Nat} {x y : List UInt8} {t : TypeId} (h : w.heap[b]? = some (.cells #[.string ⟨x.toArray⟩, .string ⟨y.toArray⟩] t (0, 0))) : Rd 1 strE w (.slice (some ⟨b, 0, none⟩) 2 2) [x, y] := by
  refine ⟨_, 2, rfl, by simp, .inr ⟨b, 0, rfl, (blk h).2.2.2.2, fun k z hz j u hu => ?_⟩⟩
  rw [(blk h).1]
  have hj : j = 0 ∧ u = .string ⟨z.toArray⟩ := by
    have := (List.getElem?_eq_some_iff.1 hu).1
    have h0 : j = 0 := by simpa [strE] using this
    subst h0
    exact ⟨rfl, by simpa [strE] using hu.symm⟩
  obtain ⟨rfl, rfl⟩ := hj
  match k, hz with
  | 0, hz => obtain rfl : x = z := by simpa using hz
             rfl
  | 1, hz => obtain rfl : y = z := by simpa using hz
             rfl
  | k + 2, hz => simp at hz
set_option maxHeartbeats 8000000 in
theorem tell_any (b : Nat) (p : Pa) (F : List Res) (w : World) (hs : Sep w (.blk b (pcells p) 68 :: F)) (hG : ∀ x, Sep x F → Glob x) (h0 : 0 ≤ p.w) (h1 : p.w ≤ 65535) (h2 : 0 ≤ p.h) (h3 : p.h ≤ 65535) :
    Calls Tryd.prog 26 #[.pointer (some ⟨b, 0, none⟩)] w (OutP F b (tellF p)) := by
  have hs2 := ((hs.set (set_told p true)).set (set_lw _ p.w)).set (set_lh _ p.h)
  have HG2 := Lib.hid (hG _ hs2.tail)
  have HS2 := Lib.hid hs2
  obtain ⟨hc, hz, hlt⟩ := at_ hs
  have c1 := (hc 1).trans (lies p).w
  have c2 := (hc 2).trans (lies p).h
  have c3 := (hc 1033).trans (lies p).told
  have c4 := (hc 1034).trans (lies p).lw
  have c5 := (hc 1035).trans (lies p).lh
  have z1 := hz 1033
  have z2 := hz 1034
  have z3 := hz 1035
  clear hs hs2 hc hz hG
  go_enter Tryd.func26, Tryd.ntmps26
  go_wp2_with fail
  refine wp_region_quiet0 (w := _) [12] [] 19 (by kernel_rfl) (by kernel_rfl) (fun _ _ dx _ _ hx => by cases dx <;> exact hx) ?_
  simp only [numbered, List.take_succ_cons, List.take_zero, List.drop_succ_cons, List.drop_zero, List.take_nil, List.drop_nil, Nat.reduceAdd]
  (refine wz_do (by decide) (by decide) C0e.es (growsB (by simp)) ?_ ?_; (focus (first | rfl | (go_simp; done))); apply Exists.intro; refine ⟨fun bs hok wx hwx hL => ?_, ?_⟩; (focus ((have hwx : Below _ _ wx := hwx; have hcx := cellA hwx; have hfx := frozA hwx; have hzx := hwx.size; (try simp at hzx)); unfold zAt; (try simp [go_sem, BigFrame.eval_const, BigFrame.eval_global, BigFrame.eval_func, ↓IntWalk.iteOmega, *]); (try simp only [zUpon]); (first | exact ⟨rfl, Below.refl _ _⟩ | (refine ⟨rfl, ?_⟩; go_at_call 39; refine (two_any _ _ (by omega) (by omega)).mono ?_; rintro e wy ⟨rfl, hby⟩; exact ⟨_, rfl, rfl, hby⟩) | (refine ⟨rfl, ?_⟩; go_at_call 20; refine (sub_l 31 _ [twoB p.w, twoB p.h] (sizeB p.w p.h) _ rfl (rd2 hm12) (HG2.out.at hwx (by omega)) (by rw [sizeB_len]; decide) (by simp) (by decide)).mono ?_; rintro e wy ⟨rfl, hby⟩; exact ⟨_, rfl, rfl, hby⟩)))); (try go_simp))
  (refine wz_do (by decide) (by decide) C0e.es (growsB (by simp)) ?_ ?_; (focus (first | rfl | (go_simp; done))); apply Exists.intro; refine ⟨fun bs hok wx hwx hL => ?_, ?_⟩; (focus ((have hwx : Below _ _ wx := hwx; have hcx := cellA hwx; have hfx := frozA hwx; have hzx := hwx.size; (try simp at hzx)); unfold zAt; (try simp [go_sem, BigFrame.eval_const, BigFrame.eval_global, BigFrame.eval_func, ↓IntWalk.iteOmega, *]); (try simp only [zUpon]); (first | exact ⟨rfl, Below.refl _ _⟩ | (refine ⟨rfl, ?_⟩; go_at_call 39; refine (two_any _ _ (by omega) (by omega)).mono ?_; rintro e wy ⟨rfl, hby⟩; exact ⟨_, rfl, rfl, hby⟩) | (refine ⟨rfl, ?_⟩; go_at_call 20; refine (sub_l 31 _ [twoB p.w, twoB p.h] (sizeB p.w p.h) _ rfl (rd2 hm12) (HG2.out.at hwx (by omega)) (by rw [sizeB_len]; decide) (by simp) (by decide)).mono ?_; rintro e wy ⟨rfl, hby⟩; exact ⟨_, rfl, rfl, hby⟩)))); (try go_simp))
  (refine wz_do (by decide) (by decide) C0e.es (growsB (by simp)) ?_ ?_; (focus (first | rfl | (go_simp; done))); apply Exists.intro; refine ⟨fun bs hok wx hwx hL => ?_, ?_⟩; (focus ((have hwx : Below _ _ wx := hwx; have hcx := cellA hwx; have hfx := frozA hwx; have hzx := hwx.size; (try simp at hzx)); unfold zAt; (try simp [go_sem, BigFrame.eval_const, BigFrame.eval_global, BigFrame.eval_func, ↓IntWalk.iteOmega, *]); (try simp only [zUpon]); (first | exact ⟨rfl, Below.refl _ _⟩ | (refine ⟨rfl, ?_⟩; go_at_call 39; refine (two_any _ _ (by omega) (by omega)).mono ?_; rintro e wy ⟨rfl, hby⟩; exact ⟨_, rfl, rfl, hby⟩) | (refine ⟨rfl, ?_⟩; go_at_call 20; refine (sub_l 31 _ [twoB p.w, twoB p.h] (sizeB p.w p.h) _ rfl (rd2 hm12) (HG2.out.at hwx (by omega)) (by rw [sizeB_len]; decide) (by simp) (by decide)).mono ?_; rintro e wy ⟨rfl, hby⟩; exact ⟨_, rfl, rfl, hby⟩)))); (try go_simp))
  (refine wz_do (by decide) (by decide) C0e.es (growsB (by simp)) ?_ ?_; (focus (first | rfl | (go_simp; done))); apply Exists.intro; refine ⟨fun bs hok wx hwx hL => ?_, ?_⟩; (focus ((have hwx : Below _ _ wx := hwx; have hcx := cellA hwx; have hfx := frozA hwx; have hzx := hwx.size; (try simp at hzx)); unfold zAt; (try simp [go_sem, BigFrame.eval_const, BigFrame.eval_global, BigFrame.eval_func, ↓IntWalk.iteOmega, *]); (try simp only [zUpon]); (first | exact ⟨rfl, Below.refl _ _⟩ | (refine ⟨rfl, ?_⟩; go_at_call 39; refine (two_any _ _ (by omega) (by omega)).mono ?_; rintro e wy ⟨rfl, hby⟩; exact ⟨_, rfl, rfl, hby⟩) | (refine ⟨rfl, ?_⟩; go_at_call 20; refine (sub_l 31 _ [twoB p.w, twoB p.h] (sizeB p.w p.h) _ rfl (rd2 hm12) (HG2.out.at hwx (by omega)) (by rw [sizeB_len]; decide) (by simp) (by decide)).mono ?_; rintro e wy ⟨rfl, hby⟩; exact ⟨_, rfl, rfl, hby⟩)))); (try go_simp))
  (refine wz_do (by decide) (by decide) C0e.es (growsB (by simp)) ?_ ?_; (focus (first | rfl | (go_simp; done))); apply Exists.intro; refine ⟨fun bs hok wx hwx hL => ?_, ?_⟩; (focus ((have hwx : Below _ _ wx := hwx; have hcx := cellA hwx; have hfx := frozA hwx; have hzx := hwx.size; (try simp at hzx)); unfold zAt; (try simp [go_sem, BigFrame.eval_const, BigFrame.eval_global, BigFrame.eval_func, ↓IntWalk.iteOmega, *]); (try simp only [zUpon]); (first | exact ⟨rfl, Below.refl _ _⟩ | (refine ⟨rfl, ?_⟩; go_at_call 39; refine (two_any _ _ (by omega) (by omega)).mono ?_; rintro e wy ⟨rfl, hby⟩; exact ⟨_, rfl, rfl, hby⟩) | (refine ⟨rfl, ?_⟩; go_at_call 20; refine (sub_l 31 _ [twoB p.w, twoB p.h] (sizeB p.w p.h) _ rfl (rd2 hm12) (HG2.out.at hwx (by omega)) (by rw [sizeB_len]; decide) (by simp) (by decide)).mono ?_; rintro e wy ⟨rfl, hby⟩; exact ⟨_, rfl, rfl, hby⟩)))); (try go_simp))
  (refine wz_do (by decide) (by decide) C0e.es (growsB (by simp)) ?_ ?_; (focus (first | rfl | (go_simp; done))); apply Exists.intro; refine ⟨fun bs hok wx hwx hL => ?_, ?_⟩; (focus ((have hwx : Below _ _ wx := hwx; have hcx := cellA hwx; have hfx := frozA hwx; have hzx := hwx.size; (try simp at hzx)); unfold zAt; (try simp [go_sem, BigFrame.eval_const, BigFrame.eval_global, BigFrame.eval_func, ↓IntWalk.iteOmega, *]); (try simp only [zUpon]); (first | exact ⟨rfl, Below.refl _ _⟩ | (refine ⟨rfl, ?_⟩; go_at_call 39; refine (two_any _ _ (by omega) (by omega)).mono ?_; rintro e wy ⟨rfl, hby⟩; exact ⟨_, rfl, rfl, hby⟩) | (refine ⟨rfl, ?_⟩; go_at_call 20; refine (sub_l 31 _ [twoB p.w, twoB p.h] (sizeB p.w p.h) _ rfl (rd2 hm12) (HG2.out.at hwx (by omega)) (by rw [sizeB_len]; decide) (by simp) (by decide)).mono ?_; rintro e wy ⟨rfl, hby⟩; exact ⟨_, rfl, rfl, hby⟩)))); (try go_simp))
  (refine wz_do (by decide) (by decide) C0e.es (growsB (by simp)) ?_ ?_; (focus (first | rfl | (go_simp; done))); apply Exists.intro; refine ⟨fun bs hok wx hwx hL => ?_, ?_⟩; (focus ((have hwx : Below _ _ wx := hwx; have hcx := cellA hwx; have hfx := frozA hwx; have hzx := hwx.size; (try simp at hzx)); unfold zAt; (try simp [go_sem, BigFrame.eval_const, BigFrame.eval_global, BigFrame.eval_func, ↓IntWalk.iteOmega, *]); (try simp only [zUpon]); (first | exact ⟨rfl, Below.refl _ _⟩ | (refine ⟨rfl, ?_⟩; go_at_call 39; refine (two_any _ _ (by omega) (by omega)).mono ?_; rintro e wy ⟨rfl, hby⟩; exact ⟨_, rfl, rfl, hby⟩) | (refine ⟨rfl, ?_⟩; go_at_call 20; refine (sub_l 31 _ [twoB p.w, twoB p.h] (sizeB p.w p.h) _ rfl (rd2 hm12) (HG2.out.at hwx (by omega)) (by rw [sizeB_len]; decide) (by simp) (by decide)).mono ?_; rintro e wy ⟨rfl, hby⟩; exact ⟨_, rfl, rfl, hby⟩)))); (try go_simp))
  (refine wz_do (by decide) (by decide) C0e.es (growsB (by simp)) ?_ ?_; (focus (first | rfl | (go_simp; done))); apply Exists.intro; refine ⟨fun bs hok wx hwx hL => ?_, ?_⟩; (focus ((have hwx : Below _ _ wx := hwx; have hcx := cellA hwx; have hfx := frozA hwx; have hzx := hwx.size; (try simp at hzx)); unfold zAt; (try simp [go_sem, BigFrame.eval_const, BigFrame.eval_global, BigFrame.eval_func, ↓IntWalk.iteOmega, *]); (try simp only [zUpon]); (first | exact ⟨rfl, Below.refl _ _⟩ | (refine ⟨rfl, ?_⟩; go_at_call 39; refine (two_any _ _ (by omega) (by omega)).mono ?_; rintro e wy ⟨rfl, hby⟩; exact ⟨_, rfl, rfl, hby⟩) | (refine ⟨rfl, ?_⟩; go_at_call 20; refine (sub_l 31 _ [twoB p.w, twoB p.h] (sizeB p.w p.h) _ rfl (rd2 hm12) (HG2.out.at hwx (by omega)) (by rw [sizeB_len]; decide) (by simp) (by decide)).mono ?_; rintro e wy ⟨rfl, hby⟩; exact ⟨_, rfl, rfl, hby⟩)))); (try go_simp))
  (refine wz_do (by decide) (by decide) C0e.es (growsB (by simp)) ?_ ?_; (focus (first | rfl | (go_simp; done))); apply Exists.intro; refine ⟨fun bs hok wx hwx hL => ?_, ?_⟩; (focus ((have hwx : Below _ _ wx := hwx; have hcx := cellA hwx; have hfx := frozA hwx; have hzx := hwx.size; (try simp at hzx)); unfold zAt; (try simp [go_sem, BigFrame.eval_const, BigFrame.eval_global, BigFrame.eval_func, ↓IntWalk.iteOmega, *]); (try simp only [zUpon]); (first | exact ⟨rfl, Below.refl _ _⟩ | (refine ⟨rfl, ?_⟩; go_at_call 39; refine (two_any _ _ (by omega) (by omega)).mono ?_; rintro e wy ⟨rfl, hby⟩; exact ⟨_, rfl, rfl, hby⟩) | (refine ⟨rfl, ?_⟩; go_at_call 20; refine (sub_l 31 _ [twoB p.w, twoB p.h] (sizeB p.w p.h) _ rfl (rd2 hm12) (HG2.out.at hwx (by omega)) (by rw [sizeB_len]; decide) (by simp) (by decide)).mono ?_; rintro e wy ⟨rfl, hby⟩; exact ⟨_, rfl, rfl, hby⟩)))); (try go_simp))
  (refine wz_do (by decide) (by decide) C0e.es (growsB (by simp)) ?_ ?_; (focus (first | rfl | (go_simp; done))); apply Exists.intro; refine ⟨fun bs hok wx hwx hL => ?_, ?_⟩; (focus ((have hwx : Below _ _ wx := hwx; have hcx := cellA hwx; have hfx := frozA hwx; have hzx := hwx.size; (try simp at hzx)); unfold zAt; (try simp [go_sem, BigFrame.eval_const, BigFrame.eval_global, BigFrame.eval_func, ↓IntWalk.iteOmega, *]); (try simp only [zUpon]); (first | exact ⟨rfl, Below.refl _ _⟩ | (refine ⟨rfl, ?_⟩; go_at_call 39; refine (two_any _ _ (by omega) (by omega)).mono ?_; rintro e wy ⟨rfl, hby⟩; exact ⟨_, rfl, rfl, hby⟩) | (refine ⟨rfl, ?_⟩; go_at_call 20; refine (sub_l 31 _ [twoB p.w, twoB p.h] (sizeB p.w p.h) _ rfl (rd2 hm12) (HG2.out.at hwx (by omega)) (by rw [sizeB_len]; decide) (by simp) (by decide)).mono ?_; rintro e wy ⟨rfl, hby⟩; exact ⟨_, rfl, rfl, hby⟩)))); (try go_simp))
  (refine wz_do (by decide) (by decide) C0e.es (growsB (by simp)) ?_ ?_; (focus (first | rfl | (go_simp; done))); apply Exists.intro; refine ⟨fun bs hok wx hwx hL => ?_, ?_⟩; (focus ((have hwx : Below _ _ wx := hwx; have hcx := cellA hwx; have hfx := frozA hwx; have hzx := hwx.size; (try simp at hzx)); unfold zAt; (try simp [go_sem, BigFrame.eval_const, BigFrame.eval_global, BigFrame.eval_func, ↓IntWalk.iteOmega, *]); (try simp only [zUpon]); (first | exact ⟨rfl, Below.refl _ _⟩ | (refine ⟨rfl, ?_⟩; go_at_call 39; refine (two_any _ _ (by omega) (by omega)).mono ?_; rintro e wy ⟨rfl, hby⟩; exact ⟨_, rfl, rfl, hby⟩) | (refine ⟨rfl, ?_⟩; go_at_call 20; refine (sub_l 31 _ [twoB p.w, twoB p.h] (sizeB p.w p.h) _ rfl (rd2 hm12) (HG2.out.at hwx (by omega)) (by rw [sizeB_len]; decide) (by simp) (by decide)).mono ?_; rintro e wy ⟨rfl, hby⟩; exact ⟨_, rfl, rfl, hby⟩)))); (try go_simp))
  (refine wz_do (by decide) (by decide) C0e.es (growsB (by simp)) ?_ ?_; (focus (first | rfl | (go_simp; done))); apply Exists.intro; refine ⟨fun bs hok wx hwx hL => ?_, ?_⟩; (focus ((have hwx : Below _ _ wx := hwx; have hcx := cellA hwx; have hfx := frozA hwx; have hzx := hwx.size; (try simp at hzx)); unfold zAt; (try simp [go_sem, BigFrame.eval_const, BigFrame.eval_global, BigFrame.eval_func, ↓IntWalk.iteOmega, *]); (try simp only [zUpon]); (first | exact ⟨rfl, Below.refl _ _⟩ | (refine ⟨rfl, ?_⟩; go_at_call 39; refine (two_any _ _ (by omega) (by omega)).mono ?_; rintro e wy ⟨rfl, hby⟩; exact ⟨_, rfl, rfl, hby⟩) | (refine ⟨rfl, ?_⟩; go_at_call 20; refine (sub_l 31 _ [twoB p.w, twoB p.h] (sizeB p.w p.h) _ rfl (rd2 hm12) (HG2.out.at hwx (by omega)) (by rw [sizeB_len]; decide) (by simp) (by decide)).mono ?_; rintro e wy ⟨rfl, hby⟩; exact ⟨_, rfl, rfl, hby⟩)))); (try go_simp))
  (refine wz_new (fun b => .slice (some ⟨b, 0, none⟩) 2 2) _ _ (by decide) (by decide) (by decide) C0e.es (growsB (by simp)) (by first | rfl | (go_simp; done)) (by intro b b' h; simp at h; omega) (by simp) (fun _ _ h => Below.size h) (fun bs hok wx hwx hL => by (have hwx : Below _ _ wx := hwx; have hcx := cellA hwx; have hfx := frozA hwx; have hzx := hwx.size; (try simp at hzx)); (try simp [go_sem, BigFrame.eval_const, BigFrame.eval_global, BigFrame.eval_func, ↓IntWalk.iteOmega, *]); first | done | rfl) ?_; intro b12 hb12 F12 hF12; (try simp at hb12); (try go_simp))
  (refine wz_do (by decide) (by decide) C0e.es (growsB (by simp)) ?_ ?_; (focus (first | rfl | (go_simp; done))); apply Exists.intro; refine ⟨fun bs hok wx hwx hL => ?_, ?_⟩; (focus ((have hwx : Below _ _ wx := hwx; have hcx := cellA hwx; have hfx := frozA hwx; have hzx := hwx.size; (try simp at hzx)); (try (have hm12 := hF12 _ (hL (12, F12) (by simp) (by kernel_rfl)); have hk12 := cell_blk hm12)); unfold zAt; (try simp [go_sem, BigFrame.eval_const, BigFrame.eval_global, BigFrame.eval_func, ↓IntWalk.iteOmega, *]); (try simp only [zUpon]); (first | exact ⟨rfl, Below.refl _ _⟩ | (refine ⟨rfl, ?_⟩; go_at_call 39; refine (two_any _ _ (by omega) (by omega)).mono ?_; rintro e wy ⟨rfl, hby⟩; exact ⟨_, rfl, rfl, hby⟩) | (refine ⟨rfl, ?_⟩; go_at_call 20; refine (sub_l 31 _ [twoB p.w, twoB p.h] (sizeB p.w p.h) _ rfl (rd2 hm12) (HG2.out.at hwx (by omega)) (by rw [sizeB_len]; decide) (by simp) (by decide)).mono ?_; rintro e wy ⟨rfl, hby⟩; exact ⟨_, rfl, rfl, hby⟩)))); (try go_simp))
  (refine wz_do (by decide) (by decide) C0e.es (growsB (by simp)) ?_ ?_; (focus (first | rfl | (go_simp; done))); apply Exists.intro; refine ⟨fun bs hok wx hwx hL => ?_, ?_⟩; (focus ((have hwx : Below _ _ wx := hwx; have hcx := cellA hwx; have hfx := frozA hwx; have hzx := hwx.size; (try simp at hzx)); (try (have hm12 := hF12 _ (hL (12, F12) (by simp) (by kernel_rfl)); have hk12 := cell_blk hm12)); unfold zAt; (try simp [go_sem, BigFrame.eval_const, BigFrame.eval_global, BigFrame.eval_func, ↓IntWalk.iteOmega, *]); (try simp only [zUpon]); (first | exact ⟨rfl, Below.refl _ _⟩ | (refine ⟨rfl, ?_⟩; go_at_call 39; refine (two_any _ _ (by omega) (by omega)).mono ?_; rintro e wy ⟨rfl, hby⟩; exact ⟨_, rfl, rfl, hby⟩) | (refine ⟨rfl, ?_⟩; go_at_call 20; refine (sub_l 31 _ [twoB p.w, twoB p.h] (sizeB p.w p.h) _ rfl (rd2 hm12) (HG2.out.at hwx (by omega)) (by rw [sizeB_len]; decide) (by simp) (by decide)).mono ?_; rintro e wy ⟨rfl, hby⟩; exact ⟨_, rfl, rfl, hby⟩)))); (try go_simp))
  (refine wz_do (by decide) (by decide) C0e.es (growsB (by simp)) ?_ ?_; (focus (first | rfl | (go_simp; done))); apply Exists.intro; refine ⟨fun bs hok wx hwx hL => ?_, ?_⟩; (focus ((have hwx : Below _ _ wx := hwx; have hcx := cellA hwx; have hfx := frozA hwx; have hzx := hwx.size; (try simp at hzx)); (try (have hm12 := hF12 _ (hL (12, F12) (by simp) (by kernel_rfl)); have hk12 := cell_blk hm12)); unfold zAt; (try simp [go_sem, BigFrame.eval_const, BigFrame.eval_global, BigFrame.eval_func, ↓IntWalk.iteOmega, *]); (try simp only [zUpon]); (first | exact ⟨rfl, Below.refl _ _⟩ | (refine ⟨rfl, ?_⟩; go_at_call 39; refine (two_any _ _ (by omega) (by omega)).mono ?_; rintro e wy ⟨rfl, hby⟩; exact ⟨_, rfl, rfl, hby⟩) | (refine ⟨rfl, ?_⟩; go_at_call 20; refine (sub_l 31 _ [twoB p.w, twoB p.h] (sizeB p.w p.h) _ rfl (rd2 hm12) (HG2.out.at hwx (by omega)) (by rw [sizeB_len]; decide) (by simp) (by decide)).mono ?_; rintro e wy ⟨rfl, hby⟩; exact ⟨_, rfl, rfl, hby⟩)))); (try go_simp))
  (refine wz_do (by decide) (by decide) C0e.es (growsB (by simp)) ?_ ?_; (focus (first | rfl | (go_simp; done))); apply Exists.intro; refine ⟨fun bs hok wx hwx hL => ?_, ?_⟩; (focus ((have hwx : Below _ _ wx := hwx; have hcx := cellA hwx; have hfx := frozA hwx; have hzx := hwx.size; (try simp at hzx)); (try (have hm12 := hF12 _ (hL (12, F12) (by simp) (by kernel_rfl)); have hk12 := cell_blk hm12)); unfold zAt; (try simp [go_sem, BigFrame.eval_const, BigFrame.eval_global, BigFrame.eval_func, ↓IntWalk.iteOmega, *]); (try simp only [zUpon]); (first | exact ⟨rfl, Below.refl _ _⟩ | (refine ⟨rfl, ?_⟩; go_at_call 39; refine (two_any _ _ (by omega) (by omega)).mono ?_; rintro e wy ⟨rfl, hby⟩; exact ⟨_, rfl, rfl, hby⟩) | (refine ⟨rfl, ?_⟩; go_at_call 20; refine (sub_l 31 _ [twoB p.w, twoB p.h] (sizeB p.w p.h) _ rfl (rd2 hm12) (HG2.out.at hwx (by omega)) (by rw [sizeB_len]; decide) (by simp) (by decide)).mono ?_; rintro e wy ⟨rfl, hby⟩; exact ⟨_, rfl, rfl, hby⟩)))); (try go_simp))
  (refine wz_do (by decide) (by decide) C0e.es (growsB (by simp)) ?_ ?_; (focus (first | rfl | (go_simp; done))); apply Exists.intro; refine ⟨fun bs hok wx hwx hL => ?_, ?_⟩; (focus ((have hwx : Below _ _ wx := hwx; have hcx := cellA hwx; have hfx := frozA hwx; have hzx := hwx.size; (try simp at hzx)); (try (have hm12 := hF12 _ (hL (12, F12) (by simp) (by kernel_rfl)); have hk12 := cell_blk hm12)); unfold zAt; (try simp [go_sem, BigFrame.eval_const, BigFrame.eval_global, BigFrame.eval_func, ↓IntWalk.iteOmega, *]); (try simp only [zUpon]); (first | exact ⟨rfl, Below.refl _ _⟩ | (refine ⟨rfl, ?_⟩; go_at_call 39; refine (two_any _ _ (by omega) (by omega)).mono ?_; rintro e wy ⟨rfl, hby⟩; exact ⟨_, rfl, rfl, hby⟩) | (refine ⟨rfl, ?_⟩; go_at_call 20; refine (sub_l 31 _ [twoB p.w, twoB p.h] (sizeB p.w p.h) _ rfl (rd2 hm12) (HG2.out.at hwx (by omega)) (by rw [sizeB_len]; decide) (by simp) (by decide)).mono ?_; rintro e wy ⟨rfl, hby⟩; exact ⟨_, rfl, rfl, hby⟩)))); (try go_simp))
  (refine wz_do (by decide) (by decide) C0e.es (growsB (by simp)) ?_ ?_; (focus (first | rfl | (go_simp; done))); apply Exists.intro; refine ⟨fun bs hok wx hwx hL => ?_, ?_⟩; (focus ((have hwx : Below _ _ wx := hwx; have hcx := cellA hwx; have hfx := frozA hwx; have hzx := hwx.size; (try simp at hzx)); (try (have hm12 := hF12 _ (hL (12, F12) (by simp) (by kernel_rfl)); have hk12 := cell_blk hm12)); unfold zAt; (try simp [go_sem, BigFrame.eval_const, BigFrame.eval_global, BigFrame.eval_func, ↓IntWalk.iteOmega, *]); (try simp only [zUpon]); (first | exact ⟨rfl, Below.refl _ _⟩ | (refine ⟨rfl, ?_⟩; go_at_call 39; refine (two_any _ _ (by omega) (by omega)).mono ?_; rintro e wy ⟨rfl, hby⟩; exact ⟨_, rfl, rfl, hby⟩) | (refine ⟨rfl, ?_⟩; go_at_call 20; refine (sub_l 31 _ [twoB p.w, twoB p.h] (sizeB p.w p.h) _ rfl (rd2 hm12) (HG2.out.at hwx (by omega)) (by rw [sizeB_len]; decide) (by simp) (by decide)).mono ?_; rintro e wy ⟨rfl, hby⟩; exact ⟨_, rfl, rfl, hby⟩)))); (try go_simp))
  refine wz_nil ?_
  intro wq hbq hLq
  have hm12 := hF12 _ (hLq.get 12 (by simp))
  obtain ⟨hk12, hx12, hg12, hy12, hl12⟩ := blk hm12
  clear hLq hF12
  have hcwq := cellA hbq
  have hfwq := frozA hbq
  have hzwq := hbq.size
  try simp at hzwq
  go_wp2_with fail
  go_ret
  exact ⟨⟨rfl, HS2.out.below (by simpa using hbq)⟩⟩
end Go.Proofs.YtjlamnioknbcaaaDoor.P3
