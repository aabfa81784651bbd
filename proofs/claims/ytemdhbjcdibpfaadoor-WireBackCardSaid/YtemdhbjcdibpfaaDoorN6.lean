/- step, once, Feed -/
import Derived.Test.YtemdhbjcdibpfaaDoorN5
namespace Go.Proofs.YtemdhbjcdibpfaaDoor.N6
set_option maxRecDepth 100000
set_option linter.unusedVariables false
set_option linter.unusedSimpArgs false
set_option linter.unnecessarySimpa false
open Go.RowKit K1 K3 K5 K11 K12 K14 N0 N1 N2 N3 N4 N5
attribute [local go_sem] cell_pastA froz_pastA
theorem tab1_ne (k : Nat) : tab 1 k ≠ 11 := by unfold tab; split <;> simp_all
set_option maxHeartbeats 4000000 in
theorem inner_give (b : Nat) (S : List Nat) (r : Rd) (c : UInt8) (w : World) (hO : Rdr w b S true r) (hN : r.data.length < 1099511627775) (hM : r.out.length < 1099511627775) :
    Calls Tryd.prog 42 #[.pointer (some ⟨b, 0, none⟩), .int .i64 11, u8 c] w fun e w' => e = .returned (.tuple #[]) ∧ ∃ S', Rdr w' b S' true (step0 { r with st := 1, sub := [] } (tab 1 (cls c)) c) ∧ Mut w S w' S' := by
  have HO := Lib.hid hO
  obtain ⟨sv, dv, ov, rfl, hR⟩ := hO
  have HR := Lib.hid hR
  obtain ⟨c0, c34, c35, c36, c37, c38, c39, c40, c41, cf, hlt⟩ := hR.cells
  have HNS := Lib.hid (Rdr.noSub (r' := { r with st := 1, sub := [] }) (w2 := (w.setCell ⟨b, 34, none⟩ (.int .i64 1)).setCell ⟨b, 38, none⟩ (.slice none 0 0)) hR (by repeat' (first | with_reducible assumption | with_reducible exact Fr.refl _ _ _ | with_reducible apply Fr.alloc | (with_reducible apply Fr.setCell <;> first | (left; simp; done) | (right; simp; done) | (right; simp; omega) | skip) | with_reducible apply Fr.drew | (refine Fr.trans ?_ (Fr.of_below (Below.mono (by with_reducible assumption) ?_))) | omega | (simp; omega) | (simp; done))) ((blk_set (blk_set hR.blk)).trans rfl) rfl rfl rfl (by simp))
  clear hR
  unfold u8
  go_enter Tryd.func42, Tryd.ntmps42
  go_wp2_with fail
  obtain ⟨S1, h1, h2⟩ := HNS.out
  refine (step_core b S1 { r with st := 1, sub := [] } c _ h1 (tab1_ne _) hN hM (by simp)).mono ?_
  rintro e w1 ⟨rfl, S2, hO1, hM1⟩
  have HH := Lib.hid (And.intro hO1 (h2.trans hM1))
  clear hO1 hM1 h1 h2
  go_wp2_with fail
  (first | go_end0 | refine bodyPost_ret (results_none rfl _ _ _) rfl ?_)
  exact ⟨rfl, S2, HH.out.1, HH.out.2⟩
set_option maxHeartbeats 4000000 in
theorem step_any (b : Nat) (S : List Nat) (r : Rd) (c : UInt8) (w : World) (hO : Rdr w b S true r) (hN : r.data.length < 1099511627775) (hM : r.out.length < 1099511627775) (hS : r.sub.length ≤ 40) :
    Calls Tryd.prog 30 #[.pointer (some ⟨b, 0, none⟩), u8 c] w fun e w' => e = .returned (.tuple #[]) ∧ ∃ S', Rdr w' b S' true (stepF r c) ∧ Mut w S w' S' := by
  by_cases hg : tab r.st (cls c) = 11
  · have e : stepF r c = step0 { r with st := 1, sub := [] } (tab 1 (cls c)) c := if_pos hg
    rw [e]
    have HO := Lib.hid hO
    obtain ⟨sv, dv, ov, rfl, hR⟩ := hO
    have HR := Lib.hid hR
    obtain ⟨c0, c34, c35, c36, c37, c38, c39, c40, c41, cf, hlt⟩ := hR.cells
    have hst := hR.st
    have hcl := cls_lt c
    have hct : w.cell? ⟨b, 4 + r.st * 5 + cls c, none⟩ = some (.int .i64 11) := by
      have := (cell_blk hR.blk _).trans (tab_cell _ _ hst hcl r sv dv ov)
      rw [hg] at this
      exact this
    have hi1 : (0 : Int) ≤ (r.st : Int) := by omega
    have hi2 : (r.st : Int) < 6 := by omega
    have hi3 : (0 : Int) ≤ (cls c : Int) := by omega
    have hi4 : (cls c : Int) < 5 := by omega
    clear hR hg e
    unfold u8
    go_enter Tryd.func30, Tryd.ntmps30
    go_wp2_with fail
    refine wp_region_quiet0 (w := _) [] [] 13 (by kernel_rfl) (by kernel_rfl) (fun _ _ dx _ _ hx => by cases dx <;> exact hx) ?_
    simp only [numbered, List.take_succ_cons, List.take_zero, List.drop_succ_cons, List.drop_zero, List.take_nil, List.drop_nil, Nat.reduceAdd]
    (refine wz_do (by decide) (by decide) C0e.es (growsB (by simp)) ?_ ?_; (focus (first | rfl | (go_simp; done))); apply Exists.intro; refine ⟨fun bs hok wx hwx hL => ?_, ?_⟩; (focus ((have hwx : Below _ _ wx := hwx; have hcx := cellA hwx; have hfx := frozA hwx; have hzx := hwx.size; (try simp at hzx)); unfold zAt; (try simp [go_sem, BigFrame.eval_const, BigFrame.eval_global, BigFrame.eval_func, ↓IntWalk.iteOmega, *]); (try simp only [zUpon]); (first | exact ⟨rfl, Below.refl _ _⟩ | (refine ⟨rfl, ?_⟩; go_at_call 39; refine (class_any _ _).mono ?_; rintro e wy ⟨rfl, rfl⟩; exact ⟨_, rfl, rfl, Below.refl _ _⟩)))); (try go_simp))
    (refine wz_do (by decide) (by decide) C0e.es (growsB (by simp)) ?_ ?_; (focus (first | rfl | (go_simp; done))); apply Exists.intro; refine ⟨fun bs hok wx hwx hL => ?_, ?_⟩; (focus ((have hwx : Below _ _ wx := hwx; have hcx := cellA hwx; have hfx := frozA hwx; have hzx := hwx.size; (try simp at hzx)); unfold zAt; (try simp [go_sem, BigFrame.eval_const, BigFrame.eval_global, BigFrame.eval_func, ↓IntWalk.iteOmega, *]); (try simp only [zUpon]); (first | exact ⟨rfl, Below.refl _ _⟩ | (refine ⟨rfl, ?_⟩; go_at_call 39; refine (class_any _ _).mono ?_; rintro e wy ⟨rfl, rfl⟩; exact ⟨_, rfl, rfl, Below.refl _ _⟩)))); (try go_simp))
    (refine wz_do (by decide) (by decide) C0e.es (growsB (by simp)) ?_ ?_; (focus (first | rfl | (go_simp; done))); apply Exists.intro; refine ⟨fun bs hok wx hwx hL => ?_, ?_⟩; (focus ((have hwx : Below _ _ wx := hwx; have hcx := cellA hwx; have hfx := frozA hwx; have hzx := hwx.size; (try simp at hzx)); unfold zAt; (try simp [go_sem, BigFrame.eval_const, BigFrame.eval_global, BigFrame.eval_func, ↓IntWalk.iteOmega, *]); (try simp only [zUpon]); (first | exact ⟨rfl, Below.refl _ _⟩ | (refine ⟨rfl, ?_⟩; go_at_call 39; refine (class_any _ _).mono ?_; rintro e wy ⟨rfl, rfl⟩; exact ⟨_, rfl, rfl, Below.refl _ _⟩)))); (try go_simp))
    (refine wz_do (by decide) (by decide) C0e.es (growsB (by simp)) ?_ ?_; (focus (first | rfl | (go_simp; done))); apply Exists.intro; refine ⟨fun bs hok wx hwx hL => ?_, ?_⟩; (focus ((have hwx : Below _ _ wx := hwx; have hcx := cellA hwx; have hfx := frozA hwx; have hzx := hwx.size; (try simp at hzx)); unfold zAt; (try simp [go_sem, BigFrame.eval_const, BigFrame.eval_global, BigFrame.eval_func, ↓IntWalk.iteOmega, *]); (try simp only [zUpon]); (first | exact ⟨rfl, Below.refl _ _⟩ | (refine ⟨rfl, ?_⟩; go_at_call 39; refine (class_any _ _).mono ?_; rintro e wy ⟨rfl, rfl⟩; exact ⟨_, rfl, rfl, Below.refl _ _⟩)))); (try go_simp))
    (refine wz_do (by decide) (by decide) C0e.es (growsB (by simp)) ?_ ?_; (focus (first | rfl | (go_simp; done))); apply Exists.intro; refine ⟨fun bs hok wx hwx hL => ?_, ?_⟩; (focus ((have hwx : Below _ _ wx := hwx; have hcx := cellA hwx; have hfx := frozA hwx; have hzx := hwx.size; (try simp at hzx)); unfold zAt; (try simp [go_sem, BigFrame.eval_const, BigFrame.eval_global, BigFrame.eval_func, ↓IntWalk.iteOmega, *]); (try simp only [zUpon]); (first | exact ⟨rfl, Below.refl _ _⟩ | (refine ⟨rfl, ?_⟩; go_at_call 39; refine (class_any _ _).mono ?_; rintro e wy ⟨rfl, rfl⟩; exact ⟨_, rfl, rfl, Below.refl _ _⟩)))); (try go_simp))
    (refine wz_do (by decide) (by decide) C0e.es (growsB (by simp)) ?_ ?_; (focus (first | rfl | (go_simp; done))); apply Exists.intro; refine ⟨fun bs hok wx hwx hL => ?_, ?_⟩; (focus ((have hwx : Below _ _ wx := hwx; have hcx := cellA hwx; have hfx := frozA hwx; have hzx := hwx.size; (try simp at hzx)); unfold zAt; (try simp [go_sem, BigFrame.eval_const, BigFrame.eval_global, BigFrame.eval_func, ↓IntWalk.iteOmega, *]); (try simp only [zUpon]); (first | exact ⟨rfl, Below.refl _ _⟩ | (refine ⟨rfl, ?_⟩; go_at_call 39; refine (class_any _ _).mono ?_; rintro e wy ⟨rfl, rfl⟩; exact ⟨_, rfl, rfl, Below.refl _ _⟩)))); (try go_simp))
    (refine wz_do (by decide) (by decide) C0e.es (growsB (by simp)) ?_ ?_; (focus (first | rfl | (go_simp; done))); apply Exists.intro; refine ⟨fun bs hok wx hwx hL => ?_, ?_⟩; (focus ((have hwx : Below _ _ wx := hwx; have hcx := cellA hwx; have hfx := frozA hwx; have hzx := hwx.size; (try simp at hzx)); unfold zAt; (try simp [go_sem, BigFrame.eval_const, BigFrame.eval_global, BigFrame.eval_func, ↓IntWalk.iteOmega, *]); (try simp only [zUpon]); (first | exact ⟨rfl, Below.refl _ _⟩ | (refine ⟨rfl, ?_⟩; go_at_call 39; refine (class_any _ _).mono ?_; rintro e wy ⟨rfl, rfl⟩; exact ⟨_, rfl, rfl, Below.refl _ _⟩)))); (try go_simp))
    (refine wz_do (by decide) (by decide) C0e.es (growsB (by simp)) ?_ ?_; (focus (first | rfl | (go_simp; done))); apply Exists.intro; refine ⟨fun bs hok wx hwx hL => ?_, ?_⟩; (focus ((have hwx : Below _ _ wx := hwx; have hcx := cellA hwx; have hfx := frozA hwx; have hzx := hwx.size; (try simp at hzx)); unfold zAt; (try simp [go_sem, BigFrame.eval_const, BigFrame.eval_global, BigFrame.eval_func, ↓IntWalk.iteOmega, *]); (try simp only [zUpon]); (first | exact ⟨rfl, Below.refl _ _⟩ | (refine ⟨rfl, ?_⟩; go_at_call 39; refine (class_any _ _).mono ?_; rintro e wy ⟨rfl, rfl⟩; exact ⟨_, rfl, rfl, Below.refl _ _⟩)))); (try go_simp))
    (refine wz_do (by decide) (by decide) C0e.es (growsB (by simp)) ?_ ?_; (focus (first | rfl | (go_simp; done))); apply Exists.intro; refine ⟨fun bs hok wx hwx hL => ?_, ?_⟩; (focus ((have hwx : Below _ _ wx := hwx; have hcx := cellA hwx; have hfx := frozA hwx; have hzx := hwx.size; (try simp at hzx)); unfold zAt; (try simp [go_sem, BigFrame.eval_const, BigFrame.eval_global, BigFrame.eval_func, ↓IntWalk.iteOmega, *]); (try simp only [zUpon]); (first | exact ⟨rfl, Below.refl _ _⟩ | (refine ⟨rfl, ?_⟩; go_at_call 39; refine (class_any _ _).mono ?_; rintro e wy ⟨rfl, rfl⟩; exact ⟨_, rfl, rfl, Below.refl _ _⟩)))); (try go_simp))
    (refine wz_do (by decide) (by decide) C0e.es (growsB (by simp)) ?_ ?_; (focus (first | rfl | (go_simp; done))); apply Exists.intro; refine ⟨fun bs hok wx hwx hL => ?_, ?_⟩; (focus ((have hwx : Below _ _ wx := hwx; have hcx := cellA hwx; have hfx := frozA hwx; have hzx := hwx.size; (try simp at hzx)); unfold zAt; (try simp [go_sem, BigFrame.eval_const, BigFrame.eval_global, BigFrame.eval_func, ↓IntWalk.iteOmega, *]); (try simp only [zUpon]); (first | exact ⟨rfl, Below.refl _ _⟩ | (refine ⟨rfl, ?_⟩; go_at_call 39; refine (class_any _ _).mono ?_; rintro e wy ⟨rfl, rfl⟩; exact ⟨_, rfl, rfl, Below.refl _ _⟩)))); (try go_simp))
    (refine wz_do (by decide) (by decide) C0e.es (growsB (by simp)) ?_ ?_; (focus (first | rfl | (go_simp; done))); apply Exists.intro; refine ⟨fun bs hok wx hwx hL => ?_, ?_⟩; (focus ((have hwx : Below _ _ wx := hwx; have hcx := cellA hwx; have hfx := frozA hwx; have hzx := hwx.size; (try simp at hzx)); unfold zAt; (try simp [go_sem, BigFrame.eval_const, BigFrame.eval_global, BigFrame.eval_func, ↓IntWalk.iteOmega, *]); (try simp only [zUpon]); (first | exact ⟨rfl, Below.refl _ _⟩ | (refine ⟨rfl, ?_⟩; go_at_call 39; refine (class_any _ _).mono ?_; rintro e wy ⟨rfl, rfl⟩; exact ⟨_, rfl, rfl, Below.refl _ _⟩)))); (try go_simp))
    (refine wz_do (by decide) (by decide) C0e.es (growsB (by simp)) ?_ ?_; (focus (first | rfl | (go_simp; done))); apply Exists.intro; refine ⟨fun bs hok wx hwx hL => ?_, ?_⟩; (focus ((have hwx : Below _ _ wx := hwx; have hcx := cellA hwx; have hfx := frozA hwx; have hzx := hwx.size; (try simp at hzx)); unfold zAt; (try simp [go_sem, BigFrame.eval_const, BigFrame.eval_global, BigFrame.eval_func, ↓IntWalk.iteOmega, *]); (try simp only [zUpon]); (first | exact ⟨rfl, Below.refl _ _⟩ | (refine ⟨rfl, ?_⟩; go_at_call 39; refine (class_any _ _).mono ?_; rintro e wy ⟨rfl, rfl⟩; exact ⟨_, rfl, rfl, Below.refl _ _⟩)))); (try go_simp))
    (refine wz_do (by decide) (by decide) C0e.es (growsB (by simp)) ?_ ?_; (focus (first | rfl | (go_simp; done))); apply Exists.intro; refine ⟨fun bs hok wx hwx hL => ?_, ?_⟩; (focus ((have hwx : Below _ _ wx := hwx; have hcx := cellA hwx; have hfx := frozA hwx; have hzx := hwx.size; (try simp at hzx)); unfold zAt; (try simp [go_sem, BigFrame.eval_const, BigFrame.eval_global, BigFrame.eval_func, ↓IntWalk.iteOmega, *]); (try simp only [zUpon]); (first | exact ⟨rfl, Below.refl _ _⟩ | (refine ⟨rfl, ?_⟩; go_at_call 39; refine (class_any _ _).mono ?_; rintro e wy ⟨rfl, rfl⟩; exact ⟨_, rfl, rfl, Below.refl _ _⟩)))); (try go_simp))
    refine wz_nil ?_
    intro wq hbq hLq
    clear hLq 
    have hcwq := cellA hbq
    have hfwq := frozA hbq
    have hzwq := hbq.size
    try simp at hzwq
    have HRq := Lib.hid (Rep.below HR.out hbq)
    have HMq := Lib.hid (Mut.of_below (S := ftR b sv dv ov) hbq)
    go_wp2_with (go_at_call 42; refine (inner_give b _ r c _ ⟨_, _, _, rfl, HRq.out⟩ hN hM).mono ?_; rintro e w1 ⟨rfl, S1, hO1, hM1⟩)
    (first | go_end0 | refine bodyPost_ret (results_none rfl _ _ _) rfl ?_)
    exact ⟨rfl, S1, hO1, HMq.out.trans hM1⟩
  · have e : stepF r c = step0 r (tab r.st (cls c)) c := if_neg hg
    rw [e]
    exact step_core b S r c w hO hg hN hM hS
def tail8 (r : Rd) (sv dv ov : Value) : Prop := True
set_option maxHeartbeats 4000000 in
theorem do_any (b : Nat) (S : List Nat) (o : Bool) (r : Rd) (w : World) (hO : Rdr w b S o r) :
    Calls Tryd.prog 28 #[.pointer (some ⟨b, 1, none⟩), .func (.func 29) #[.pointer (some ⟨b, 0, none⟩)] #[]] w fun e w' => e = .returned (.tuple #[]) ∧ Rdr w' b S true r ∧ Mut w S w' S := by
  obtain ⟨sv, dv, ov, rfl, hR⟩ := hO
  have hk := cell_blk hR.blk
  have hf := froz_blk hR.blk
  cases o
  · have hb0 : w.heap[b]? = some (.cells (cellsX (.bool r.bin) (.int .u32 0) (.int .i32 0) (.int .u32 0) (.int .i64 r.st) (.bool r.after) (.int .i64 r.cmd) (.int .i64 r.opt) sv (.bool r.long) dv ov (tabP 0)) 57 (0, 0)) := hR.blk
    refine (do_fill b 1 #[.pointer (some ⟨b, 0, none⟩)] w (fun w' => w'.heap[b]? = some (.cells (cellsX (.bool r.bin) (.int .u32 0) (.int .i32 1) (.int .u32 0) (.int .i64 r.st) (.bool r.after) (.int .i64 r.cmd) (.int .i64 r.opt) sv (.bool r.long) dv ov tabCells) 57 (0, 0)) ∧ Fr w.heap.size [b] w w') (hk 1) (hk 2) (hf 1) (hf 2) ?_ ?_).mono ?_
    · refine (fill_any b _ _ _ _ _ _ _ _ _ _ _ _ _ ((blk_set hb0).trans rfl)).mono fun e w' ⟨h1, h2, h3⟩ => ⟨h1, h2, ?_⟩
      exact ((Fr.refl w.heap.size [b] w).setCell (by simp) _).trans (h3.mono (by simp) (by simp))
    · rintro w' ⟨h1, h2⟩
      exact ⟨cell_blk h1 1, cell_blk h1 2, froz_blk h1 1, froz_blk h1 2⟩
    · rintro e w'' ⟨rfl, w', ⟨h1, h2⟩, rfl⟩
      have hF : Fr w.heap.size [b] w ((w'.drew.setCell ⟨b, 1, none⟩ (.int .u32 1)).setCell ⟨b, 2, none⟩ (.int .i32 0)) := (h2.drew.setCell (by simp) _).setCell (by simp) _
      obtain ⟨a1, a2, a3, a4, a5, a6⟩ := hR.ne
      have ns : ∀ v : Value, (∀ k ∈ foot v, k ≠ b) → ∀ k ∈ foot v, k ∉ [b] := fun v hv k hk => by simpa using hv k hk
      exact ⟨rfl, ⟨sv, dv, ov, rfl, (blk_set (blk_set (blk_drew h1))).trans rfl, own_fr hR.sub hF (Nat.le_refl _) (ns _ a1), own_fr hR.dat hF (Nat.le_refl _) (ns _ a2), own_fr hR.out hF (Nat.le_refl _) (ns _ a3), hR.st, hR.apart⟩, Mut.put hF⟩
  · refine (do_done ⟨b, 1, none⟩ 1 (by decide) _ w (hk 1)).mono ?_
    rintro e w' ⟨rfl, rfl⟩
    exact ⟨rfl, ⟨_, _, _, rfl, hR⟩, Mut.refl _ _⟩
end Go.Proofs.YtemdhbjcdibpfaaDoor.N6
