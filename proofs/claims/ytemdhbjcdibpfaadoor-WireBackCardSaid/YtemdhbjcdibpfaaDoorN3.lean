/- step, inner -/
import Derived.Test.YtemdhbjcdibpfaaDoorN2
namespace Go.Proofs.YtemdhbjcdibpfaaDoor.N3
set_option maxRecDepth 100000
set_option linter.unusedVariables false
set_option linter.unusedSimpArgs false
set_option linter.unnecessarySimpa false
open Go.RowKit K1 K3 K5 K11 K12 K14 N0 N1 N2
attribute [local go_sem] cell_pastA froz_pastA
theorem cls_lt (c : UInt8) : cls c < 5 := by unfold cls; (repeat' split) <;> omega
theorem tab_lt (s k : Nat) : tab s k ≤ 11 := by unfold tab; split <;> omega
theorem tab_pos (s k : Nat) : 1 ≤ tab s k := by unfold tab; split <;> omega
theorem tab_cell (s k : Nat) (hs : s < 6) (hk : k < 5) (r : Rd) (sv dv ov : Value) : (cellsR true r sv dv ov)[4 + s * 5 + k]? = some (.int .i64 (tab s k)) := by
  have h1 : s = 0 ∨ s = 1 ∨ s = 2 ∨ s = 3 ∨ s = 4 ∨ s = 5 := by omega
  have h2 : k = 0 ∨ k = 1 ∨ k = 2 ∨ k = 3 ∨ k = 4 := by omega
  rcases h1 with rfl | rfl | rfl | rfl | rfl | rfl <;> rcases h2 with rfl | rfl | rfl | rfl | rfl <;> rfl
set_option maxHeartbeats 4000000 in
theorem inner_core (b : Nat) (S : List Nat) (r : Rd) (a : Nat) (c : UInt8) (w : World) (hO : Rdr w b S true r) (ha : a = 7 ∨ a = 8 ∨ a = 9 ∨ a = 10) (hN : r.data.length < 1099511627775) (hM : r.out.length < 1099511627775) (hS : r.sub.length ≤ 40) :
    Calls Tryd.prog 42 #[.pointer (some ⟨b, 0, none⟩), .int .i64 a, u8 c] w fun e w' => e = .returned (.tuple #[]) ∧ ∃ S', Rdr w' b S' true (step0 r a c) ∧ Mut w S w' S' := by
  have HO := Lib.hid hO
  obtain ⟨sv, dv, ov, rfl, hR⟩ := hO
  have HR := Lib.hid hR
  obtain ⟨c0, c34, c35, c36, c37, c38, c39, c40, c41, cf, hlt⟩ := hR.cells
  have HC0 := hR.sub
  obtain ⟨sa, sc, rfl, hsa⟩ := own_slice hR.sub
  obtain ⟨nsb, ndb, nob, nsd, nso, ndo⟩ := hR.ne
  have HCV : ∀ x, Below w.heap.size (w.setCell ⟨b, 34, none⟩ (.int .i64 0)) x → (convert 54 9 (.slice sa r.sub.length sc)).run Tryd.prog x = .ok (.string ⟨r.sub.toArray⟩) x := fun x hx =>
    conv_own (own_keep HC0 fun k hk => (hx.block k (own_lt HC0 k hk)).trans (blk_other (nsb k hk))) rfl
  clear hR HC0
  obtain ⟨i0, hi, hz0, hz1, hz2⟩ := info_parts info5
  have HI := Lib.hid hi
  have hw : wrap64 (c.toNat : Int) = (c.toNat : Int) := by have := c.toNat_lt; unfold wrap64; omega
  unfold u8
  rcases ha with rfl | rfl | rfl | rfl
  · go_enter Tryd.func42, Tryd.ntmps42
    go_wp2_with fail
    all_goals
      (first | go_end0 | refine bodyPost_ret (results_none rfl _ _ _) rfl ?_)
      refine ⟨rfl, Rdr.noSub (r' := { r with st := 4, opt := c.toNat, sub := [], long := false }) HR.out ?_ ((blk_set (blk_set (blk_set (blk_set HR.out.blk)))).trans rfl) rfl rfl rfl (by simp)⟩
      repeat' (first | with_reducible assumption | with_reducible exact Fr.refl _ _ _ | with_reducible apply Fr.alloc | (with_reducible apply Fr.setCell <;> first | (left; simp; done) | (right; simp; done) | (right; simp; omega) | skip) | with_reducible apply Fr.drew | (refine Fr.trans ?_ (Fr.of_below (Below.mono (by with_reducible assumption) ?_))) | omega | (simp; omega) | (simp; done))
  · by_cases hl : r.sub.length < 40
    · have hlb : decide ((r.sub.length : Int) < 40) = true := by simp; omega
      have e : step0 r 8 c = { r with st := 4, sub := r.sub ++ [c] } := if_pos hl
      rw [e]
      go_enter Tryd.func42, Tryd.ntmps42
      go_wp2_with (at_builtin; refine wpList_append_lies _ rfl (.tmp 38) (.tmp 40) 54 rfl 0 5 i0 (.int .u8 0) 1 1 Tryd.underlying54 HI.out hz0 hz1 hz2 rfl (by decide) (.slice sa r.sub.length sc) _ _ rfl (own_fr HR.out.sub (show Fr w.heap.size [b] w _ by repeat' (first | with_reducible assumption | with_reducible exact Fr.refl _ _ _ | with_reducible apply Fr.alloc | (with_reducible apply Fr.setCell <;> first | (left; simp; done) | (right; simp; done) | (right; simp; omega) | skip) | with_reducible apply Fr.drew | (refine Fr.trans ?_ (Fr.of_below (Below.mono (by with_reducible assumption) ?_))) | omega | (simp; omega) | (simp; done))) (Nat.le_refl _) (fun k hk => by simpa using nsb k hk)) ⟨_, 0, none⟩ 1 1 _ rfl (by rfl) (news1 _ _ _ _ (by simp)) (by simp [Value.oneCell']) (by omega) (by unfold maxLen; omega) (by omega) (Nat.zero_le _) _ rfl ?_; intro g cap w1 hown' hgrow hat hlg; have hcg := fun i => hgrow.cell_far ⟨b, i, none⟩ (by simp; omega) (by intro e; exact nsb b (mem_foot.2 e.symm) rfl); have hfg := fun i => hgrow.frozen_far ⟨b, i, none⟩ (by simp; omega) (by intro e; exact nsb b (mem_foot.2 e.symm) rfl))
      have hb1 := (hgrow.block b (by simp; omega) (fun e => nsb b (mem_foot.2 e.symm) rfl)).trans (blk_alloc (blk_set HR.out.blk))
      have hFa := Fr.app (S' := b :: foot (.slice sa r.sub.length sc)) (w := w) (B := w.heap.size) (S := [b]) (by repeat' (first | with_reducible assumption | with_reducible exact Fr.refl _ _ _ | with_reducible apply Fr.alloc | (with_reducible apply Fr.setCell <;> first | (left; simp; done) | (right; simp; done) | (right; simp; omega) | skip) | with_reducible apply Fr.drew | (refine Fr.trans ?_ (Fr.of_below (Below.mono (by with_reducible assumption) ?_))) | omega | (simp; omega) | (simp; done))) hgrow (by simp) (by simp) (by intro k hk; simp [hk])
      have hF2 := hFa.setCell (p := ⟨b, 38, none⟩) (by simp) (.slice (some ⟨g, 0, none⟩) (r.sub.length + 1) cap)
      have hgb : g ≠ b := by
        rcases hat with h | h
        · exact fun e => nsb g (mem_foot.2 h) e
        · simp at h; omega
      (first | go_end0 | refine bodyPost_ret (results_none rfl _ _ _) rfl ?_)
      refine ⟨rfl, Rdr.gen (sv' := .slice (some ⟨g, 0, none⟩) (r.sub.length + 1) cap) HR.out (hF2.mono (Nat.le_refl _) (by simp [ftR]; intro k hk; simp [hk])) ((blk_set hb1).trans ?_) ?_ (own_fr HR.out.dat hF2 (Nat.le_refl _) (fun k hk => by simp only [List.mem_cons, not_or]; exact ⟨ndb k hk, fun h => nsd k h hk⟩)) (own_fr HR.out.out hF2 (Nat.le_refl _) (fun k hk => by simp only [List.mem_cons, not_or]; exact ⟨nob k hk, fun h => nso k h hk⟩)) (by simp) (foot_app hat (by simp)) (fun k h => .inl h) (fun k h => .inl h)
        (fun k hk _ hm => absurd (own_lt HR.out.dat k hm) (by omega)) (fun k hk _ hm => absurd (own_lt HR.out.out k hm) (by omega)) (fun k hk hm => absurd (own_lt HR.out.dat k hm) (by omega))⟩
      · simp [cellsR, tabCells]
      · have := own_keep (w' := w1.setCell ⟨b, 38, none⟩ (.slice (some ⟨g, 0, none⟩) (r.sub.length + 1) cap)) hown' (fun k hk => by simp at hk; subst hk; exact blk_other hgb)
        simpa [u8] using this
    · have hlb : decide ((r.sub.length : Int) < 40) = false := by simp; omega
      have e : step0 r 8 c = { r with st := 4, long := true } := if_neg hl
      rw [e]
      go_enter Tryd.func42, Tryd.ntmps42
      go_wp2_with fail
      all_goals
        (first | go_end0 | refine bodyPost_ret (results_none rfl _ _ _) rfl ?_)
        refine ⟨rfl, _, Rdr.put (r' := { r with st := 4, long := true }) HR.out ?_ ((blk_set (blk_set HR.out.blk)).trans rfl) rfl rfl rfl (by simp)⟩
        repeat' (first | with_reducible assumption | with_reducible exact Fr.refl _ _ _ | with_reducible apply Fr.alloc | (with_reducible apply Fr.setCell <;> first | (left; simp; done) | (right; simp; done) | (right; simp; omega) | skip) | with_reducible apply Fr.drew | (refine Fr.trans ?_ (Fr.of_below (Below.mono (by with_reducible assumption) ?_))) | omega | (simp; omega) | (simp; done))
  · go_enter Tryd.func42, Tryd.ntmps42
    go_wp2_with fail
    all_goals
      (first | go_end0 | refine bodyPost_ret (results_none rfl _ _ _) rfl ?_)
      refine ⟨rfl, _, Rdr.put (r' := { r with st := 5 }) HR.out ?_ ((blk_set HR.out.blk).trans rfl) rfl rfl rfl (by simp)⟩
      repeat' (first | with_reducible assumption | with_reducible exact Fr.refl _ _ _ | with_reducible apply Fr.alloc | (with_reducible apply Fr.setCell <;> first | (left; simp; done) | (right; simp; done) | (right; simp; omega) | skip) | with_reducible apply Fr.drew | (refine Fr.trans ?_ (Fr.of_below (Below.mono (by with_reducible assumption) ?_))) | omega | (simp; omega) | (simp; done))
  · cases hlg : r.long
    · rw [hlg] at c39
      have e : step0 r 10 c = { (tellF { r with st := 0 } ⟨3, 0, r.opt, r.sub⟩) with sub := [] } := by obtain ⟨_, _, _, _, _, _, lg, _, _⟩ := r; simp only at hlg; subst hlg; rfl
      rw [e]
      go_enter Tryd.func42, Tryd.ntmps42
      go_wp2_with fail
      refine wp_region_quiet0 (w := _) [] [] 11 (by kernel_rfl) (by kernel_rfl) (fun _ _ dx _ _ hx => by cases dx <;> exact hx) ?_
      simp only [numbered, List.take_succ_cons, List.take_zero, List.drop_succ_cons, List.drop_zero, List.take_nil, List.drop_nil, Nat.reduceAdd]
      (refine wz_do (by decide) (by decide) C0e.es (growsB (by simp)) ?_ ?_; (focus (first | rfl | (go_simp; done))); apply Exists.intro; refine ⟨fun bs hok wx hwx hL => ?_, ?_⟩; (focus ((have hwx : Below _ _ wx := hwx; have hcx := cellA hwx; have hfx := frozA hwx; have hzx := hwx.size; (try simp at hzx)); unfold zAt; (try simp [go_sem, BigFrame.eval_const, BigFrame.eval_global, BigFrame.eval_func, ↓IntWalk.iteOmega, *]); (try simp only [zUpon]); (first | exact ⟨rfl, Below.refl _ _⟩ | fail))); (try go_simp))
      (refine wz_do (by decide) (by decide) C0e.es (growsB (by simp)) ?_ ?_; (focus (first | rfl | (go_simp; done))); apply Exists.intro; refine ⟨fun bs hok wx hwx hL => ?_, ?_⟩; (focus ((have hwx : Below _ _ wx := hwx; have hcx := cellA hwx; have hfx := frozA hwx; have hzx := hwx.size; (try simp at hzx)); unfold zAt; (try simp [go_sem, BigFrame.eval_const, BigFrame.eval_global, BigFrame.eval_func, ↓IntWalk.iteOmega, *]); (try simp only [zUpon]); (first | exact ⟨rfl, Below.refl _ _⟩ | fail))); (try go_simp))
      (refine wz_do (by decide) (by decide) C0e.es (growsB (by simp)) ?_ ?_; (focus (first | rfl | (go_simp; done))); apply Exists.intro; refine ⟨fun bs hok wx hwx hL => ?_, ?_⟩; (focus ((have hwx : Below _ _ wx := hwx; have hcx := cellA hwx; have hfx := frozA hwx; have hzx := hwx.size; (try simp at hzx)); unfold zAt; (try simp [go_sem, BigFrame.eval_const, BigFrame.eval_global, BigFrame.eval_func, ↓IntWalk.iteOmega, *]); (try simp only [zUpon]); (first | exact ⟨rfl, Below.refl _ _⟩ | fail))); (try go_simp))
      (refine wz_do (by decide) (by decide) C0e.es (growsB (by simp)) ?_ ?_; (focus (first | rfl | (go_simp; done))); apply Exists.intro; refine ⟨fun bs hok wx hwx hL => ?_, ?_⟩; (focus ((have hwx : Below _ _ wx := hwx; have hcx := cellA hwx; have hfx := frozA hwx; have hzx := hwx.size; (try simp at hzx)); unfold zAt; (try simp [go_sem, BigFrame.eval_const, BigFrame.eval_global, BigFrame.eval_func, ↓IntWalk.iteOmega, *]); (try simp only [zUpon]); (first | exact ⟨rfl, Below.refl _ _⟩ | fail))); (try go_simp))
      (refine wz_do (by decide) (by decide) C0e.es (growsB (by simp)) ?_ ?_; (focus (first | rfl | (go_simp; done))); apply Exists.intro; refine ⟨fun bs hok wx hwx hL => ?_, ?_⟩; (focus ((have hwx : Below _ _ wx := hwx; have hcx := cellA hwx; have hfx := frozA hwx; have hzx := hwx.size; (try simp at hzx)); unfold zAt; (try simp [go_sem, BigFrame.eval_const, BigFrame.eval_global, BigFrame.eval_func, ↓IntWalk.iteOmega, *]); (try simp only [zUpon]); (first | exact ⟨rfl, Below.refl _ _⟩ | fail))); (try go_simp))
      (refine wz_do (by decide) (by decide) C0e.es (growsB (by simp)) ?_ ?_; (focus (first | rfl | (go_simp; done))); apply Exists.intro; refine ⟨fun bs hok wx hwx hL => ?_, ?_⟩; (focus ((have hwx : Below _ _ wx := hwx; have hcx := cellA hwx; have hfx := frozA hwx; have hzx := hwx.size; (try simp at hzx)); unfold zAt; (try simp [go_sem, BigFrame.eval_const, BigFrame.eval_global, BigFrame.eval_func, ↓IntWalk.iteOmega, *]); (try simp only [zUpon]); (first | exact ⟨rfl, Below.refl _ _⟩ | fail))); (try go_simp))
      (refine wz_do (by decide) (by decide) C0e.es (growsB (by simp)) ?_ ?_; (focus (first | rfl | (go_simp; done))); apply Exists.intro; refine ⟨fun bs hok wx hwx hL => ?_, ?_⟩; (focus ((have hwx : Below _ _ wx := hwx; have hcx := cellA hwx; have hfx := frozA hwx; have hzx := hwx.size; (try simp at hzx)); unfold zAt; (try simp [go_sem, BigFrame.eval_const, BigFrame.eval_global, BigFrame.eval_func, ↓IntWalk.iteOmega, *]); (try simp only [zUpon]); (first | exact ⟨rfl, Below.refl _ _⟩ | fail))); (try go_simp))
      (refine wz_do (by decide) (by decide) C0e.es (growsB (by simp)) ?_ ?_; (focus (first | rfl | (go_simp; done))); apply Exists.intro; refine ⟨fun bs hok wx hwx hL => ?_, ?_⟩; (focus ((have hwx : Below _ _ wx := hwx; have hcx := cellA hwx; have hfx := frozA hwx; have hzx := hwx.size; (try simp at hzx)); unfold zAt; (try simp [go_sem, BigFrame.eval_const, BigFrame.eval_global, BigFrame.eval_func, ↓IntWalk.iteOmega, *]); (try simp only [zUpon]); (first | exact ⟨rfl, Below.refl _ _⟩ | fail))); (try go_simp))
      (refine wz_do (by decide) (by decide) C0e.es (growsB (by simp)) ?_ ?_; (focus (first | rfl | (go_simp; done))); apply Exists.intro; refine ⟨fun bs hok wx hwx hL => ?_, ?_⟩; (focus ((have hwx : Below _ _ wx := hwx; have hcx := cellA hwx; have hfx := frozA hwx; have hzx := hwx.size; (try simp at hzx)); unfold zAt; (try simp [go_sem, BigFrame.eval_const, BigFrame.eval_global, BigFrame.eval_func, ↓IntWalk.iteOmega, *]); (try simp only [zUpon]); (first | exact ⟨rfl, Below.refl _ _⟩ | fail))); (try go_simp))
      (refine wz_do (by decide) (by decide) C0e.es (growsB (by simp)) ?_ ?_; (focus (first | rfl | (go_simp; done))); apply Exists.intro; refine ⟨fun bs hok wx hwx hL => ?_, ?_⟩; (focus ((have hwx : Below _ _ wx := hwx; have hcx := cellA hwx; have hfx := frozA hwx; have hzx := hwx.size; (try simp at hzx)); unfold zAt; (try simp [go_sem, BigFrame.eval_const, BigFrame.eval_global, BigFrame.eval_func, ↓IntWalk.iteOmega, *]); (try simp only [zUpon]); (first | exact ⟨rfl, Below.refl _ _⟩ | fail))); (try go_simp))
      (refine wz_do (by decide) (by decide) C0e.es (growsB (by simp)) ?_ ?_; (focus (first | rfl | (go_simp; done))); apply Exists.intro; refine ⟨fun bs hok wx hwx hL => ?_, ?_⟩; (focus ((have hwx : Below _ _ wx := hwx; have hcx := cellA hwx; have hfx := frozA hwx; have hzx := hwx.size; (try simp at hzx)); unfold zAt; (try simp [go_sem, BigFrame.eval_const, BigFrame.eval_global, BigFrame.eval_func, ↓IntWalk.iteOmega, *]); (try simp only [zUpon]); (first | exact ⟨rfl, Below.refl _ _⟩ | fail))); (try go_simp))
      refine wz_nil ?_
      intro wq hbq hLq
      clear hLq 
      have hcwq := cellA hbq
      have hfwq := frozA hbq
      have hzwq := hbq.size
      try simp at hzwq
      have HR2 : Rep wq b true { r with st := 0 } (.slice sa r.sub.length sc) dv ov := Rep.below (Rep.put (w2 := w.setCell ⟨b, 34, none⟩ (.int .i64 0)) HR.out (by repeat' (first | with_reducible assumption | with_reducible exact Fr.refl _ _ _ | with_reducible apply Fr.alloc | (with_reducible apply Fr.setCell <;> first | (left; simp; done) | (right; simp; done) | (right; simp; omega) | skip) | with_reducible apply Fr.drew | (refine Fr.trans ?_ (Fr.of_below (Below.mono (by with_reducible assumption) ?_))) | omega | (simp; omega) | (simp; done))) ((blk_set HR.out.blk).trans rfl) rfl rfl rfl (by simp)) (by simpa using hbq)
      have HM2 : Mut w (ftR b (.slice sa r.sub.length sc) dv ov) wq (ftR b (.slice sa r.sub.length sc) dv ov) := (Mut.put (w2 := w.setCell ⟨b, 34, none⟩ (.int .i64 0)) (by repeat' (first | with_reducible assumption | with_reducible exact Fr.refl _ _ _ | with_reducible apply Fr.alloc | (with_reducible apply Fr.setCell <;> first | (left; simp; done) | (right; simp; done) | (right; simp; omega) | skip) | with_reducible apply Fr.drew | (refine Fr.trans ?_ (Fr.of_below (Below.mono (by with_reducible assumption) ?_))) | omega | (simp; omega) | (simp; done)))).trans (Mut.of_below (by simpa using hbq))
      have HR2 := Lib.hid HR2
      have HM2 := Lib.hid HM2
      go_wp2_with (go_at_call 41; refine (tell_any b _ { r with st := 0 } ⟨3, 0, r.opt, r.sub⟩ _ ⟨_, _, _, rfl, HR2.out⟩ (by simp; omega) (by simp; omega)).mono ?_; rintro e w1 ⟨rfl, S1, hO1, hM1⟩; obtain ⟨sv1, dv1, ov1, rfl, hR1⟩ := hO1; have HRt := Lib.hid hR1; obtain ⟨d0, d34, d35, d36, d37, d38, d39, d40, d41, df, dlt⟩ := hR1.cells; clear hR1)
      (first | go_end0 | refine bodyPost_ret (results_none rfl _ _ _) rfl ?_)
      obtain ⟨S2, h2, h3⟩ := Rdr.noSub (r' := { tellF { r with st := 0 } ⟨3, 0, r.opt, r.sub⟩ with sub := [] }) (w2 := w1.setCell ⟨b, 38, none⟩ (.slice none 0 0)) HRt.out (by repeat' (first | with_reducible assumption | with_reducible exact Fr.refl _ _ _ | with_reducible apply Fr.alloc | (with_reducible apply Fr.setCell <;> first | (left; simp; done) | (right; simp; done) | (right; simp; omega) | skip) | with_reducible apply Fr.drew | (refine Fr.trans ?_ (Fr.of_below (Below.mono (by with_reducible assumption) ?_))) | omega | (simp; omega) | (simp; done))) ((blk_set HRt.out.blk).trans rfl) rfl rfl rfl HRt.out.st
      exact ⟨rfl, S2, h2, HM2.out.trans (hM1.trans h3)⟩
    · rw [hlg] at c39
      have e : step0 r 10 c = { r with st := 0, sub := [] } := by obtain ⟨_, _, _, _, _, _, lg, _, _⟩ := r; simp only at hlg; subst hlg; rfl
      rw [e]
      go_enter Tryd.func42, Tryd.ntmps42
      go_wp2_with fail
      all_goals
        (first | go_end0 | refine bodyPost_ret (results_none rfl _ _ _) rfl ?_)
        refine ⟨rfl, Rdr.noSub (r' := { r with st := 0, sub := [] }) HR.out ?_ ((blk_set (blk_set HR.out.blk)).trans rfl) rfl rfl rfl (by simp)⟩
        repeat' (first | with_reducible assumption | with_reducible exact Fr.refl _ _ _ | with_reducible apply Fr.alloc | (with_reducible apply Fr.setCell <;> first | (left; simp; done) | (right; simp; done) | (right; simp; omega) | skip) | with_reducible apply Fr.drew | (refine Fr.trans ?_ (Fr.of_below (Below.mono (by with_reducible assumption) ?_))) | omega | (simp; omega) | (simp; done))
set_option maxHeartbeats 2000000 in
theorem step_core (b : Nat) (S : List Nat) (r : Rd) (c : UInt8) (w : World) (hO : Rdr w b S true r) (hg : tab r.st (cls c) ≠ 11) (hN : r.data.length < 1099511627775) (hM : r.out.length < 1099511627775) (hS : r.sub.length ≤ 40) :
    Calls Tryd.prog 30 #[.pointer (some ⟨b, 0, none⟩), u8 c] w fun e w' => e = .returned (.tuple #[]) ∧ ∃ S', Rdr w' b S' true (step0 r (tab r.st (cls c)) c) ∧ Mut w S w' S' := by
  have HO := Lib.hid hO
  obtain ⟨sv, dv, ov, rfl, hR⟩ := hO
  have HR := Lib.hid hR
  obtain ⟨c0, c34, c35, c36, c37, c38, c39, c40, c41, cf, hlt⟩ := hR.cells
  have hst := hR.st
  have hcl := cls_lt c
  have hct : w.cell? ⟨b, 4 + r.st * 5 + cls c, none⟩ = some (.int .i64 (tab r.st (cls c))) := (cell_blk hR.blk _).trans (tab_cell _ _ hst hcl _ _ _ _)
  have hi1 : (0 : Int) ≤ (r.st : Int) := by omega
  have hi2 : (r.st : Int) < 6 := by omega
  have hi3 : (0 : Int) ≤ (cls c : Int) := by omega
  have hi4 : (cls c : Int) < 5 := by omega
  have hw : wrap64 (c.toNat : Int) = (c.toNat : Int) := by have := c.toNat_lt; unfold wrap64; omega
  clear hR
  unfold u8
  have h1 := tab_lt r.st (cls c)
  have h2 := tab_pos r.st (cls c)
  generalize tab r.st (cls c) = a at *
  go_enter Tryd.func30, Tryd.ntmps30
  go_wp2_with fail
  refine wp_region_quiet0 (w := _) [] [] 13 (by kernel_rfl) (by kernel_rfl) (fun _ _ dx _ _ hx => by cases dx <;> exact hx) ?_
  simp only [numbered, List.take_succ_cons, List.take_zero, List.drop_succ_cons, List.drop_zero, List.take_nil, List.drop_nil, Nat.reduceAdd]
  (refine wz_do (by decide) (by decide) C0e.es (growsB (by simp)) ?_ ?_; (focus (first | rfl | (go_simp; done))); apply Exists.intro; refine ⟨fun bs hok wx hwx hL => ?_, ?_⟩; (focus ((have hwx : Below _ _ wx := hwx; have hcx := cellA hwx; have hfx := frozA hwx; have hzx := hwx.size; (try simp at hzx)); unfold zAt; (try simp [go_sem, BigFrame.eval_const, BigFrame.eval_global, BigFrame.eval_func, ↓IntWalk.iteOmega, *]); (try simp only [zUpon]); (first | exact ⟨rfl, Below.refl _ _⟩ | (refine ⟨rfl, ?_⟩; go_at_call 39; refine (class_any _ _).mono ?_; rintro e wy ⟨rfl, rfl⟩; exact ⟨_, rfl, rfl, Below.refl _ _⟩)))); (try go_simp))
  (refine wz_do (by decide) (by decide) C0e.es (growsB (by simp)) ?_ ?_; (focus (first | rfl | (go_simp; done))); apply Exists.intro; refine ⟨fun bs hok wx hwx hL => ?_, ?_⟩; (focus ((have hwx : Below _ _ wx := hwx; have hcx := cellA hwx; have hfx := frozA hwx; have hzx := hwx.size; (try simp at hzx)); unfold zAt; (try simp [go_sem, BigFrame.eval_const, BigFrame.eval_global, BigFrame.eval_func, ↓IntWalk.iteOmega, *]); (try simp only [zUpon]); (first | exact ⟨rfl, Below.refl _ _⟩ | (refine ⟨rfl, ?_⟩; go_at_call 39; refine (class_any _ _).mono ?_; rintro e wy ⟨rfl, rfl⟩; exact ⟨_, rfl, rfl, Below.refl _ _⟩)))); (try go_simp))
  (refine wz_do (by decide) (by decide) C0e.es (growsB (by simp)) ?_ ?_; (focus (first | rfl | (go_simp; done))); apply Exists.intro; refine ⟨fun bs hok wx hwx hL => ?_, ?_⟩; (focus ((have hwx : Below _ _ wx := hwx; have hcx := cellA hwx; have hfx := frozA hwx; have hzx := hwx.size; (try simp at hzx)); unfold zAt; (try simp [go_sem, BigFrame.eval_const, BigFrame.eval_global, BigFrame.eval_func, ↓IntWalk.iteOmega, *]); (try simp only [zUpon]); (first | exact ⟨rfl, Below.refl _ _⟩ | (refine ⟨rfl, ?_⟩; go_at_call 39; refine (class_any _ _).mono ?_; rintro e wy ⟨rfl, rfl⟩; exact ⟨_, rfl, rfl, Below.refl _ _⟩)))); (try go_simp))
  (refine wz_do (by decide) (by decide) C0e.es (growsB (by simp)) ?_ ?_; (focus (first | rfl | (go_simp; done))); apply Exists.intro; refine ⟨fun bs hok wx hwx hL => ?_, ?_⟩; (focus ((have hwx : Below _ _ wx := hwx; have hcx := cellA hwx; have hfx := frozA hwx; have hzx := hwx.size; (try simp at hzx)); unfold zAt; (try simp [go_sem, BigFrame.eval_const, BigFrame.eval_global, BigFrame.eval_func, ↓IntWalk.iteOmega, *]); (try simp only [zUpon]); (first | exact ⟨rfl, Below.refl _ _⟩ | (refine ⟨rfl, ?_⟩; go_at_call 39; refine (class_any _ _).mono ?_; rintro e wy ⟨rfl, rfl⟩; exact ⟨_, rfl, rfl, Below.refl _ _⟩)))); (try go_simp))
  (refine wz_do (by decide) (by decide) C0e.es (growsB (by simp)) ?_ ?_; (focus (first | rfl | (go_simp; done))); apply Exists.intro; refine ⟨fun bs hok wx hwx hL => ?_, ?_⟩; (focus ((have hwx : Below _ _ wx := hwx; have hcx := cellA hwx; have hfx := frozA hwx; have hzx := hwx.size; (try simp at hzx)); unfold zAt; (try simp [go_sem, BigFrame.eval_const, BigFrame.eval_global, BigFrame.eval_func, ↓IntWalk.iteOmega, *]); (try simp only [zUpon]); (first | exact ⟨rfl, Below.refl _ _⟩ | (refine ⟨rfl, ?_⟩; go_at_call 39; refine (class_any _ _).mono ?_; rintro e wy ⟨rfl, rfl⟩; exact ⟨_, rfl, rfl, Below.refl _ _⟩)))); (try go_simp))
  (refine wz_do (by decide) (by decide) C0e.es (growsB (by simp)) ?_ ?_; (focus (first | rfl | (go_simp; done))); apply Exists.intro; refine ⟨fun bs hok wx hwx hL => ?_, ?_⟩; (focus ((have hwx : Below _ _ wx := hwx; have hcx := cellA hwx; have hfx := frozA hwx; have hzx := hwx.size; (try simp at hzx)); unfold zAt; (try simp [go_sem, BigFrame.eval_const, BigFrame.eval_global, BigFrame.eval_func, ↓IntWalk.iteOmega, *]); (try simp only [zUpon]); (first | exact ⟨rfl, Below.refl _ _⟩ | (refine ⟨rfl, ?_⟩; go_at_call 39; refine (class_any _ _).mono ?_; rintro e wy ⟨rfl, rfl⟩; exact ⟨_, rfl, rfl, Below.refl _ _⟩)))); (try go_simp))
  (refine wz_do (by decide) (by decide) C0e.es (growsB (by simp)) ?_ ?_; (focus (first | rfl | (go_simp; done))); apply Exists.intro; refine ⟨fun bs hok wx hwx hL => ?_, ?_⟩; (focus ((have hwx : Below _ _ wx := hwx; have hcx := cellA hwx; have hfx := frozA hwx; have hzx := hwx.size; (try simp at hzx)); unfold zAt; (try simp [go_sem, BigFrame.eval_const, BigFrame.eval_global, BigFrame.eval_func, ↓IntWalk.iteOmega, *]); (try simp only [zUpon]); (first | exact ⟨rfl, Below.refl _ _⟩ | (refine ⟨rfl, ?_⟩; go_at_call 39; refine (class_any _ _).mono ?_; rintro e wy ⟨rfl, rfl⟩; exact ⟨_, rfl, rfl, Below.refl _ _⟩)))); (try go_simp))
  (refine wz_do (by decide) (by decide) C0e.es (growsB (by simp)) ?_ ?_; (focus (first | rfl | (go_simp; done))); apply Exists.intro; refine ⟨fun bs hok wx hwx hL => ?_, ?_⟩; (focus ((have hwx : Below _ _ wx := hwx; have hcx := cellA hwx; have hfx := frozA hwx; have hzx := hwx.size; (try simp at hzx)); unfold zAt; (try simp [go_sem, BigFrame.eval_const, BigFrame.eval_global, BigFrame.eval_func, ↓IntWalk.iteOmega, *]); (try simp only [zUpon]); (first | exact ⟨rfl, Below.refl _ _⟩ | (refine ⟨rfl, ?_⟩; go_at_call 39; refine (class_any _ _).mono ?_; rintro e wy ⟨rfl, rfl⟩; exact ⟨_, rfl, rfl, Below.refl _ _⟩)))); (try go_simp))
  (refine wz_do (by decide) (by decide) C0e.es (growsB (by simp)) ?_ ?_; (focus (first | rfl | (go_simp; done))); apply Exists.intro; refine ⟨fun bs hok wx hwx hL => ?_, ?_⟩; (focus ((have hwx : Below _ _ wx := hwx; have hcx := cellA hwx; have hfx := frozA hwx; have hzx := hwx.size; (try simp at hzx)); unfold zAt; (try simp [go_sem, BigFrame.eval_const, BigFrame.eval_global, BigFrame.eval_func, ↓IntWalk.iteOmega, *]); (try simp only [zUpon]); (first | exact ⟨rfl, Below.refl _ _⟩ | (refine ⟨rfl, ?_⟩; go_at_call 39; refine (class_any _ _).mono ?_; rintro e wy ⟨rfl, rfl⟩; exact ⟨_, rfl, rfl, Below.refl _ _⟩)))); (try go_simp))
  (refine wz_do (by decide) (by decide) C0e.es (growsB (by simp)) ?_ ?_; (focus (first | rfl | (go_simp; done))); apply Exists.intro; refine ⟨fun bs hok wx hwx hL => ?_, ?_⟩; (focus ((have hwx : Below _ _ wx := hwx; have hcx := cellA hwx; have hfx := frozA hwx; have hzx := hwx.size; (try simp at hzx)); unfold zAt; (try simp [go_sem, BigFrame.eval_const, BigFrame.eval_global, BigFrame.eval_func, ↓IntWalk.iteOmega, *]); (try simp only [zUpon]); (first | exact ⟨rfl, Below.refl _ _⟩ | (refine ⟨rfl, ?_⟩; go_at_call 39; refine (class_any _ _).mono ?_; rintro e wy ⟨rfl, rfl⟩; exact ⟨_, rfl, rfl, Below.refl _ _⟩)))); (try go_simp))
  (refine wz_do (by decide) (by decide) C0e.es (growsB (by simp)) ?_ ?_; (focus (first | rfl | (go_simp; done))); apply Exists.intro; refine ⟨fun bs hok wx hwx hL => ?_, ?_⟩; (focus ((have hwx : Below _ _ wx := hwx; have hcx := cellA hwx; have hfx := frozA hwx; have hzx := hwx.size; (try simp at hzx)); unfold zAt; (try simp [go_sem, BigFrame.eval_const, BigFrame.eval_global, BigFrame.eval_func, ↓IntWalk.iteOmega, *]); (try simp only [zUpon]); (first | exact ⟨rfl, Below.refl _ _⟩ | (refine ⟨rfl, ?_⟩; go_at_call 39; refine (class_any _ _).mono ?_; rintro e wy ⟨rfl, rfl⟩; exact ⟨_, rfl, rfl, Below.refl _ _⟩)))); (try go_simp))
  (refine wz_do (by decide) (by decide) C0e.es (growsB (by simp)) ?_ ?_; (focus (first | rfl | (go_simp; done))); apply Exists.intro; refine ⟨fun bs hok wx hwx hL => ?_, ?_⟩; (focus ((have hwx : Below _ _ wx := hwx; have hcx := cellA hwx; have hfx := frozA hwx; have hzx := hwx.size; (try simp at hzx)); unfold zAt; (try simp [go_sem, BigFrame.eval_const, BigFrame.eval_global, BigFrame.eval_func, ↓IntWalk.iteOmega, *]); (try simp only [zUpon]); (first | exact ⟨rfl, Below.refl _ _⟩ | (refine ⟨rfl, ?_⟩; go_at_call 39; refine (class_any _ _).mono ?_; rintro e wy ⟨rfl, rfl⟩; exact ⟨_, rfl, rfl, Below.refl _ _⟩)))); (try go_simp))
  (refine wz_do (by decide) (by decide) C0e.es (growsB (by simp)) ?_ ?_; (focus (first | rfl | (go_simp; done))); apply Exists.intro; refine ⟨fun bs hok wx hwx hL => ?_, ?_⟩; (focus ((have hwx : Below _ _ wx := hwx; have hcx := cellA hwx; have hfx := frozA hwx; have hzx := hwx.size; (try simp at hzx)); unfold zAt; (try simp [go_sem, BigFrame.eval_const, BigFrame.eval_global, BigFrame.eval_func, ↓IntWalk.iteOmega, *]); (try simp only [zUpon]); (first | exact ⟨rfl, Below.refl _ _⟩ | (refine ⟨rfl, ?_⟩; go_at_call 39; refine (class_any _ _).mono ?_; rintro e wy ⟨rfl, rfl⟩; exact ⟨_, rfl, rfl, Below.refl _ _⟩)))); (try go_simp))
  refine wz_nil ?_
  intro wq hbq hLq
  clear hLq 
  have hcwq := cellA hbq
  have hfwq := frozA hbq
  have hzwq := hbq.size
  try simp at hzwq
  have ha : a = 1 ∨ a = 2 ∨ a = 3 ∨ a = 4 ∨ a = 5 ∨ a = 6 ∨ a = 7 ∨ a = 8 ∨ a = 9 ∨ a = 10 := by omega
  have HRq := Lib.hid (Rep.below HR.out hbq)
  have HMq := Lib.hid (Mut.of_below (S := ftR b sv dv ov) hbq)
  rcases ha with rfl | rfl | rfl | rfl | rfl | rfl | rfl | rfl | rfl | rfl
  · go_wp2_with (go_at_call 40; refine (byte_any b _ { r with st := 0 } c _ ⟨_, _, _, rfl, Rep.put (r' := { r with st := 0 }) HRq.out (by repeat' (first | with_reducible assumption | with_reducible exact Fr.refl _ _ _ | with_reducible apply Fr.alloc | (with_reducible apply Fr.setCell <;> first | (left; simp; done) | (right; simp; done) | (right; simp; omega) | skip) | with_reducible apply Fr.drew | (refine Fr.trans ?_ (Fr.of_below (Below.mono (by with_reducible assumption) ?_))) | omega | (simp; omega) | (simp; done))) ((blk_set HRq.out.blk).trans rfl) rfl rfl rfl (by simp)⟩ (by simp; omega)).mono ?_; rintro e w1 ⟨rfl, S1, hO1, hM1⟩)
    (first | go_end0 | refine bodyPost_ret (results_none rfl _ _ _) rfl ?_)
    exact ⟨rfl, S1, hO1, HMq.out.trans ((Mut.put (by repeat' (first | with_reducible assumption | with_reducible exact Fr.refl _ _ _ | with_reducible apply Fr.alloc | (with_reducible apply Fr.setCell <;> first | (left; simp; done) | (right; simp; done) | (right; simp; omega) | skip) | with_reducible apply Fr.drew | (refine Fr.trans ?_ (Fr.of_below (Below.mono (by with_reducible assumption) ?_))) | omega | (simp; omega) | (simp; done)))).trans hM1)⟩
  · go_wp2_with fail
    (first | go_end0 | refine bodyPost_ret (results_none rfl _ _ _) rfl ?_)
    exact ⟨rfl, _, ⟨_, _, _, rfl, Rep.put (r' := { r with st := 1, after := false }) HRq.out (by repeat' (first | with_reducible assumption | with_reducible exact Fr.refl _ _ _ | with_reducible apply Fr.alloc | (with_reducible apply Fr.setCell <;> first | (left; simp; done) | (right; simp; done) | (right; simp; omega) | skip) | with_reducible apply Fr.drew | (refine Fr.trans ?_ (Fr.of_below (Below.mono (by with_reducible assumption) ?_))) | omega | (simp; omega) | (simp; done))) ((blk_set (blk_set HRq.out.blk)).trans rfl) rfl rfl rfl (by simp)⟩, HMq.out.trans (Mut.put (by repeat' (first | with_reducible assumption | with_reducible exact Fr.refl _ _ _ | with_reducible apply Fr.alloc | (with_reducible apply Fr.setCell <;> first | (left; simp; done) | (right; simp; done) | (right; simp; omega) | skip) | with_reducible apply Fr.drew | (refine Fr.trans ?_ (Fr.of_below (Below.mono (by with_reducible assumption) ?_))) | omega | (simp; omega) | (simp; done))))⟩
  · go_wp2_with (go_at_call 41; refine (tell_any b _ { r with st := 0 } ⟨1, c.toNat, 0, []⟩ _ ⟨_, _, _, rfl, Rep.put (r' := { r with st := 0 }) HRq.out (by repeat' (first | with_reducible assumption | with_reducible exact Fr.refl _ _ _ | with_reducible apply Fr.alloc | (with_reducible apply Fr.setCell <;> first | (left; simp; done) | (right; simp; done) | (right; simp; omega) | skip) | with_reducible apply Fr.drew | (refine Fr.trans ?_ (Fr.of_below (Below.mono (by with_reducible assumption) ?_))) | omega | (simp; omega) | (simp; done))) ((blk_set HRq.out.blk).trans rfl) rfl rfl rfl (by simp)⟩ (by simp; omega) (by simp; omega)).mono ?_; rintro e w1 ⟨rfl, S1, hO1, hM1⟩)
    (first | go_end0 | refine bodyPost_ret (results_none rfl _ _ _) rfl ?_)
    exact ⟨rfl, S1, hO1, HMq.out.trans ((Mut.put (by repeat' (first | with_reducible assumption | with_reducible exact Fr.refl _ _ _ | with_reducible apply Fr.alloc | (with_reducible apply Fr.setCell <;> first | (left; simp; done) | (right; simp; done) | (right; simp; omega) | skip) | with_reducible apply Fr.drew | (refine Fr.trans ?_ (Fr.of_below (Below.mono (by with_reducible assumption) ?_))) | omega | (simp; omega) | (simp; done)))).trans hM1)⟩
  · go_wp2_with fail
    (first | go_end0 | refine bodyPost_ret (results_none rfl _ _ _) rfl ?_)
    exact ⟨rfl, _, ⟨_, _, _, rfl, Rep.put (r' := { r with st := 2, cmd := c.toNat }) HRq.out (by repeat' (first | with_reducible assumption | with_reducible exact Fr.refl _ _ _ | with_reducible apply Fr.alloc | (with_reducible apply Fr.setCell <;> first | (left; simp; done) | (right; simp; done) | (right; simp; omega) | skip) | with_reducible apply Fr.drew | (refine Fr.trans ?_ (Fr.of_below (Below.mono (by with_reducible assumption) ?_))) | omega | (simp; omega) | (simp; done))) ((blk_set (blk_set HRq.out.blk)).trans rfl) rfl rfl rfl (by simp)⟩, HMq.out.trans (Mut.put (by repeat' (first | with_reducible assumption | with_reducible exact Fr.refl _ _ _ | with_reducible apply Fr.alloc | (with_reducible apply Fr.setCell <;> first | (left; simp; done) | (right; simp; done) | (right; simp; omega) | skip) | with_reducible apply Fr.drew | (refine Fr.trans ?_ (Fr.of_below (Below.mono (by with_reducible assumption) ?_))) | omega | (simp; omega) | (simp; done))))⟩
  · go_wp2_with (go_at_call 41; refine (tell_any b _ { r with st := 0 } ⟨2, r.cmd, c.toNat, []⟩ _ ⟨_, _, _, rfl, Rep.put (r' := { r with st := 0 }) HRq.out (by repeat' (first | with_reducible assumption | with_reducible exact Fr.refl _ _ _ | with_reducible apply Fr.alloc | (with_reducible apply Fr.setCell <;> first | (left; simp; done) | (right; simp; done) | (right; simp; omega) | skip) | with_reducible apply Fr.drew | (refine Fr.trans ?_ (Fr.of_below (Below.mono (by with_reducible assumption) ?_))) | omega | (simp; omega) | (simp; done))) ((blk_set HRq.out.blk).trans rfl) rfl rfl rfl (by simp)⟩ (by simp; omega) (by simp; omega)).mono ?_; rintro e w1 ⟨rfl, S1, hO1, hM1⟩)
    (first | go_end0 | refine bodyPost_ret (results_none rfl _ _ _) rfl ?_)
    exact ⟨rfl, S1, hO1, HMq.out.trans ((Mut.put (by repeat' (first | with_reducible assumption | with_reducible exact Fr.refl _ _ _ | with_reducible apply Fr.alloc | (with_reducible apply Fr.setCell <;> first | (left; simp; done) | (right; simp; done) | (right; simp; omega) | skip) | with_reducible apply Fr.drew | (refine Fr.trans ?_ (Fr.of_below (Below.mono (by with_reducible assumption) ?_))) | omega | (simp; omega) | (simp; done)))).trans hM1)⟩
  · go_wp2_with fail
    (first | go_end0 | refine bodyPost_ret (results_none rfl _ _ _) rfl ?_)
    exact ⟨rfl, _, ⟨_, _, _, rfl, Rep.put (r' := { r with st := 3 }) HRq.out (by repeat' (first | with_reducible assumption | with_reducible exact Fr.refl _ _ _ | with_reducible apply Fr.alloc | (with_reducible apply Fr.setCell <;> first | (left; simp; done) | (right; simp; done) | (right; simp; omega) | skip) | with_reducible apply Fr.drew | (refine Fr.trans ?_ (Fr.of_below (Below.mono (by with_reducible assumption) ?_))) | omega | (simp; omega) | (simp; done))) ((blk_set HRq.out.blk).trans rfl) rfl rfl rfl (by simp)⟩, HMq.out.trans (Mut.put (by repeat' (first | with_reducible assumption | with_reducible exact Fr.refl _ _ _ | with_reducible apply Fr.alloc | (with_reducible apply Fr.setCell <;> first | (left; simp; done) | (right; simp; done) | (right; simp; omega) | skip) | with_reducible apply Fr.drew | (refine Fr.trans ?_ (Fr.of_below (Below.mono (by with_reducible assumption) ?_))) | omega | (simp; omega) | (simp; done))))⟩
  · go_wp2_with (go_at_call 42; refine (inner_core b _ r 7 c _ ⟨_, _, _, rfl, HRq.out⟩ (by omega) hN hM hS).mono ?_; rintro e w1 ⟨rfl, S1, hO1, hM1⟩)
    (first | go_end0 | refine bodyPost_ret (results_none rfl _ _ _) rfl ?_)
    exact ⟨rfl, S1, hO1, HMq.out.trans hM1⟩
  · go_wp2_with (go_at_call 42; refine (inner_core b _ r 8 c _ ⟨_, _, _, rfl, HRq.out⟩ (by omega) hN hM hS).mono ?_; rintro e w1 ⟨rfl, S1, hO1, hM1⟩)
    (first | go_end0 | refine bodyPost_ret (results_none rfl _ _ _) rfl ?_)
    exact ⟨rfl, S1, hO1, HMq.out.trans hM1⟩
  · go_wp2_with (go_at_call 42; refine (inner_core b _ r 9 c _ ⟨_, _, _, rfl, HRq.out⟩ (by omega) hN hM hS).mono ?_; rintro e w1 ⟨rfl, S1, hO1, hM1⟩)
    (first | go_end0 | refine bodyPost_ret (results_none rfl _ _ _) rfl ?_)
    exact ⟨rfl, S1, hO1, HMq.out.trans hM1⟩
  · go_wp2_with (go_at_call 42; refine (inner_core b _ r 10 c _ ⟨_, _, _, rfl, HRq.out⟩ (by omega) hN hM hS).mono ?_; rintro e w1 ⟨rfl, S1, hO1, hM1⟩)
    (first | go_end0 | refine bodyPost_ret (results_none rfl _ _ _) rfl ?_)
    exact ⟨rfl, S1, hO1, HMq.out.trans hM1⟩
end Go.Proofs.YtemdhbjcdibpfaaDoor.N3
