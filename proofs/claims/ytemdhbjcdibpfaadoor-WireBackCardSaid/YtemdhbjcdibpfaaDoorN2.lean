/- flush, tell -/
import Derived.Test.YtemdhbjcdibpfaaDoorN1
namespace Go.Proofs.YtemdhbjcdibpfaaDoor.N2
set_option maxRecDepth 100000
set_option linter.unusedVariables false
set_option linter.unusedSimpArgs false
set_option linter.unnecessarySimpa false
open Go.RowKit K1 K3 K5 K11 K12 K14 N0 N1
attribute [local go_sem] cell_pastA froz_pastA
theorem info45 : (Tryd.prog.info? 61).map (fun i => (i.zero, i.size, i.bytes)) = some (some (.agg #[.int .i64 0, .int .i64 0, .int .i64 0, .string ByteArray.empty]), 4, 40) := by kernel_rfl
theorem conv_own {w : World} {v : Value} {n : Nat} {l : List UInt8} (h : w.ownsRow 0 5 1 v n (l.map u8)) (hn : n = l.length) : (convert 54 9 v).run Tryd.prog w = .ok (.string ⟨l.toArray⟩) w := by
  subst hn
  rcases h.2 with ⟨rfl, h0⟩ | ⟨g, cap, cur, rfl, _, hg, h1, h2, h3, h4⟩
  · obtain rfl : l = [] := List.length_eq_zero_iff.1 h0
    exact run_convert_bytes_nil w 54 5 Tryd.underlying54 Tryd.underlying5 0 0 9 Tryd.underlying9
  · refine run_convert_bytes_back w 54 9 5 _ cap l Tryd.underlying54 Tryd.underlying5 Tryd.underlying9 fun j hj => ?_
    exact h.cells rfl j _ (by simp [hj, u8])
set_option maxHeartbeats 2000000 in
theorem flush_any (b : Nat) (S : List Nat) (r : Rd) (w : World) (hO : Rdr w b S true r) (hN : r.data.length < 1099511627776) (hM : r.out.length < 1099511627776) :
    Calls Tryd.prog 31 #[.pointer (some ⟨b, 0, none⟩)] w fun e w' => e = .returned (.tuple #[]) ∧ ∃ S', Rdr w' b S' true (flushF r) ∧ Mut w S w' S' := by
  obtain ⟨sv, dv, ov, rfl, hR⟩ := hO
  have HR := Lib.hid hR
  obtain ⟨c0, c34, c35, c36, c37, c38, c39, c40, c41, cf, hlt⟩ := hR.cells
  have hcv := conv_own hR.dat rfl
  obtain ⟨da, dc, rfl, hda⟩ := own_slice hR.dat
  obtain ⟨nsb, ndb, nob, nsd, nso, ndo⟩ := hR.ne
  have HCV : ∀ x, Below w.heap.size w x → (convert 54 9 (.slice da r.data.length dc)).run Tryd.prog x = .ok (.string ⟨r.data.toArray⟩) x := fun x hx => conv_own (own_keep hR.dat fun k hk => hx.block k (own_lt hR.dat k hk)) rfl
  clear hR hcv
  obtain ⟨i0, hi, hz0, hz1, hz2⟩ := info_parts info45
  have HI := Lib.hid hi
  by_cases hd : r.data = []
  · have hlen : r.data.length = 0 := by rw [hd]; rfl
    have e : flushF r = r := by unfold flushF; rw [if_pos hd]
    rw [e]
    go_enter Tryd.func31, Tryd.ntmps31
    go_wp2_with fail
    go_end0
    exact ⟨rfl, _, ⟨_, _, _, rfl, HR.out⟩, Mut.refl _ _⟩
  · have hlen : 0 < r.data.length := List.length_pos_iff.2 hd
    have hle2 : decide ((r.data.length : Int) > 0) = true := by simp; omega
    have e : flushF r = { r with out := r.out ++ [⟨0, 0, 0, r.data⟩], data := [] } := by unfold flushF; rw [if_neg hd]
    rw [e]
    go_enter Tryd.func31, Tryd.ntmps31
    go_wp2_with fail
    refine wp_region_quiet0 (w := _) [11] [0] 12 (by kernel_rfl) (by kernel_rfl) (fun _ _ dx _ _ hx => by cases dx <;> exact hx) ?_
    simp only [numbered, List.take_succ_cons, List.take_zero, List.drop_succ_cons, List.drop_zero, List.take_nil, List.drop_nil, Nat.reduceAdd]
    (refine wz_flo (by decide) C0e.es ?_ ?_; (focus (first | rfl | (go_simp; done))); apply Exists.intro; refine ⟨fun wx => ?_, ?_⟩; (focus ((try simp [go_sem, BigFrame.eval_const, BigFrame.eval_global, BigFrame.eval_func, ↓IntWalk.iteOmega, *]); (first | done | rfl))); (try go_simp))
    (refine wz_do (by decide) (by decide) C0e.es (growsB (by simp)) ?_ ?_; (focus (first | rfl | (go_simp; done))); apply Exists.intro; refine ⟨fun bs hok wx hwx hL => ?_, ?_⟩; (focus ((have hwx : Below _ _ wx := hwx; have hcx := cellA hwx; have hfx := frozA hwx; have hzx := hwx.size; (try simp at hzx)); unfold zAt; (try simp [go_sem, BigFrame.eval_const, BigFrame.eval_global, BigFrame.eval_func, ↓IntWalk.iteOmega, *]); (try simp only [zUpon]); (first | exact ⟨rfl, Below.refl _ _⟩ | fail))); (try go_simp))
    (refine wz_do (by decide) (by decide) C0e.es (growsB (by simp)) ?_ ?_; (focus (first | rfl | (go_simp; done))); apply Exists.intro; refine ⟨fun bs hok wx hwx hL => ?_, ?_⟩; (focus ((have hwx : Below _ _ wx := hwx; have hcx := cellA hwx; have hfx := frozA hwx; have hzx := hwx.size; (try simp at hzx)); unfold zAt; (try simp [go_sem, BigFrame.eval_const, BigFrame.eval_global, BigFrame.eval_func, ↓IntWalk.iteOmega, *]); (try simp only [zUpon]); (first | exact ⟨rfl, Below.refl _ _⟩ | fail))); (try go_simp))
    (refine wz_do (by decide) (by decide) C0e.es (growsB (by simp)) ?_ ?_; (focus (first | rfl | (go_simp; done))); apply Exists.intro; refine ⟨fun bs hok wx hwx hL => ?_, ?_⟩; (focus ((have hwx : Below _ _ wx := hwx; have hcx := cellA hwx; have hfx := frozA hwx; have hzx := hwx.size; (try simp at hzx)); unfold zAt; (try simp [go_sem, BigFrame.eval_const, BigFrame.eval_global, BigFrame.eval_func, ↓IntWalk.iteOmega, *]); (try simp only [zUpon]); (first | exact ⟨rfl, Below.refl _ _⟩ | fail))); (try go_simp))
    (refine wz_do (by decide) (by decide) C0e.es (growsB (by simp)) ?_ ?_; (focus (first | rfl | (go_simp; done))); apply Exists.intro; refine ⟨fun bs hok wx hwx hL => ?_, ?_⟩; (focus ((have hwx : Below _ _ wx := hwx; have hcx := cellA hwx; have hfx := frozA hwx; have hzx := hwx.size; (try simp at hzx)); unfold zAt; (try simp [go_sem, BigFrame.eval_const, BigFrame.eval_global, BigFrame.eval_func, ↓IntWalk.iteOmega, *]); (try simp only [zUpon]); (first | exact ⟨rfl, Below.refl _ _⟩ | fail))); (try go_simp))
    (refine wz_do (by decide) (by decide) C0e.es (growsB (by simp)) ?_ ?_; (focus (first | rfl | (go_simp; done))); apply Exists.intro; refine ⟨fun bs hok wx hwx hL => ?_, ?_⟩; (focus ((have hwx : Below _ _ wx := hwx; have hcx := cellA hwx; have hfx := frozA hwx; have hzx := hwx.size; (try simp at hzx)); unfold zAt; (try simp [go_sem, BigFrame.eval_const, BigFrame.eval_global, BigFrame.eval_func, ↓IntWalk.iteOmega, *]); (try simp only [zUpon]); (first | exact ⟨rfl, Below.refl _ _⟩ | fail))); (try go_simp))
    (refine wz_do (by decide) (by decide) C0e.es (growsB (by simp)) ?_ ?_; (focus (first | rfl | (go_simp; done))); apply Exists.intro; refine ⟨fun bs hok wx hwx hL => ?_, ?_⟩; (focus ((have hwx : Below _ _ wx := hwx; have hcx := cellA hwx; have hfx := frozA hwx; have hzx := hwx.size; (try simp at hzx)); unfold zAt; (try simp [go_sem, BigFrame.eval_const, BigFrame.eval_global, BigFrame.eval_func, ↓IntWalk.iteOmega, *]); (try simp only [zUpon]); (first | exact ⟨rfl, Below.refl _ _⟩ | fail))); (try go_simp))
    (refine wz_do (by decide) (by decide) C0e.es (growsB (by simp)) ?_ ?_; (focus (first | rfl | (go_simp; done))); apply Exists.intro; refine ⟨fun bs hok wx hwx hL => ?_, ?_⟩; (focus ((have hwx : Below _ _ wx := hwx; have hcx := cellA hwx; have hfx := frozA hwx; have hzx := hwx.size; (try simp at hzx)); unfold zAt; (try simp [go_sem, BigFrame.eval_const, BigFrame.eval_global, BigFrame.eval_func, ↓IntWalk.iteOmega, *]); (try simp only [zUpon]); (first | exact ⟨rfl, Below.refl _ _⟩ | fail))); (try go_simp))
    (refine wz_do (by decide) (by decide) C0e.es (growsB (by simp)) ?_ ?_; (focus (first | rfl | (go_simp; done))); apply Exists.intro; refine ⟨fun bs hok wx hwx hL => ?_, ?_⟩; (focus ((have hwx : Below _ _ wx := hwx; have hcx := cellA hwx; have hfx := frozA hwx; have hzx := hwx.size; (try simp at hzx)); unfold zAt; (try simp [go_sem, BigFrame.eval_const, BigFrame.eval_global, BigFrame.eval_func, ↓IntWalk.iteOmega, *]); (try simp only [zUpon]); (first | exact ⟨rfl, Below.refl _ _⟩ | fail))); (try go_simp))
    (refine wz_do (by decide) (by decide) C0e.es (growsB (by simp)) ?_ ?_; (focus (first | rfl | (go_simp; done))); apply Exists.intro; refine ⟨fun bs hok wx hwx hL => ?_, ?_⟩; (focus ((have hwx : Below _ _ wx := hwx; have hcx := cellA hwx; have hfx := frozA hwx; have hzx := hwx.size; (try simp at hzx)); unfold zAt; (try simp [go_sem, BigFrame.eval_const, BigFrame.eval_global, BigFrame.eval_func, ↓IntWalk.iteOmega, *]); (try simp only [zUpon]); (first | exact ⟨rfl, Below.refl _ _⟩ | fail))); (try go_simp))
    (refine wz_do (by decide) (by decide) C0e.es (growsB (by simp)) ?_ ?_; (focus (first | rfl | (go_simp; done))); apply Exists.intro; refine ⟨fun bs hok wx hwx hL => ?_, ?_⟩; (focus ((have hwx : Below _ _ wx := hwx; have hcx := cellA hwx; have hfx := frozA hwx; have hzx := hwx.size; (try simp at hzx)); unfold zAt; (try simp [go_sem, BigFrame.eval_const, BigFrame.eval_global, BigFrame.eval_func, ↓IntWalk.iteOmega, *]); (try simp only [zUpon]); (first | exact ⟨rfl, Below.refl _ _⟩ | fail))); (try go_simp))
    (refine wz_new (fun b => .slice (some ⟨b, 0, none⟩) 1 1) _ _ (by decide) (by decide) (by decide) C0e.es (growsB (by simp)) (by first | rfl | (go_simp; done)) (by intro b b' h; simp at h; omega) (by simp) (fun _ _ h => Below.size h) (fun bs hok wx hwx hL => by (have hwx : Below _ _ wx := hwx; have hcx := cellA hwx; have hfx := frozA hwx; have hzx := hwx.size; (try simp at hzx)); (try simp [go_sem, BigFrame.eval_const, BigFrame.eval_global, BigFrame.eval_func, ↓IntWalk.iteOmega, *]); first | done | rfl) ?_; intro b11 hb11 F11 hF11; (try simp at hb11); (try go_simp))
    refine wz_nil ?_
    intro wq hbq hLq
    have hm11 := hF11 _ (hLq.get 11 (by simp))
    obtain ⟨hk11, hx11, hg11, hy11, hl11⟩ := blk hm11
    clear hLq hF11
    have hcwq := cellA hbq
    have hfwq := frozA hbq
    have hzwq := hbq.size
    try simp at hzwq
    go_wp2_with (at_builtin; refine wpList_append_lies _ rfl (.tmp 12) (.tmp 19) 55 rfl 0 61 i0 _ 4 40 Tryd.underlying55 HI.out hz0 hz1 hz2 rfl (by decide) ov _ _ rfl (own_keep HR.out.out (fun k hk => hbq.block k (own_lt HR.out.out k hk))) ⟨_, 0, none⟩ 1 1 _ rfl (by rfl) (World.news_of_block hm11) (by simp [Value.oneCell']) (by omega) (by unfold maxLen; omega) (by omega) (Nat.zero_le _) _ rfl ?_; intro g cap w1 hown' hgrow hat hlg; have hcg := fun i => hgrow.cell_far ⟨b, i, none⟩ (by simp; omega) (by intro e; exact nob b (mem_foot.2 e.symm) rfl); have hfg := fun i => hgrow.frozen_far ⟨b, i, none⟩ (by simp; omega) (by intro e; exact nob b (mem_foot.2 e.symm) rfl))
    have hb1 := (hgrow.block b (by omega) (fun e => nob b (mem_foot.2 e.symm) rfl)).trans (blk_below HR.out.blk hbq hlt)
    have hFa := Fr.app (S' := b :: foot ov) (w := w) (B := w.heap.size) (S := []) (Fr.of_below hbq) hgrow (by omega) (by simp) (by intro k hk; simp [hk])
    have hF2 := (hFa.setCell (p := ⟨b, 41, none⟩) (by simp) (.slice (some ⟨g, 0, none⟩) (r.out.length + 1) cap)).setCell (p := ⟨b, 40, none⟩) (by simp) (.slice none 0 0)
    have hgb : g ≠ b := by
      rcases hat with h | h
      · exact fun e => nob g (mem_foot.2 h) e
      · omega
    go_end0
    refine ⟨rfl, Rdr.gen (dv' := .slice none 0 0) (ov' := .slice (some ⟨g, 0, none⟩) (r.out.length + 1) cap) HR.out (hF2.mono (Nat.le_refl _) (by simp [ftR]; intro k hk; simp [hk])) ((blk_set (blk_set hb1)).trans ?_) (own_fr HR.out.sub hF2 (Nat.le_refl _) (fun k hk => by simp only [List.mem_cons, not_or]; exact ⟨nsb k hk, nso k hk⟩)) (World.ownsRow_nil _ _ _ _) ?_ HR.out.st (fun k h => .inl h) (by simp) (foot_app hat (by omega))
      (by simp) (fun k hk hm => absurd (own_lt HR.out.sub k hm) (by omega)) (by simp)⟩
    · simp_all [cellsR, tabCells]
    · have := own_keep (w' := (w1.setCell ⟨b, 41, none⟩ (.slice (some ⟨g, 0, none⟩) (r.out.length + 1) cap)).setCell ⟨b, 40, none⟩ (.slice none 0 0)) hown' (fun k hk => by simp at hk; subst hk; exact (blk_other hgb).trans (blk_other hgb))
      simpa [tokCells] using this
theorem flush_out_le (r : Rd) : (flushF r).out.length ≤ r.out.length + 1 := by
  unfold flushF
  split
  · omega
  · simp
set_option maxHeartbeats 2000000 in
theorem tell_any (b : Nat) (S : List Nat) (r : Rd) (tk : Tok) (w : World) (hO : Rdr w b S true r) (hN : r.data.length < 1099511627776) (hM : r.out.length < 1099511627776) :
    Calls Tryd.prog 41 #[.pointer (some ⟨b, 0, none⟩), .agg #[.int .i64 tk.kind, .int .i64 tk.cmd, .int .i64 tk.opt, .string ⟨tk.text.toArray⟩]] w fun e w' => e = .returned (.tuple #[]) ∧ ∃ S', Rdr w' b S' true (tellF r tk) ∧ Mut w S w' S' := by
  have HO := Lib.hid hO
  have hlb := hO.lt
  have HOb := fun x (hF : Fr w.heap.size [] w x) => Rdr.frame HO.out hF (Nat.le_refl _) (by simp)
  have hfo := flush_out_le r
  clear hO
  rw [show tellF r tk = { flushF r with out := (flushF r).out ++ [tk] } from rfl]
  obtain ⟨q, hq⟩ : ∃ q, q = flushF r := ⟨_, rfl⟩
  rw [← hq] at hfo ⊢
  have HQ := Lib.hid hq
  clear hq
  go_enter Tryd.func41, Tryd.ntmps41
  go_wp2_with (go_at_call 31; refine (flush_any b _ _ _ (HOb _ (by repeat' (first | with_reducible assumption | with_reducible exact Fr.refl _ _ _ | with_reducible apply Fr.alloc | (with_reducible apply Fr.setCell <;> first | (left; simp; done) | (right; simp; done) | (right; simp; omega) | skip) | with_reducible apply Fr.drew | (refine Fr.trans ?_ (Fr.of_below (Below.mono (by with_reducible assumption) ?_))) | omega | (simp; omega) | (simp; done)))) hN hM).mono ?_; rintro e w1 ⟨rfl, S1, hO1, hM1⟩; rw [← HQ.out] at hO1)
  have hbx := (hM1.keep (k := w.heap.size) (by simp) (fun hm => by have := hlb.1 _ hm; omega)).trans (heap_alloc_new w _)
  have hM0 : Mut w S w1 S1 := Mut.trans ⟨(Fr.refl w.heap.size S w).alloc (Nat.le_refl _) _, fun k h => .inl h⟩ hM1
  obtain ⟨hkx, hxx, hgx, hyx, hlx⟩ := blk hbx
  obtain ⟨sv, dv, ov, rfl, hR⟩ := hO1
  have HR := Lib.hid hR
  have HM := Lib.hid hM0
  obtain ⟨c0, c34, c35, c36, c37, c38, c39, c40, c41, cf, hlt⟩ := hR.cells
  obtain ⟨nsb, ndb, nob, nsd, nso, ndo⟩ := hR.ne
  clear hR hbx hM0 hM1
  obtain ⟨i0, hi, hz0, hz1, hz2⟩ := info_parts info45
  have HI := Lib.hid hi
  refine wp_region_quiet0 (w := _) [6] [0] 7 (by kernel_rfl) (by kernel_rfl) (fun _ _ dx _ _ hx => by cases dx <;> exact hx) ?_
  simp only [numbered, List.take_succ_cons, List.take_zero, List.drop_succ_cons, List.drop_zero, List.take_nil, List.drop_nil, Nat.reduceAdd]
  (refine wz_flo (by decide) C0e.es ?_ ?_; (focus (first | rfl | (go_simp; done))); apply Exists.intro; refine ⟨fun wx => ?_, ?_⟩; (focus ((try simp [go_sem, BigFrame.eval_const, BigFrame.eval_global, BigFrame.eval_func, ↓IntWalk.iteOmega, *]); (first | done | rfl))); (try go_simp))
  (refine wz_do (by decide) (by decide) C0e.es (growsB (by simp)) ?_ ?_; (focus (first | rfl | (go_simp; done))); apply Exists.intro; refine ⟨fun bs hok wx hwx hL => ?_, ?_⟩; (focus ((have hwx : Below _ _ wx := hwx; have hcx := cellA hwx; have hfx := frozA hwx; have hzx := hwx.size; (try simp at hzx)); unfold zAt; (try simp [go_sem, BigFrame.eval_const, BigFrame.eval_global, BigFrame.eval_func, ↓IntWalk.iteOmega, *]); (try simp only [zUpon]); (first | exact ⟨rfl, Below.refl _ _⟩ | fail))); (try go_simp))
  (refine wz_do (by decide) (by decide) C0e.es (growsB (by simp)) ?_ ?_; (focus (first | rfl | (go_simp; done))); apply Exists.intro; refine ⟨fun bs hok wx hwx hL => ?_, ?_⟩; (focus ((have hwx : Below _ _ wx := hwx; have hcx := cellA hwx; have hfx := frozA hwx; have hzx := hwx.size; (try simp at hzx)); unfold zAt; (try simp [go_sem, BigFrame.eval_const, BigFrame.eval_global, BigFrame.eval_func, ↓IntWalk.iteOmega, *]); (try simp only [zUpon]); (first | exact ⟨rfl, Below.refl _ _⟩ | fail))); (try go_simp))
  (refine wz_do (by decide) (by decide) C0e.es (growsB (by simp)) ?_ ?_; (focus (first | rfl | (go_simp; done))); apply Exists.intro; refine ⟨fun bs hok wx hwx hL => ?_, ?_⟩; (focus ((have hwx : Below _ _ wx := hwx; have hcx := cellA hwx; have hfx := frozA hwx; have hzx := hwx.size; (try simp at hzx)); unfold zAt; (try simp [go_sem, BigFrame.eval_const, BigFrame.eval_global, BigFrame.eval_func, ↓IntWalk.iteOmega, *]); (try simp only [zUpon]); (first | exact ⟨rfl, Below.refl _ _⟩ | fail))); (try go_simp))
  (refine wz_do (by decide) (by decide) C0e.es (growsB (by simp)) ?_ ?_; (focus (first | rfl | (go_simp; done))); apply Exists.intro; refine ⟨fun bs hok wx hwx hL => ?_, ?_⟩; (focus ((have hwx : Below _ _ wx := hwx; have hcx := cellA hwx; have hfx := frozA hwx; have hzx := hwx.size; (try simp at hzx)); unfold zAt; (try simp [go_sem, BigFrame.eval_const, BigFrame.eval_global, BigFrame.eval_func, ↓IntWalk.iteOmega, *]); (try simp only [zUpon]); (first | exact ⟨rfl, Below.refl _ _⟩ | fail))); (try go_simp))
  (refine wz_do (by decide) (by decide) C0e.es (growsB (by simp)) ?_ ?_; (focus (first | rfl | (go_simp; done))); apply Exists.intro; refine ⟨fun bs hok wx hwx hL => ?_, ?_⟩; (focus ((have hwx : Below _ _ wx := hwx; have hcx := cellA hwx; have hfx := frozA hwx; have hzx := hwx.size; (try simp at hzx)); unfold zAt; (try simp [go_sem, BigFrame.eval_const, BigFrame.eval_global, BigFrame.eval_func, ↓IntWalk.iteOmega, *]); (try simp only [zUpon]); (first | exact ⟨rfl, Below.refl _ _⟩ | fail))); (try go_simp))
  (refine wz_new (fun b => .slice (some ⟨b, 0, none⟩) 1 1) _ _ (by decide) (by decide) (by decide) C0e.es (growsB (by simp)) (by first | rfl | (go_simp; done)) (by intro b b' h; simp at h; omega) (by simp) (fun _ _ h => Below.size h) (fun bs hok wx hwx hL => by (have hwx : Below _ _ wx := hwx; have hcx := cellA hwx; have hfx := frozA hwx; have hzx := hwx.size; (try simp at hzx)); (try simp [go_sem, BigFrame.eval_const, BigFrame.eval_global, BigFrame.eval_func, ↓IntWalk.iteOmega, *]); first | done | rfl) ?_; intro b6 hb6 F6 hF6; (try simp at hb6); (try go_simp))
  refine wz_nil ?_
  intro wq hbq hLq
  have hm6 := hF6 _ (hLq.get 6 (by simp))
  obtain ⟨hk6, hx6, hg6, hy6, hl6⟩ := blk hm6
  clear hLq hF6
  have hcwq := cellA hbq
  have hfwq := frozA hbq
  have hzwq := hbq.size
  try simp at hzwq
  go_wp2_with (at_builtin; refine wpList_append_lies _ rfl (.tmp 10) (.tmp 12) 55 rfl 0 61 i0 _ 4 40 Tryd.underlying55 HI.out hz0 hz1 hz2 rfl (by decide) ov _ _ rfl (own_keep HR.out.out (fun k hk => hbq.block k (own_lt HR.out.out k hk))) ⟨_, 0, none⟩ 1 1 _ rfl (by rfl) (World.news_of_block hm6) (by simp [Value.oneCell']) (by omega) (by unfold maxLen; omega) (by omega) (Nat.zero_le _) _ rfl ?_; intro g cap w2 hown' hgrow hat hlg; have hcg := fun i => hgrow.cell_far ⟨b, i, none⟩ (by simp; omega) (by intro e; exact nob b (mem_foot.2 e.symm) rfl); have hfg := fun i => hgrow.frozen_far ⟨b, i, none⟩ (by simp; omega) (by intro e; exact nob b (mem_foot.2 e.symm) rfl))
  have hb1 := (hgrow.block b (by omega) (fun e => nob b (mem_foot.2 e.symm) rfl)).trans (blk_below HR.out.blk hbq hlt)
  have hFa := Fr.app (S' := b :: foot ov) (w := w1) (B := w1.heap.size) (S := []) (Fr.of_below hbq) hgrow (by omega) (by simp) (by intro k hk; simp [hk])
  have hF2 := hFa.setCell (p := ⟨b, 41, none⟩) (by simp) (.slice (some ⟨g, 0, none⟩) (q.out.length + 1) cap)
  have hgb : g ≠ b := by
    rcases hat with h | h
    · exact fun e => nob g (mem_foot.2 h) e
    · omega
  go_end0
  refine ⟨rfl, ?_⟩
  obtain ⟨S2, h2, h3⟩ := Rdr.gen (o' := true) (r' := { q with out := q.out ++ [tk] }) (dv' := dv) (sv' := sv) (ov' := .slice (some ⟨g, 0, none⟩) (q.out.length + 1) cap) HR.out (hF2.mono (Nat.le_refl _) (by simp [ftR]; intro k hk; simp [hk])) ((blk_set hb1).trans (by simp [cellsR, tabCells])) (own_fr HR.out.sub hF2 (Nat.le_refl _) (fun k hk => by simp only [List.mem_cons, not_or]; exact ⟨nsb k hk, nso k hk⟩)) (own_fr HR.out.dat hF2 (Nat.le_refl _) (fun k hk => by simp only [List.mem_cons, not_or]; exact ⟨ndb k hk, ndo k hk⟩))
    (by
      have := own_keep (w' := w2.setCell ⟨b, 41, none⟩ (.slice (some ⟨g, 0, none⟩) (q.out.length + 1) cap)) hown' (fun k hk => by simp at hk; subst hk; exact blk_other hgb)
      simpa [tokCells] using this) HR.out.st (fun k h => .inl h) (fun k h => .inl h) (foot_app hat (by omega))
    (fun k hk hm => absurd (own_lt HR.out.sub k hm) (by omega)) (fun k hk hm => absurd (own_lt HR.out.sub k hm) (by omega)) (fun k hk hm => absurd (own_lt HR.out.dat k hm) (by omega))
  exact ⟨S2, h2, HM.out.trans h3⟩
end Go.Proofs.YtemdhbjcdibpfaaDoor.N2
