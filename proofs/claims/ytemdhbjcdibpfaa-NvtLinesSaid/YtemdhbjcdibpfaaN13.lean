/- lists that are alike, copies -/
import Derived.Test.YtemdhbjcdibpfaaN10
import Derived.Test.YtemdhbjcdibpfaaN11
namespace Go.Proofs.Ytemdhbjcdibpfaa.N13
set_option linter.unusedVariables false
set_option linter.unusedSimpArgs false
set_option linter.unnecessarySimpa false
open Go.RowKit K1 K3 K5 K11 K12 K14 N0 N2 N8 N10 N11
attribute [local go_sem] cell_pastA froz_pastA
set_option maxHeartbeats 4000000 in
theorem same_tokens (v u : Value) (l : List Tok) (w : World) (hv : w.ownsRow 0 45 4 v l.length (l.flatMap tokCells)) (hu : w.ownsRow 0 45 4 u l.length (l.flatMap tokCells)) (hl : l.length ≤ 1099511627776) :
    Calls Try.prog 13 #[v, u] w fun e w' => e = .returned (.bool true) ∧ Below w.heap.size w w' := by
  obtain ⟨va, vc, rfl, -⟩ := own_slice hv
  obtain ⟨ua, uc, rfl, -⟩ := own_slice hu
  have HV := Lib.hid hv
  have HU := Lib.hid hu
  clear hv hu
  go_enter Try.func13, Try.ntmps13
  go_wp2_with fail
  go_loopw [5] (fun i wr => ∃ k : Nat, k ≤ l.length ∧ i = .int .i64 k ∧ Below w.heap.size w wr) (fun i _ => l.length - (intOf i).toNat)
  case atStart => exact ⟨0, by omega, rfl, Below.refl _ _⟩
  case round =>
    obtain ⟨k, hk, rfl, hbr⟩ := hrel
    by_cases hlt : k < l.length
    · obtain ⟨g1, cp1, hf1, -, hg1⟩ := HV.out.form (by omega)
      obtain ⟨g2, cp2, hf2, -, hg2⟩ := HU.out.form (by omega)
      simp only [Value.slice.injEq, true_and] at hf1 hf2
      obtain ⟨rfl, rfl⟩ := hf1
      obtain ⟨rfl, rfl⟩ := hf2
      obtain ⟨t0, t1, t2, t3⟩ := tok_at l k hlt
      have a0 := (hbr.cell (p := ⟨g1, k * 4, none⟩) hg1).trans (own_at HV.out t0)
      have a1 := (hbr.cell (p := ⟨g1, k * 4 + 1, none⟩) hg1).trans (own_at HV.out t1)
      have a2 := (hbr.cell (p := ⟨g1, k * 4 + 2, none⟩) hg1).trans (own_at HV.out t2)
      have a3 := (hbr.cell (p := ⟨g1, k * 4 + 3, none⟩) hg1).trans (own_at HV.out t3)
      have d0 := (hbr.cell (p := ⟨g2, k * 4, none⟩) hg2).trans (own_at HU.out t0)
      have d1 := (hbr.cell (p := ⟨g2, k * 4 + 1, none⟩) hg2).trans (own_at HU.out t1)
      have d2 := (hbr.cell (p := ⟨g2, k * 4 + 2, none⟩) hg2).trans (own_at HU.out t2)
      have d3 := (hbr.cell (p := ⟨g2, k * 4 + 3, none⟩) hg2).trans (own_at HU.out t3)
      generalize l[k] = tk at *
      have HBR := Lib.hid hbr
      have hwr := hbr.size
      clear hbr t0 t1 t2 t3
      go_wp2_with fail
      refine wp_region_quiet0 (w := _) [] [] 10 (by kernel_rfl) (by kernel_rfl) (fun _ _ dx _ _ hx => by cases dx <;> exact hx) ?_
      simp only [numbered, List.take_succ_cons, List.take_zero, List.drop_succ_cons, List.drop_zero, List.take_nil, List.drop_nil, Nat.reduceAdd]
      (refine wz_do (by decide) (by decide) C0e.es (growsB (by simp)) ?_ ?_; (focus (first | rfl | (go_simp; done))); apply Exists.intro; refine ⟨fun bs hok wx hwx hL => ?_, ?_⟩; (focus ((have hwx : Below _ _ wx := hwx; have hcx := cellA hwx; have hfx := frozA hwx; have hzx := hwx.size; (try simp at hzx)); unfold zAt; (try simp [go_sem, BigFrame.eval_const, BigFrame.eval_global, BigFrame.eval_func, ↓IntWalk.iteOmega, *]); (try simp only [zUpon]); (first | exact ⟨rfl, Below.refl _ _⟩ | fail))); (try go_simp))
      (refine wz_do (by decide) (by decide) C0e.es (growsB (by simp)) ?_ ?_; (focus (first | rfl | (go_simp; done))); apply Exists.intro; refine ⟨fun bs hok wx hwx hL => ?_, ?_⟩; (focus ((have hwx : Below _ _ wx := hwx; have hcx := cellA hwx; have hfx := frozA hwx; have hzx := hwx.size; (try simp at hzx)); unfold zAt; (try simp [go_sem, BigFrame.eval_const, BigFrame.eval_global, BigFrame.eval_func, ↓IntWalk.iteOmega, *]); (try simp only [zUpon]); (first | exact ⟨rfl, Below.refl _ _⟩ | fail))); (try go_simp))
      (refine wz_do (by decide) (by decide) C0e.es (growsB (by simp)) ?_ ?_; (focus (first | rfl | (go_simp; done))); apply Exists.intro; refine ⟨fun bs hok wx hwx hL => ?_, ?_⟩; (focus ((have hwx : Below _ _ wx := hwx; have hcx := cellA hwx; have hfx := frozA hwx; have hzx := hwx.size; (try simp at hzx)); unfold zAt; (try simp [go_sem, BigFrame.eval_const, BigFrame.eval_global, BigFrame.eval_func, ↓IntWalk.iteOmega, *]); (try simp only [zUpon]); (first | exact ⟨rfl, Below.refl _ _⟩ | fail))); (try go_simp))
      (refine wz_do (by decide) (by decide) C0e.es (growsB (by simp)) ?_ ?_; (focus (first | rfl | (go_simp; done))); apply Exists.intro; refine ⟨fun bs hok wx hwx hL => ?_, ?_⟩; (focus ((have hwx : Below _ _ wx := hwx; have hcx := cellA hwx; have hfx := frozA hwx; have hzx := hwx.size; (try simp at hzx)); unfold zAt; (try simp [go_sem, BigFrame.eval_const, BigFrame.eval_global, BigFrame.eval_func, ↓IntWalk.iteOmega, *]); (try simp only [zUpon]); (first | exact ⟨rfl, Below.refl _ _⟩ | fail))); (try go_simp))
      (refine wz_do (by decide) (by decide) C0e.es (growsB (by simp)) ?_ ?_; (focus (first | rfl | (go_simp; done))); apply Exists.intro; refine ⟨fun bs hok wx hwx hL => ?_, ?_⟩; (focus ((have hwx : Below _ _ wx := hwx; have hcx := cellA hwx; have hfx := frozA hwx; have hzx := hwx.size; (try simp at hzx)); unfold zAt; (try simp [go_sem, BigFrame.eval_const, BigFrame.eval_global, BigFrame.eval_func, ↓IntWalk.iteOmega, *]); (try simp only [zUpon]); (first | exact ⟨rfl, Below.refl _ _⟩ | fail))); (try go_simp))
      (refine wz_do (by decide) (by decide) C0e.es (growsB (by simp)) ?_ ?_; (focus (first | rfl | (go_simp; done))); apply Exists.intro; refine ⟨fun bs hok wx hwx hL => ?_, ?_⟩; (focus ((have hwx : Below _ _ wx := hwx; have hcx := cellA hwx; have hfx := frozA hwx; have hzx := hwx.size; (try simp at hzx)); unfold zAt; (try simp [go_sem, BigFrame.eval_const, BigFrame.eval_global, BigFrame.eval_func, ↓IntWalk.iteOmega, *]); (try simp only [zUpon]); (first | exact ⟨rfl, Below.refl _ _⟩ | fail))); (try go_simp))
      (refine wz_do (by decide) (by decide) C0e.es (growsB (by simp)) ?_ ?_; (focus (first | rfl | (go_simp; done))); apply Exists.intro; refine ⟨fun bs hok wx hwx hL => ?_, ?_⟩; (focus ((have hwx : Below _ _ wx := hwx; have hcx := cellA hwx; have hfx := frozA hwx; have hzx := hwx.size; (try simp at hzx)); unfold zAt; (try simp [go_sem, BigFrame.eval_const, BigFrame.eval_global, BigFrame.eval_func, ↓IntWalk.iteOmega, *]); (try simp only [zUpon]); (first | exact ⟨rfl, Below.refl _ _⟩ | fail))); (try go_simp))
      (refine wz_do (by decide) (by decide) C0e.es (growsB (by simp)) ?_ ?_; (focus (first | rfl | (go_simp; done))); apply Exists.intro; refine ⟨fun bs hok wx hwx hL => ?_, ?_⟩; (focus ((have hwx : Below _ _ wx := hwx; have hcx := cellA hwx; have hfx := frozA hwx; have hzx := hwx.size; (try simp at hzx)); unfold zAt; (try simp [go_sem, BigFrame.eval_const, BigFrame.eval_global, BigFrame.eval_func, ↓IntWalk.iteOmega, *]); (try simp only [zUpon]); (first | exact ⟨rfl, Below.refl _ _⟩ | fail))); (try go_simp))
      (refine wz_do (by decide) (by decide) C0e.es (growsB (by simp)) ?_ ?_; (focus (first | rfl | (go_simp; done))); apply Exists.intro; refine ⟨fun bs hok wx hwx hL => ?_, ?_⟩; (focus ((have hwx : Below _ _ wx := hwx; have hcx := cellA hwx; have hfx := frozA hwx; have hzx := hwx.size; (try simp at hzx)); unfold zAt; (try simp [go_sem, BigFrame.eval_const, BigFrame.eval_global, BigFrame.eval_func, ↓IntWalk.iteOmega, *]); (try simp only [zUpon]); (first | exact ⟨rfl, Below.refl _ _⟩ | fail))); (try go_simp))
      (refine wz_do (by decide) (by decide) C0e.es (growsB (by simp)) ?_ ?_; (focus (first | rfl | (go_simp; done))); apply Exists.intro; refine ⟨fun bs hok wx hwx hL => ?_, ?_⟩; (focus ((have hwx : Below _ _ wx := hwx; have hcx := cellA hwx; have hfx := frozA hwx; have hzx := hwx.size; (try simp at hzx)); unfold zAt; (try simp [go_sem, BigFrame.eval_const, BigFrame.eval_global, BigFrame.eval_func, ↓IntWalk.iteOmega, *]); (try simp only [zUpon]); (first | exact ⟨rfl, Below.refl _ _⟩ | fail))); (try go_simp))
      refine wz_nil ?_
      intro wq hbq hLq
      clear hLq 
      have hcwq := cellA hbq
      have hfwq := frozA hbq
      have hzwq := hbq.size
      try simp at hzwq
      go_wp2_with fail
      go_roundw
      case rel => exact ⟨k + 1, by omega, by go_num, HBR.out.trans (hbq.mono hwr)⟩
      case measure => simp [intOf]; omega
    · obtain rfl : k = l.length := by omega
      go_wp2_with fail
      go_ret
      exact ⟨rfl, hbr⟩
theorem str_at (l : List (List UInt8)) (k : Nat) (h : k < l.length) : (l.map strV)[k]? = some (.string ⟨l[k].toArray⟩) := by simp [h, strV]
set_option maxHeartbeats 4000000 in
theorem same_texts (v u : Value) (l : List (List UInt8)) (w : World) (hv : w.ownsRow 0 9 1 v l.length (l.map strV)) (hu : w.ownsRow 0 9 1 u l.length (l.map strV)) (hl : l.length ≤ 1099511627776) :
    Calls Try.prog 23 #[v, u] w fun e w' => e = .returned (.bool true) ∧ Below w.heap.size w w' := by
  obtain ⟨va, vc, rfl, -⟩ := own_slice hv
  obtain ⟨ua, uc, rfl, -⟩ := own_slice hu
  have HV := Lib.hid hv
  have HU := Lib.hid hu
  clear hv hu
  go_enter Try.func23, Try.ntmps23
  go_wp2_with fail
  go_loopw [5] (fun i wr => ∃ k : Nat, k ≤ l.length ∧ i = .int .i64 k ∧ Below w.heap.size w wr) (fun i _ => l.length - (intOf i).toNat)
  case atStart => exact ⟨0, by omega, rfl, Below.refl _ _⟩
  case round =>
    obtain ⟨k, hk, rfl, hbr⟩ := hrel
    by_cases hlt : k < l.length
    · obtain ⟨g1, cp1, hf1, -, hg1⟩ := HV.out.form (by omega)
      obtain ⟨g2, cp2, hf2, -, hg2⟩ := HU.out.form (by omega)
      simp only [Value.slice.injEq, true_and] at hf1 hf2
      obtain ⟨rfl, rfl⟩ := hf1
      obtain ⟨rfl, rfl⟩ := hf2
      have t0 := str_at l k hlt
      have a0 := (hbr.cell (p := ⟨g1, k, none⟩) hg1).trans (own_at HV.out t0)
      have d0 := (hbr.cell (p := ⟨g2, k, none⟩) hg2).trans (own_at HU.out t0)
      generalize l[k] = tk at *
      have HBR := Lib.hid hbr
      have hwr := hbr.size
      clear hbr t0
      go_wp2_with fail
      refine wp_region_quiet0 (w := _) [] [] 10 (by kernel_rfl) (by kernel_rfl) (fun _ _ dx _ _ hx => by cases dx <;> exact hx) ?_
      simp only [numbered, List.take_succ_cons, List.take_zero, List.drop_succ_cons, List.drop_zero, List.take_nil, List.drop_nil, Nat.reduceAdd]
      (refine wz_do (by decide) (by decide) C0e.es (growsB (by simp)) ?_ ?_; (focus (first | rfl | (go_simp; done))); apply Exists.intro; refine ⟨fun bs hok wx hwx hL => ?_, ?_⟩; (focus ((have hwx : Below _ _ wx := hwx; have hcx := cellA hwx; have hfx := frozA hwx; have hzx := hwx.size; (try simp at hzx)); unfold zAt; (try simp [go_sem, BigFrame.eval_const, BigFrame.eval_global, BigFrame.eval_func, ↓IntWalk.iteOmega, *]); (try simp only [zUpon]); (first | exact ⟨rfl, Below.refl _ _⟩ | fail))); (try go_simp))
      (refine wz_do (by decide) (by decide) C0e.es (growsB (by simp)) ?_ ?_; (focus (first | rfl | (go_simp; done))); apply Exists.intro; refine ⟨fun bs hok wx hwx hL => ?_, ?_⟩; (focus ((have hwx : Below _ _ wx := hwx; have hcx := cellA hwx; have hfx := frozA hwx; have hzx := hwx.size; (try simp at hzx)); unfold zAt; (try simp [go_sem, BigFrame.eval_const, BigFrame.eval_global, BigFrame.eval_func, ↓IntWalk.iteOmega, *]); (try simp only [zUpon]); (first | exact ⟨rfl, Below.refl _ _⟩ | fail))); (try go_simp))
      (refine wz_do (by decide) (by decide) C0e.es (growsB (by simp)) ?_ ?_; (focus (first | rfl | (go_simp; done))); apply Exists.intro; refine ⟨fun bs hok wx hwx hL => ?_, ?_⟩; (focus ((have hwx : Below _ _ wx := hwx; have hcx := cellA hwx; have hfx := frozA hwx; have hzx := hwx.size; (try simp at hzx)); unfold zAt; (try simp [go_sem, BigFrame.eval_const, BigFrame.eval_global, BigFrame.eval_func, ↓IntWalk.iteOmega, *]); (try simp only [zUpon]); (first | exact ⟨rfl, Below.refl _ _⟩ | fail))); (try go_simp))
      (refine wz_do (by decide) (by decide) C0e.es (growsB (by simp)) ?_ ?_; (focus (first | rfl | (go_simp; done))); apply Exists.intro; refine ⟨fun bs hok wx hwx hL => ?_, ?_⟩; (focus ((have hwx : Below _ _ wx := hwx; have hcx := cellA hwx; have hfx := frozA hwx; have hzx := hwx.size; (try simp at hzx)); unfold zAt; (try simp [go_sem, BigFrame.eval_const, BigFrame.eval_global, BigFrame.eval_func, ↓IntWalk.iteOmega, *]); (try simp only [zUpon]); (first | exact ⟨rfl, Below.refl _ _⟩ | fail))); (try go_simp))
      (refine wz_do (by decide) (by decide) C0e.es (growsB (by simp)) ?_ ?_; (focus (first | rfl | (go_simp; done))); apply Exists.intro; refine ⟨fun bs hok wx hwx hL => ?_, ?_⟩; (focus ((have hwx : Below _ _ wx := hwx; have hcx := cellA hwx; have hfx := frozA hwx; have hzx := hwx.size; (try simp at hzx)); unfold zAt; (try simp [go_sem, BigFrame.eval_const, BigFrame.eval_global, BigFrame.eval_func, ↓IntWalk.iteOmega, *]); (try simp only [zUpon]); (first | exact ⟨rfl, Below.refl _ _⟩ | fail))); (try go_simp))
      (refine wz_do (by decide) (by decide) C0e.es (growsB (by simp)) ?_ ?_; (focus (first | rfl | (go_simp; done))); apply Exists.intro; refine ⟨fun bs hok wx hwx hL => ?_, ?_⟩; (focus ((have hwx : Below _ _ wx := hwx; have hcx := cellA hwx; have hfx := frozA hwx; have hzx := hwx.size; (try simp at hzx)); unfold zAt; (try simp [go_sem, BigFrame.eval_const, BigFrame.eval_global, BigFrame.eval_func, ↓IntWalk.iteOmega, *]); (try simp only [zUpon]); (first | exact ⟨rfl, Below.refl _ _⟩ | fail))); (try go_simp))
      (refine wz_do (by decide) (by decide) C0e.es (growsB (by simp)) ?_ ?_; (focus (first | rfl | (go_simp; done))); apply Exists.intro; refine ⟨fun bs hok wx hwx hL => ?_, ?_⟩; (focus ((have hwx : Below _ _ wx := hwx; have hcx := cellA hwx; have hfx := frozA hwx; have hzx := hwx.size; (try simp at hzx)); unfold zAt; (try simp [go_sem, BigFrame.eval_const, BigFrame.eval_global, BigFrame.eval_func, ↓IntWalk.iteOmega, *]); (try simp only [zUpon]); (first | exact ⟨rfl, Below.refl _ _⟩ | fail))); (try go_simp))
      (refine wz_do (by decide) (by decide) C0e.es (growsB (by simp)) ?_ ?_; (focus (first | rfl | (go_simp; done))); apply Exists.intro; refine ⟨fun bs hok wx hwx hL => ?_, ?_⟩; (focus ((have hwx : Below _ _ wx := hwx; have hcx := cellA hwx; have hfx := frozA hwx; have hzx := hwx.size; (try simp at hzx)); unfold zAt; (try simp [go_sem, BigFrame.eval_const, BigFrame.eval_global, BigFrame.eval_func, ↓IntWalk.iteOmega, *]); (try simp only [zUpon]); (first | exact ⟨rfl, Below.refl _ _⟩ | fail))); (try go_simp))
      (refine wz_do (by decide) (by decide) C0e.es (growsB (by simp)) ?_ ?_; (focus (first | rfl | (go_simp; done))); apply Exists.intro; refine ⟨fun bs hok wx hwx hL => ?_, ?_⟩; (focus ((have hwx : Below _ _ wx := hwx; have hcx := cellA hwx; have hfx := frozA hwx; have hzx := hwx.size; (try simp at hzx)); unfold zAt; (try simp [go_sem, BigFrame.eval_const, BigFrame.eval_global, BigFrame.eval_func, ↓IntWalk.iteOmega, *]); (try simp only [zUpon]); (first | exact ⟨rfl, Below.refl _ _⟩ | fail))); (try go_simp))
      (refine wz_do (by decide) (by decide) C0e.es (growsB (by simp)) ?_ ?_; (focus (first | rfl | (go_simp; done))); apply Exists.intro; refine ⟨fun bs hok wx hwx hL => ?_, ?_⟩; (focus ((have hwx : Below _ _ wx := hwx; have hcx := cellA hwx; have hfx := frozA hwx; have hzx := hwx.size; (try simp at hzx)); unfold zAt; (try simp [go_sem, BigFrame.eval_const, BigFrame.eval_global, BigFrame.eval_func, ↓IntWalk.iteOmega, *]); (try simp only [zUpon]); (first | exact ⟨rfl, Below.refl _ _⟩ | fail))); (try go_simp))
      refine wz_nil ?_
      intro wq hbq hLq
      clear hLq 
      have hcwq := cellA hbq
      have hfwq := frozA hbq
      have hzwq := hbq.size
      try simp at hzwq
      go_wp2_with fail
      go_roundw
      case rel => exact ⟨k + 1, by omega, by go_num, HBR.out.trans (hbq.mono hwr)⟩
      case measure => simp [intOf]; omega
    · obtain rfl : k = l.length := by omega
      go_wp2_with fail
      go_ret
      exact ⟨rfl, hbr⟩
theorem copy_any (v : Value) (l : List (List UInt8)) (w : World) (hv : w.ownsRow 0 9 1 v l.length (l.map strV)) (h0 : 0 < l.length) (hl : l.length ≤ 1099511627776) :
    Calls Try.prog 22 #[v] w fun e w' => ∃ g cap, e = .returned (.slice (some ⟨g, 0, none⟩) l.length cap) ∧ w'.ownsRow 0 9 1 (.slice (some ⟨g, 0, none⟩) l.length cap) l.length (l.map strV) ∧ w.heap.size ≤ g ∧ Below w.heap.size w w' := by
  obtain ⟨g1, cp1, rfl, -, hg1⟩ := hv.form h0
  have HV := Lib.hid hv
  obtain ⟨i0, hi, hz0, hz1, hz2⟩ := info_parts info9
  have HI := Lib.hid hi
  clear hv hi
  go_enter Try.func22, Try.ntmps22
  go_wp2_with (at_builtin; refine wpList_append_lies _ rfl (.const (.slice none 0 0)) (.tmp 3) 22 rfl 0 9 i0 (.string ByteArray.empty) 1 16 Try.underlying22 HI.out hz0 hz1 hz2 rfl (by decide) (.slice none 0 0) 0 [] rfl (World.ownsRow_nil _ _ _ _) ⟨g1, 0, none⟩ l.length cp1 (l.map strV) rfl (by simp) (HV.out.cells rfl) (by intro x hx; obtain ⟨y, _, rfl⟩ := List.mem_map.1 hx; rfl) h0 (by unfold maxLen; omega) (by omega) (Nat.zero_le _) _ rfl ?_; intro g cap w1 hown' hgrow hat hlg)
  go_ret
  simp only [Nat.zero_add, List.nil_append] at hown'
  have hb : Below w.heap.size w w1 := (Below.refl _ _).grown hgrow (Nat.le_refl _) (by simp [Value.ownBlock])
  refine ⟨_, _, by simp, hown', ?_, hb⟩
  rcases hat with h | h
  · simp [Value.ownBlock] at h
  · omega
theorem own_caps {w : World} {g n c : Nat} {e : TypeId} {s : Nat} {xs : List Value} (h : w.ownsRow 0 e s (.slice (some ⟨g, 0, none⟩) n c) n xs) : n ≤ c := by
  rcases h.2 with ⟨hh, _⟩ | ⟨g', cap, cur, hh, hb, hg, hnc, hcm, hcs, ht⟩
  · cases hh
  · simp only [Value.slice.injEq, Option.some.injEq, Addr.mk.injEq, and_true, true_and] at hh
    obtain ⟨rfl, rfl⟩ := hh
    exact hnc
theorem own_caps2 {w : World} {g n c : Nat} {e : TypeId} {s : Nat} {xs : List Value} (h : w.ownsRow 0 e s (.slice (some ⟨g, 0, none⟩) n c) n xs) : c ≤ 9223372036854775807 := by
  rcases h.2 with ⟨hh, _⟩ | ⟨g', cap, cur, hh, hb, hg, hnc, hcm, hcs, ht⟩
  · cases hh
  · simp only [Value.slice.injEq, Option.some.injEq, Addr.mk.injEq, and_true, true_and] at hh
    obtain ⟨rfl, rfl⟩ := hh
    unfold maxLen at hcm; omega
theorem own_cut {w : World} {g n m c : Nat} {e : TypeId} {xs ys : List Value} (h : w.ownsRow 0 e 1 (.slice (some ⟨g, 0, none⟩) n c) n (xs ++ ys)) (hm : m = xs.length) (hmn : m ≤ n) : w.ownsRow 0 e 1 (.slice (some ⟨g, 0, none⟩) m c) m xs := by
  subst hm
  obtain ⟨h1, h2⟩ := h
  refine ⟨by simp, ?_⟩
  rcases h2 with ⟨hh, _⟩ | ⟨g', cap, cur, hh, hb, hg, hnc, hcm, hcs, ht⟩
  · cases hh
  · simp only [Value.slice.injEq, Option.some.injEq, Addr.mk.injEq, and_true, true_and] at hh
    obtain ⟨rfl, rfl⟩ := hh
    refine .inr ⟨g, c, cur, rfl, hb, hg, by omega, hcm, hcs, ?_⟩
    have := congrArg (List.take xs.length) ht
    rw [List.take_take, List.take_left] at this
    rw [Nat.mul_one]
    rw [Nat.min_eq_left (by omega)] at this
    exact this
def mark : ByteArray := ⟨#[109, 97, 114, 107]⟩
/-- a list with a mark behind it -/
def Lent (w : World) (g n cap : Nat) (l : List (List UInt8)) : Prop := n = l.length ∧ n + 1 ≤ cap ∧ w.ownsRow 0 9 1 (.slice (some ⟨g, 0, none⟩) n cap) n (l.map strV) ∧ w.cell? ⟨g, n, none⟩ = some (.string mark)
theorem lent_any (v : Value) (l : List (List UInt8)) (w : World) (hv : w.ownsRow 0 9 1 v l.length (l.map strV)) (h0 : 0 < l.length) (hl : l.length ≤ 1099511627776) :
    Calls Try.prog 12 #[v] w fun e w' => ∃ g cap, e = .returned (.slice (some ⟨g, 0, none⟩) l.length cap) ∧ Lent w' g l.length cap l ∧ w.heap.size ≤ g ∧ Below w.heap.size w w' := by
  have HV := Lib.hid hv
  obtain ⟨va, vc, rfl, -⟩ := own_slice hv
  obtain ⟨i0, hi, hz0, hz1, hz2⟩ := info_parts info9
  have HI := Lib.hid hi
  clear hv hi
  go_enter Try.func12, Try.ntmps12
  go_wp2_with (first | (go_at_call 22; refine (copy_any _ l _ HV.out h0 hl).mono ?_; rintro e w1 ⟨g1, c1, rfl, hv1, hg1, hb1⟩; have hg1l := own_lt hv1 g1 (by simp); have HV1 := Lib.hid hv1; have HB1 := Lib.hid hb1; clear hv1 hb1) | (at_builtin; refine wpList_append_lies _ rfl (.tmp 4) (.tmp 5) 22 rfl 0 9 i0 (.string ByteArray.empty) 1 16 Try.underlying22 HI.out hz0 hz1 hz2 rfl (by decide) (.slice (some ⟨g1, 0, none⟩) l.length c1) l.length (l.map strV) rfl (own_keep HV1.out (fun k hk => Below.heap_alloc _ _ _ (own_lt HV1.out k hk))) ⟨_, 0, none⟩ 1 1 [_] rfl (by rfl) (news1 _ _ _ _ (by first | rfl | simp)) (by simp [Value.oneCell']) (by omega) (by unfold maxLen; omega) (by omega) (Nat.zero_le _) _ rfl ?_; intro g cap w2 hown' hgrow hat hlg; have hcapl := own_caps hown'; have HOW := Lib.hid hown'; have HGR := Lib.hid hgrow; clear hown' hgrow))
  go_ret
  have hgg : w.heap.size ≤ g := by
    rcases hat with h | h
    · simp [Value.ownBlock] at h; omega
    · have := HB1.out.size; simp at h; omega
  have hb2 : Below w.heap.size w w2 := by
    refine (HB1.out.alloc HB1.out.size _).grown HGR.out (by have := HB1.out.size; simp; omega) (fun k hk => ?_)
    simp [Value.ownBlock] at hk; omega
  refine ⟨_, _, rfl, ⟨rfl, hcapl, own_cut HOW.out (by simp) (by omega), own_at HOW.out (by simp [mark])⟩, hgg, hb2⟩
theorem stays_any (u : Value) (g cap : Nat) (l : List (List UInt8)) (w : World) (hv : Lent w g l.length cap l) (hu : w.ownsRow 0 9 1 u l.length (l.map strV)) (hl : l.length ≤ 1099511627776) :
    Calls Try.prog 15 #[.slice (some ⟨g, 0, none⟩) l.length cap, u] w fun e w' => e = .returned (.bool true) ∧ Below w.heap.size w w' := by
  obtain ⟨_, hcap, hown, hmk⟩ := hv
  have hcm := own_caps2 hown
  obtain ⟨ua, uc, rfl, -⟩ := own_slice hu
  have hgl := own_lt hown g (by simp)
  have HV := Lib.hid hown
  have HU := Lib.hid hu
  clear hown hu
  have hmk' : w.cell? ⟨g, l.length, none⟩ = some (.string ⟨#[109, 97, 114, 107]⟩) := hmk
  clear hmk
  have hd1 : decide ((l.length : Int) + 1 ≤ (cap : Int)) = true := by simp; omega
  go_enter Try.func15, Try.ntmps15
  go_wp2_with (go_at_call 23; refine (same_texts _ _ l _ HV.out HU.out hl).mono ?_; rintro e w1 ⟨rfl, hb1⟩; obtain ⟨hc1, hf1, hz1⟩ := aft hb1; have HB1 := Lib.hid hb1; clear hb1)
  go_ret
  exact ⟨rfl, HB1.out⟩
end Go.Proofs.Ytemdhbjcdibpfaa.N13
