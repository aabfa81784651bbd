/- the document's Reader: All -/
import Derived.Test.YtemdhbjcdibpfaaN20
namespace Go.Proofs.Ytemdhbjcdibpfaa.N21
set_option linter.unusedVariables false
set_option linter.unusedSimpArgs false
set_option linter.unnecessarySimpa false
open Go.RowKit K1 K3 K5 K11 K12 K14 N0 N1 N2 N8 N10 N11 N13 N14 N20
attribute [local go_sem] cell_pastA froz_pastA
def filt (bin : Bool) (x : Bool × List UInt8) (l : List UInt8) : Bool × List UInt8 := l.foldl (gs bin) x
def outG (acc : List UInt8) : List Tok := if acc = [] then [] else [⟨0, 0, 0, acc⟩]
theorem filt_snoc (bin : Bool) (x : Bool × List UInt8) (s : ByteArray) (k : Nat) (h : k < s.size) : filt bin x (s.data.toList.take (k + 1)) = gs bin (filt bin x (s.data.toList.take k)) s[k] := by
  unfold filt
  rw [List.take_succ_eq_append_getElem (by simpa using h), List.foldl_append]; rfl
theorem gs_len (bin : Bool) (x : Bool × List UInt8) (c : UInt8) : (gs bin x c).2.length ≤ x.2.length + 1 := by unfold gs; split <;> simp
theorem filt_len (bin : Bool) : ∀ (l : List UInt8) (x : Bool × List UInt8), (filt bin x l).2.length ≤ x.2.length + l.length
  | [], x => by simp [filt]
  | c :: l, x => by
    have h1 := filt_len bin l (gs bin x c)
    have h2 := gs_len bin x c
    show (filt bin (gs bin x c) l).2.length ≤ _
    simp only [List.length_cons]; omega
theorem outG_len (acc : List UInt8) : (outG acc).length ≤ 1 := by unfold outG; split <;> simp
set_option maxHeartbeats 8000000 in
theorem all_ground (b : Nat) (bin cr : Bool) (s : ByteArray) (w : World) (hG : Gr w b bin cr) (hs : s.size ≤ 1000000) (hc : ∀ k, (h : k < s.size) → (s[k]).toNat ≠ 255) :
    Calls Try.prog 21 #[.pointer (some ⟨b, 0, none⟩), .string s] w fun e w' => ∃ v, e = .returned v ∧ w'.ownsRow w.heap.size 45 4 v (outG (filt bin (cr, []) s.data.toList).2).length ((outG (filt bin (cr, []) s.data.toList).2).flatMap tokCells) ∧ Fr w.heap.size [b] w w' := by
  have HG := Lib.hid hG
  have HC := Lib.hid hc
  have hbl := blk_lt hG
  obtain ⟨i0, hi, hz0, hz1, hz2⟩ := info_parts info45
  have HI := Lib.hid hi
  clear hG hc hi
  go_enter Try.func21, Try.ntmps21
  go_wp2_with fail
  go_loopw [5, 6] (fun o i wr => ∃ k : Nat, k ≤ s.size ∧ i = .int .i64 k ∧ Gr wr b bin (filt bin (cr, []) (s.data.toList.take k)).1 ∧ wr.ownsRow w.heap.size 45 4 o (outG (filt bin (cr, []) (s.data.toList.take k)).2).length ((outG (filt bin (cr, []) (s.data.toList.take k)).2).flatMap tokCells) ∧ Fr w.heap.size [b] w wr) (fun _ i _ => s.size - (intOf i).toNat)
  case atStart => exact ⟨0, by omega, rfl, HG.out, World.ownsRow_nil _ _ _ _, Fr.refl _ _ _⟩
  case round =>
    obtain ⟨k, hk, rfl, hGr, hown, hF⟩ := hrel
    by_cases hlt : k < s.size
    · have hfl := filt_len bin (s.data.toList.take k) (cr, [])
      have hfs := filt_snoc bin (cr, []) s k hlt
      obtain ⟨⟨cr1, acc⟩, hx⟩ : ∃ x, x = filt bin (cr, []) (s.data.toList.take k) := ⟨_, rfl⟩
      rw [← hx] at hGr hown hfl hfs
      simp only [List.length_nil, List.length_take, Nat.zero_add] at hfl hGr hown
      have hal : acc.length ≤ 1000000 := by omega
      have HFS := Lib.hid hfs
      have HGR := Lib.hid hGr
      have HOW := Lib.hid hown
      have HF := Lib.hid hF
      have hwr := hF.size
      obtain ⟨oa, oc, rfl, -⟩ := own_slice hown
      clear hx hfl hfs hGr hown hF
      go_wp2_with fail
      refine (feed_ground b bin cr1 s[k] _ (HC.out k hlt) HGR.out).mono ?_
      rintro e w1 ⟨v1, rfl, hv1, hG1, hF1⟩
      have hO1 : w1.ownsRow w.heap.size 45 4 (.slice oa (outG acc).length oc) (outG acc).length ((outG acc).flatMap tokCells) := own_fr HOW.out hF1 (Nat.le_refl _) (fun j hj => by
        have := (HOW.out.lt j (mem_foot.1 hj)).1
        simp; omega)
      have hFt : Fr w.heap.size [b] w w1 := HF.out.trans (hF1.mono hwr (by intro x hx _; exact hx))
      have HO1 := Lib.hid hO1
      have HF1 := Lib.hid hFt
      have HG1 := Lib.hid hG1
      have hw1 := hF1.size
      clear hO1 hFt hG1 hF1 HOW HF HGR
      by_cases hsk : cr1 = true ∧ (s[k]).toNat = 0 ∧ bin = false
      · have e1 : gt bin cr1 s[k] = [] := if_pos hsk
        have e2 : gs bin (cr1, []) s[k] = (false, []) := if_pos hsk
        have e3 : gs bin (cr1, acc) s[k] = (false, acc) := if_pos hsk
        rw [e1] at hv1
        have HE := Lib.hid (And.intro e2 e3)
        clear hsk e1 e2 e3
        obtain ⟨va, vc, rfl, -⟩ := own_slice hv1
        clear hv1
        go_wp2_with fail
        go_loopw [5, 8] (fun o j wr => o = .slice oa (outG acc).length oc ∧ j = .int .i64 0 ∧ wr = w1) (fun _ _ _ => 0)
        case atStart => exact ⟨rfl, rfl, rfl⟩
        case round =>
          obtain ⟨rfl, rfl, rfl⟩ := hrel
          go_wp2_with fail
          go_roundw
          case rel => exact ⟨k + 1, by omega, by go_num, by (have := HG1.out; rw [HE.out.1] at this; rw [HFS.out, HE.out.2]; exact this), by (have := HO1.out; rw [HFS.out, HE.out.2]; exact this), HF1.out⟩
          case measure => simp [intOf]; omega
      · have e1 : gt bin cr1 s[k] = [D1 s[k]] := if_neg hsk
        have e2 : gs bin (cr1, []) s[k] = (decide ((s[k]).toNat = 13), [s[k]]) := if_neg hsk
        have e3 : gs bin (cr1, acc) s[k] = (decide ((s[k]).toNat = 13), acc ++ [s[k]]) := if_neg hsk
        rw [e1] at hv1
        have HE := Lib.hid (And.intro e2 e3)
        clear hsk e1 e2 e3
        obtain ⟨g1, cp1, rfl, -, hg1⟩ := hv1.form (by simp)
        have hv1 := own_base hv1
        have a0 := own_at hv1 (j := 0) (u := .int .i64 0) rfl
        have a1 := own_at hv1 (j := 1) (u := .int .i64 0) rfl
        have a2 := own_at hv1 (j := 2) (u := .int .i64 0) rfl
        have a3 := own_at hv1 (j := 3) (u := .string ⟨[s[k]].toArray⟩) rfl
        clear hv1
        go_wp2_with fail
        go_loopw [5, 8] (fun o j wr => (o = .slice oa (outG acc).length oc ∧ j = .int .i64 0 ∧ wr = w1) ∨ (j = .int .i64 1 ∧ Gr wr b bin (decide ((s[k]).toNat = 13)) ∧ wr.ownsRow w.heap.size 45 4 o 1 ((outG (acc ++ [s[k]])).flatMap tokCells) ∧ Fr w.heap.size [b] w wr)) (fun _ j _ => 1 - (intOf j).toNat)
        case atStart => exact .inl ⟨rfl, rfl, rfl⟩
        case round =>
          rcases hrel with ⟨rfl, rfl, rfl⟩ | ⟨rfl, hG2, hO2, hF2⟩
          · by_cases hac : acc = []
            · subst hac
              have ho0 : (outG []).length = 0 := rfl
              go_wp2_with (at_builtin; refine wpList_append_lies _ rfl (.tmp 63) (.tmp 68) 40 rfl w.heap.size 45 i0 _ 4 40 Try.underlying40 HI.out hz0 hz1 hz2 rfl (by decide) _ _ _ rfl (own_keep HO1.out (fun k hk => Below.heap_alloc _ _ _ (own_lt HO1.out k hk))) ⟨_, 0, none⟩ 1 1 _ rfl (by rfl) (newsB _ _ _ _ (by first | rfl | simp)) (by simp [Value.oneCell']) (by omega) (by unfold maxLen; first | omega | (simp; omega)) (by first | omega | (simp; omega)) (by have := HF1.out.size; simp; omega) _ rfl ?_; intro g cap w2 hown' hgrow hat hlg; have HOW2 := Lib.hid hown'; have HGR := Lib.hid hgrow; clear hown' hgrow)
              go_roundw
              case rel =>
                have hB : Below w.heap.size wr w2 := ((Below.refl _ wr).alloc (by omega) _).grown HGR.out (by simp; omega) (fun q hq => (HO1.out.lt q hq).1)
                refine .inr ⟨rfl, ?_, ?_, HF1.out.trans (Fr.of_below hB)⟩
                · have := HG1.out
                  rw [HE.out.1] at this
                  exact blk_below this hB hbl
                · have := HOW2.out
                  simpa [tokCells, outG, D1] using this
              case measure => simp [intOf]
            · have hou : outG acc = [⟨0, 0, 0, acc⟩] := if_neg hac
              have hO1 := HO1.out
              rw [hou] at hO1
              obtain ⟨g2, cp2, hf2, -, hg2⟩ := hO1.form (by simp)
              simp only [Value.slice.injEq] at hf2
              obtain ⟨rfl, -, rfl⟩ := hf2
              have d0 := own_at (own_base hO1) (j := 0) (u := .int .i64 0) rfl
              have d3 := own_at (own_base hO1) (j := 3) (u := .string ⟨acc.toArray⟩) rfl
              have hfz := own_froz hO1
              have hgb : w.heap.size ≤ g2 := (hO1.lt g2 (by simp [Value.ownBlock])).1
              have HO2 := Lib.hid hO1
              rw [hou]
              clear hO1 HO1 hou
              go_wp2_with fail
              refine wp_region_quiet0 (w := _) [] [] 15 (by kernel_rfl) (by kernel_rfl) (fun _ _ dx _ _ hx => by cases dx <;> exact hx) ?_
              simp only [numbered, List.take_succ_cons, List.take_zero, List.drop_succ_cons, List.drop_zero, List.take_nil, List.drop_nil, Nat.reduceAdd]
              (refine wz_do (by decide) (by decide) C0e.es (growsB (by simp)) ?_ ?_; (focus (first | rfl | (go_simp; done))); apply Exists.intro; refine ⟨fun bs hok wx hwx hL => ?_, ?_⟩; (focus ((have hwx : Below _ _ wx := hwx; have hcx := cellA hwx; have hfx := frozA hwx; have hzx := hwx.size; (try simp at hzx)); unfold zAt; (try simp [go_sem, BigFrame.eval_const, BigFrame.eval_global, BigFrame.eval_func, ↓IntWalk.iteOmega, *]); (try simp only [zUpon]); (first | exact ⟨rfl, Below.refl _ _⟩ | fail))); (try go_simp))
              (refine wz_do (by decide) (by decide) C0e.es (growsB (by simp)) ?_ ?_; (focus (first | rfl | (go_simp; done))); apply Exists.intro; refine ⟨fun bs hok wx hwx hL => ?_, ?_⟩; (focus ((have hwx : Below _ _ wx := hwx; have hcx := cellA hwx; have hfx := frozA hwx; have hzx := hwx.size; (try simp at hzx)); unfold zAt; (try simp [go_sem, BigFrame.eval_const, BigFrame.eval_global, BigFrame.eval_func, ↓IntWalk.iteOmega, *]); (try simp only [zUpon]); (first | exact ⟨rfl, Below.refl _ _⟩ | fail))); (try go_simp))
              (refine wz_do (by decide) (by decide) C0e.es (growsB (by simp)) ?_ ?_; (focus (first | rfl | (go_simp; done))); apply Exists.intro; refine ⟨fun bs hok wx hwx hL => ?_, ?_⟩; (focus ((have hwx : Below _ _ wx := hwx; have hcx := cellA hwx; have hfx := frozA hwx; have hzx := hwx.size; (try simp at hzx)); unfold zAt; (try simp [go_sem, BigFrame.eval_const, BigFrame.eval_global, BigFrame.eval_func, ↓IntWalk.iteOmega, *]); (try simp only [zUpon]); (first | exact ⟨rfl, Below.refl _ _⟩ | fail))); (try go_simp))
              (refine wz_do (by decide) (by decide) C0e.es (growsB (by simp)) ?_ ?_; (focus (first | rfl | (go_simp; done))); apply Exists.intro; refine ⟨fun bs hok wx hwx hL => ?_, ?_⟩; (focus ((have hwx : Below _ _ wx := hwx; have hcx := cellA hwx; have hfx := frozA hwx; have hzx := hwx.size; (try simp at hzx)); unfold zAt; (try simp [go_sem, BigFrame.eval_const, BigFrame.eval_global, BigFrame.eval_func, ↓IntWalk.iteOmega, *]); (try simp only [zUpon]); (first | exact ⟨rfl, Below.refl _ _⟩ | fail))); (try go_simp))
              (refine wz_do (by decide) (by decide) C0e.es (growsB (by simp)) ?_ ?_; (focus (first | rfl | (go_simp; done))); apply Exists.intro; refine ⟨fun bs hok wx hwx hL => ?_, ?_⟩; (focus ((have hwx : Below _ _ wx := hwx; have hcx := cellA hwx; have hfx := frozA hwx; have hzx := hwx.size; (try simp at hzx)); unfold zAt; (try simp [go_sem, BigFrame.eval_const, BigFrame.eval_global, BigFrame.eval_func, ↓IntWalk.iteOmega, *]); (try simp only [zUpon]); (first | exact ⟨rfl, Below.refl _ _⟩ | fail))); (try go_simp))
              (refine wz_do (by decide) (by decide) C0e.es (growsB (by simp)) ?_ ?_; (focus (first | rfl | (go_simp; done))); apply Exists.intro; refine ⟨fun bs hok wx hwx hL => ?_, ?_⟩; (focus ((have hwx : Below _ _ wx := hwx; have hcx := cellA hwx; have hfx := frozA hwx; have hzx := hwx.size; (try simp at hzx)); unfold zAt; (try simp [go_sem, BigFrame.eval_const, BigFrame.eval_global, BigFrame.eval_func, ↓IntWalk.iteOmega, *]); (try simp only [zUpon]); (first | exact ⟨rfl, Below.refl _ _⟩ | fail))); (try go_simp))
              (refine wz_do (by decide) (by decide) C0e.es (growsB (by simp)) ?_ ?_; (focus (first | rfl | (go_simp; done))); apply Exists.intro; refine ⟨fun bs hok wx hwx hL => ?_, ?_⟩; (focus ((have hwx : Below _ _ wx := hwx; have hcx := cellA hwx; have hfx := frozA hwx; have hzx := hwx.size; (try simp at hzx)); unfold zAt; (try simp [go_sem, BigFrame.eval_const, BigFrame.eval_global, BigFrame.eval_func, ↓IntWalk.iteOmega, *]); (try simp only [zUpon]); (first | exact ⟨rfl, Below.refl _ _⟩ | fail))); (try go_simp))
              (refine wz_do (by decide) (by decide) C0e.es (growsB (by simp)) ?_ ?_; (focus (first | rfl | (go_simp; done))); apply Exists.intro; refine ⟨fun bs hok wx hwx hL => ?_, ?_⟩; (focus ((have hwx : Below _ _ wx := hwx; have hcx := cellA hwx; have hfx := frozA hwx; have hzx := hwx.size; (try simp at hzx)); unfold zAt; (try simp [go_sem, BigFrame.eval_const, BigFrame.eval_global, BigFrame.eval_func, ↓IntWalk.iteOmega, *]); (try simp only [zUpon]); (first | exact ⟨rfl, Below.refl _ _⟩ | fail))); (try go_simp))
              (refine wz_do (by decide) (by decide) C0e.es (growsB (by simp)) ?_ ?_; (focus (first | rfl | (go_simp; done))); apply Exists.intro; refine ⟨fun bs hok wx hwx hL => ?_, ?_⟩; (focus ((have hwx : Below _ _ wx := hwx; have hcx := cellA hwx; have hfx := frozA hwx; have hzx := hwx.size; (try simp at hzx)); unfold zAt; (try simp [go_sem, BigFrame.eval_const, BigFrame.eval_global, BigFrame.eval_func, ↓IntWalk.iteOmega, *]); (try simp only [zUpon]); (first | exact ⟨rfl, Below.refl _ _⟩ | fail))); (try go_simp))
              (refine wz_do (by decide) (by decide) C0e.es (growsB (by simp)) ?_ ?_; (focus (first | rfl | (go_simp; done))); apply Exists.intro; refine ⟨fun bs hok wx hwx hL => ?_, ?_⟩; (focus ((have hwx : Below _ _ wx := hwx; have hcx := cellA hwx; have hfx := frozA hwx; have hzx := hwx.size; (try simp at hzx)); unfold zAt; (try simp [go_sem, BigFrame.eval_const, BigFrame.eval_global, BigFrame.eval_func, ↓IntWalk.iteOmega, *]); (try simp only [zUpon]); (first | exact ⟨rfl, Below.refl _ _⟩ | fail))); (try go_simp))
              (refine wz_do (by decide) (by decide) C0e.es (growsB (by simp)) ?_ ?_; (focus (first | rfl | (go_simp; done))); apply Exists.intro; refine ⟨fun bs hok wx hwx hL => ?_, ?_⟩; (focus ((have hwx : Below _ _ wx := hwx; have hcx := cellA hwx; have hfx := frozA hwx; have hzx := hwx.size; (try simp at hzx)); unfold zAt; (try simp [go_sem, BigFrame.eval_const, BigFrame.eval_global, BigFrame.eval_func, ↓IntWalk.iteOmega, *]); (try simp only [zUpon]); (first | exact ⟨rfl, Below.refl _ _⟩ | fail))); (try go_simp))
              (refine wz_do (by decide) (by decide) C0e.es (growsB (by simp)) ?_ ?_; (focus (first | rfl | (go_simp; done))); apply Exists.intro; refine ⟨fun bs hok wx hwx hL => ?_, ?_⟩; (focus ((have hwx : Below _ _ wx := hwx; have hcx := cellA hwx; have hfx := frozA hwx; have hzx := hwx.size; (try simp at hzx)); unfold zAt; (try simp [go_sem, BigFrame.eval_const, BigFrame.eval_global, BigFrame.eval_func, ↓IntWalk.iteOmega, *]); (try simp only [zUpon]); (first | exact ⟨rfl, Below.refl _ _⟩ | fail))); (try go_simp))
              (refine wz_do (by decide) (by decide) C0e.es (growsB (by simp)) ?_ ?_; (focus (first | rfl | (go_simp; done))); apply Exists.intro; refine ⟨fun bs hok wx hwx hL => ?_, ?_⟩; (focus ((have hwx : Below _ _ wx := hwx; have hcx := cellA hwx; have hfx := frozA hwx; have hzx := hwx.size; (try simp at hzx)); unfold zAt; (try simp [go_sem, BigFrame.eval_const, BigFrame.eval_global, BigFrame.eval_func, ↓IntWalk.iteOmega, *]); (try simp only [zUpon]); (first | exact ⟨rfl, Below.refl _ _⟩ | fail))); (try go_simp))
              (refine wz_do (by decide) (by decide) C0e.es (growsB (by simp)) ?_ ?_; (focus (first | rfl | (go_simp; done))); apply Exists.intro; refine ⟨fun bs hok wx hwx hL => ?_, ?_⟩; (focus ((have hwx : Below _ _ wx := hwx; have hcx := cellA hwx; have hfx := frozA hwx; have hzx := hwx.size; (try simp at hzx)); unfold zAt; (try simp [go_sem, BigFrame.eval_const, BigFrame.eval_global, BigFrame.eval_func, ↓IntWalk.iteOmega, *]); (try simp only [zUpon]); (first | exact ⟨rfl, Below.refl _ _⟩ | fail))); (try go_simp))
              (refine wz_do (by decide) (by decide) C0e.es (growsB (by simp)) ?_ ?_; (focus (first | rfl | (go_simp; done))); apply Exists.intro; refine ⟨fun bs hok wx hwx hL => ?_, ?_⟩; (focus ((have hwx : Below _ _ wx := hwx; have hcx := cellA hwx; have hfx := frozA hwx; have hzx := hwx.size; (try simp at hzx)); unfold zAt; (try simp [go_sem, BigFrame.eval_const, BigFrame.eval_global, BigFrame.eval_func, ↓IntWalk.iteOmega, *]); (try simp only [zUpon]); (first | exact ⟨rfl, Below.refl _ _⟩ | fail))); (try go_simp))
              refine wz_nil ?_
              intro wq hbq hLq
              clear hLq 
              have hcwq := cellA hbq
              have hfwq := frozA hbq
              have hzwq := hbq.size
              try simp at hzwq
              go_wp2_with fail
              go_roundw
              case rel =>
                refine .inr ⟨rfl, ?_, ?_, (HF1.out.trans (Fr.of_below (hbq.mono (by omega)))).setCell (.inr (by simpa using hgb)) _⟩
                · have := HG1.out
                  rw [HE.out.1] at this
                  exact (blk_other (by simp; omega)).trans ((hbq.block b (by omega)).trans this)
                · have h1 := own_setc (j := 3) (u := .string ⟨(acc ++ [s[k]]).toArray⟩) (own_keep HO2.out (fun j hj => hbq.block j (own_lt HO2.out j hj))) (by simp [tokCells])
                  simpa [tokCells, outG, app_arr] using h1
              case measure => simp [intOf]
          · obtain ⟨ob, oc2, rfl, -⟩ := own_slice hO2
            go_wp2_with fail
            go_roundw
            case rel => exact ⟨k + 1, by omega, by go_num, by rw [HFS.out, HE.out.2]; exact hG2, by (have e : (outG (acc ++ [s[k]])).length = 1 := by simp [outG]); rw [HFS.out, HE.out.2]; simp only [e]; exact hO2, hF2⟩
            case measure => simp [intOf]; omega
    · obtain rfl : k = s.size := by omega
      rw [List.take_of_length_le (by simp)] at hown
      obtain ⟨oa, oc, rfl, -⟩ := own_slice hown
      have HW := Lib.hid hown
      clear hown
      go_wp2_with fail
      go_ret
      exact ⟨_, rfl, HW.out, hF⟩
end Go.Proofs.Ytemdhbjcdibpfaa.N21
