/- WireParts -/
import Derived.Test.YtemdhbjcdibpfaaDoorW9
namespace Go.Proofs.YtemdhbjcdibpfaaDoor.W10
set_option linter.unusedVariables false
set_option linter.unusedSimpArgs false
set_option linter.unnecessarySimpa false
set_option maxRecDepth 100000
open Go.RowKit K1 K3 K5 K11 K12 K14 K20 K21 K22 W0 W1 W2 W3 W4 W5 W6 W7 W8 W9 N0 N1 N2

attribute [local go_sem] cell_pastA froz_pastA
set_option maxHeartbeats 4000000 in
theorem alive_any (w : World) (hg : Glob w) : Calls Tryd.prog 6 #[] w fun e w' => e = .returned (.bool true) ∧ Below w.heap.size w w' := by
  have HG := Lib.hid hg
  clear hg
  have e1 : datF false [[97, 13], [98, 13, 10]].flatten = [97, 13, 0, 98, 13, 10] := by decide
  have e2 : plainR false [97, 13, 0] = [97, 13] := by kernel_rfl
  have hR : Rd 1 strE (w.alloc (.cells #[.string ⟨#[97, 13]⟩, .string ⟨#[98, 13, 10]⟩] 9)) (.slice (some ⟨w.heap.size, 0, none⟩) 2 2) [[97, 13], [98, 13, 10]] := by
    refine ⟨_, 2, rfl, by decide, .inr ⟨_, 0, rfl, by simp, fun k x hx j u hu => ?_⟩⟩
    rw [cell_blk (blk_new rfl)]
    match k, hx with
    | 0, hx =>
      obtain rfl : [97, 13] = x := by simpa using hx
      obtain rfl : j = 0 := by have := (List.getElem?_eq_some_iff.1 hu).1; simpa [strE] using this
      simpa [strE] using hu
    | 1, hx =>
      obtain rfl : [98, 13, 10] = x := by simpa using hx
      obtain rfl : j = 0 := by have := (List.getElem?_eq_some_iff.1 hu).1; simpa [strE] using this
      simpa [strE] using hu
    | k + 2, hx => simp at hx
  have HR := Lib.hid hR
  have HD := Lib.hid (data_any false _ _ _ hR (HG.out.below ((Below.refl _ _).alloc (Nat.le_refl _) _)) (by decide) (by decide))
  rw [e1] at HD
  clear hR
  go_enter Tryd.func6, Tryd.ntmps6
  go_wp2_with (first | (go_at_call 7; refine HD.out.mono ?_; rintro e w1 ⟨rfl, hb1⟩) | (go_at_call 9; refine (plain_any false ⟨#[97, 13, 0]⟩ _ (by decide)).mono ?_; rintro e w2 ⟨rfl, hb2⟩))
  go_ret
  exact ⟨rfl, (((Below.refl w.heap.size w).alloc (Nat.le_refl _) _).trans (hb1.mono (by simp))).trans (hb2.mono (by have := hb1.size; simp at this; omega))⟩
theorem data_nil (bin : Bool) (w : World) (hg : Glob w) : Calls Tryd.prog 7 #[.bool bin, .slice none 0 0] w fun e w' => e = .returned (.string ⟨#[]⟩) ∧ Below w.heap.size w w' := by
  refine (data_any bin _ [] w (Rd.nil 0) hg (by decide) (by decide)).mono ?_
  rintro e w' ⟨rfl, hb⟩
  refine ⟨?_, hb⟩
  cases bin <;> rfl
theorem data_one (bin : Bool) (l : List UInt8) (b c : Nat) (w : World) (hg : Glob w) (hc : w.cell? ⟨b, 0, none⟩ = some (.string ⟨l.toArray⟩)) (hl : l.length ≤ 100000) (h1 : 1 ≤ c) : Calls Tryd.prog 7 #[.bool bin, .slice (some ⟨b, 0, none⟩) 1 c] w fun e w' => e = .returned (.string ⟨(datF bin l).toArray⟩) ∧ Below w.heap.size w w' := by
  have hb := World.block_lt_of_cell? w _ hc
  have := data_any bin _ [l] w (Rd.one (x := l) rfl h1 hb hc) hg (by simpa using hl) (by simp)
  rw [show [l].flatten = l by simp] at this
  exact this
set_option maxHeartbeats 8000000 in
theorem parts_any (bin : Bool) (v : Value) (L : List (List UInt8)) (w : World) (hv : Rd 1 strE w v L) (hg : Glob w) (hn : L.length ≤ 9223372036854775807) (hln : ∀ l ∈ L, l.length ≤ 9223372036854775807) : Calls Tryd.prog 3 #[.bool bin, v] w fun e w' => e = .returned (.bool true) ∧ Below w.heap.size w w' := by
  have HV := Lib.hid hv
  have HG := Lib.hid hg
  obtain ⟨a, c, rfl, hc, -⟩ := hv
  clear hg
  by_cases h20 : 20 < L.length
  · have hd : decide ((20 : Int) < (L.length : Int)) = true := by simp only [decide_eq_true_eq]; omega
    go_enter Tryd.func3, Tryd.ntmps3
    go_wp2_with (go_at_call 6; refine (alive_any _ HG.out).mono ?_; rintro e w1 ⟨rfl, hb1⟩)
    go_ret
    exact ⟨rfl, hb1⟩
  · have hd : decide ((20 : Int) < (L.length : Int)) = false := by simp only [decide_eq_false_iff_not]; omega
    have HLN := Lib.hid hln
    clear hln
    go_enter Tryd.func3, Tryd.ntmps3
    go_wp2_with (go_at_call 6; refine (alive_any _ HG.out).mono ?_; rintro e w1 ⟨rfl, hb1⟩)
    have HB1 := Lib.hid hb1
    have HG1 := Lib.hid (HG.out.below hb1)
    clear hb1
    go_loopw [5, 6, 7] (fun s l i wr => ∃ k : Nat, k ≤ L.length ∧ i = .int .i64 k ∧ s = .string ⟨(sentF bin (L.take k)).toArray⟩ ∧ l = .string ⟨(L.take k).flatten.toArray⟩ ∧ (L.take k).flatten.length ≤ 100 * k ∧ (sentF bin (L.take k)).length ≤ 200 * k ∧ Below w1.heap.size w1 wr) (fun _ _ i _ => L.length - (intOf i).toNat)
    case atStart => exact ⟨0, by omega, rfl, rfl, rfl, by simp, by simp [sentF], Below.refl _ _⟩
    case round =>
      obtain ⟨k, hk, rfl, rfl, rfl, hf1, hf2, hbr⟩ := hrel
      have HGR := Lib.hid (HG1.out.below hbr)
      have HBR := Lib.hid hbr
      have hz1 := size_arr (sentF bin (L.take k))
      have hz2 := size_arr (L.take k).flatten
      by_cases hlt : k < L.length
      · obtain ⟨b, o, c', hvc, hb, hcl⟩ := (HV.out.below (HB1.out.trans (hbr.mono HB1.out.size))).cell1 (List.getElem?_eq_getElem hlt) (u := .string ⟨L[k].toArray⟩) rfl
        simp only [Value.slice.injEq, true_and] at hvc
        obtain ⟨rfl, rfl⟩ := hvc
        have HS1 := Lib.hid (sent_snoc bin L k hlt)
        have HS2 := Lib.hid (flat_snoc L k hlt)
        have hll := HLN.out L[k] (List.getElem_mem hlt)
        obtain ⟨l, hle⟩ : ∃ l, l = L[k] := ⟨_, rfl⟩
        rw [← hle] at hcl hll
        obtain ⟨S0, hS0⟩ : ∃ S0, S0 = sentF bin (L.take k) := ⟨_, rfl⟩
        obtain ⟨T0, hT0⟩ : ∃ T0, T0 = (L.take k).flatten := ⟨_, rfl⟩
        have HLE := Lib.hid (And.intro hle (And.intro hS0 hT0))
        rw [← hS0] at hf2 hz1 ⊢
        rw [← hT0] at hf1 hz2 ⊢
        clear hbr hle hS0 hT0
        have hzl := size_arr l
        by_cases h100 : 100 < l.length
        · have hd2 : decide ((100 : Int) < (l.length : Int)) = true := by simp only [decide_eq_true_eq]; omega
          go_wp2_with fail
          go_ret
          exact ⟨rfl, HB1.out.trans (HBR.out.mono HB1.out.size)⟩
        · have hd2 : decide ((100 : Int) < (l.length : Int)) = false := by simp only [decide_eq_false_iff_not]; omega
          have hge := dat_ge bin l
          have hle2 := dat_le bin l
          have hzd := size_arr (datF bin l)
          have hd3 : decide (((datF bin l).length : Int) < (l.length : Int)) = false := by simp only [decide_eq_false_iff_not]; omega
          have hd4 : decide (2 * (l.length : Int) < ((datF bin l).length : Int)) = false := by simp only [decide_eq_false_iff_not]; omega
          go_wp2_with (go_at_call 7; refine (data_one bin l _ _ _ (HGR.out.below (by repeat' (first | with_reducible assumption | with_reducible exact Below.refl _ _ | with_reducible apply Below.alloc | with_reducible apply Below.setCell | with_reducible apply Below.drew | (refine Below.trans ?_ (Below.mono (by with_reducible assumption) ?_)) | omega | (simp; omega) | (simp; done)))) (by simp) (by omega) (by decide)).mono ?_; rintro e w2 ⟨rfl, hb2⟩; have HB2 := Lib.hid hb2; have hcl2 := (World.cell?_of_block (hb2.block b (by simp; omega))).trans ((World.cell?_of_block (Below.heap_alloc _ _ _ hb)).trans hcl); have hbz : b < w2.heap.size := by (have := hb2.size; simp at this; omega))
          refine wp_region_quiet0 (w := _) [] [] 11 (by kernel_rfl) (by kernel_rfl) (fun _ _ dx _ _ hx => by cases dx <;> exact hx) ?_
          simp only [numbered, List.take_succ_cons, List.take_zero, List.drop_succ_cons, List.drop_zero, List.take_nil, List.drop_nil, Nat.reduceAdd]
          (refine wz_do (by decide) (by decide) C0e.es (growsB (by simp)) ?_ ?_; (focus (first | rfl | (go_simp; done))); apply Exists.intro; refine ⟨fun bs hok wx hwx hL => ?_, ?_⟩; (focus ((have hwx : Below _ _ wx := hwx; have hcx := cellA hwx; have hfx := frozA hwx; have hzx := hwx.size; (try simp at hzx)); unfold zAt; (try simp [go_sem, BigFrame.eval_const, BigFrame.eval_global, BigFrame.eval_func, ↓IntWalk.iteOmega, *]); (try simp only [zUpon]); (first | exact ⟨rfl, Below.refl _ _⟩ | fail))); (try go_simp))
          (refine wz_do (by decide) (by decide) C0e.es (growsB (by simp)) ?_ ?_; (focus (first | rfl | (go_simp; done))); apply Exists.intro; refine ⟨fun bs hok wx hwx hL => ?_, ?_⟩; (focus ((have hwx : Below _ _ wx := hwx; have hcx := cellA hwx; have hfx := frozA hwx; have hzx := hwx.size; (try simp at hzx)); unfold zAt; (try simp [go_sem, BigFrame.eval_const, BigFrame.eval_global, BigFrame.eval_func, ↓IntWalk.iteOmega, *]); (try simp only [zUpon]); (first | exact ⟨rfl, Below.refl _ _⟩ | fail))); (try go_simp))
          (refine wz_do (by decide) (by decide) C0e.es (growsB (by simp)) ?_ ?_; (focus (first | rfl | (go_simp; done))); apply Exists.intro; refine ⟨fun bs hok wx hwx hL => ?_, ?_⟩; (focus ((have hwx : Below _ _ wx := hwx; have hcx := cellA hwx; have hfx := frozA hwx; have hzx := hwx.size; (try simp at hzx)); unfold zAt; (try simp [go_sem, BigFrame.eval_const, BigFrame.eval_global, BigFrame.eval_func, ↓IntWalk.iteOmega, *]); (try simp only [zUpon]); (first | exact ⟨rfl, Below.refl _ _⟩ | fail))); (try go_simp))
          (refine wz_do (by decide) (by decide) C0e.es (growsB (by simp)) ?_ ?_; (focus (first | rfl | (go_simp; done))); apply Exists.intro; refine ⟨fun bs hok wx hwx hL => ?_, ?_⟩; (focus ((have hwx : Below _ _ wx := hwx; have hcx := cellA hwx; have hfx := frozA hwx; have hzx := hwx.size; (try simp at hzx)); unfold zAt; (try simp [go_sem, BigFrame.eval_const, BigFrame.eval_global, BigFrame.eval_func, ↓IntWalk.iteOmega, *]); (try simp only [zUpon]); (first | exact ⟨rfl, Below.refl _ _⟩ | fail))); (try go_simp))
          (refine wz_do (by decide) (by decide) C0e.es (growsB (by simp)) ?_ ?_; (focus (first | rfl | (go_simp; done))); apply Exists.intro; refine ⟨fun bs hok wx hwx hL => ?_, ?_⟩; (focus ((have hwx : Below _ _ wx := hwx; have hcx := cellA hwx; have hfx := frozA hwx; have hzx := hwx.size; (try simp at hzx)); unfold zAt; (try simp [go_sem, BigFrame.eval_const, BigFrame.eval_global, BigFrame.eval_func, ↓IntWalk.iteOmega, *]); (try simp only [zUpon]); (first | exact ⟨rfl, Below.refl _ _⟩ | fail))); (try go_simp))
          (refine wz_do (by decide) (by decide) C0e.es (growsB (by simp)) ?_ ?_; (focus (first | rfl | (go_simp; done))); apply Exists.intro; refine ⟨fun bs hok wx hwx hL => ?_, ?_⟩; (focus ((have hwx : Below _ _ wx := hwx; have hcx := cellA hwx; have hfx := frozA hwx; have hzx := hwx.size; (try simp at hzx)); unfold zAt; (try simp [go_sem, BigFrame.eval_const, BigFrame.eval_global, BigFrame.eval_func, ↓IntWalk.iteOmega, *]); (try simp only [zUpon]); (first | exact ⟨rfl, Below.refl _ _⟩ | fail))); (try go_simp))
          (refine wz_do (by decide) (by decide) C0e.es (growsB (by simp)) ?_ ?_; (focus (first | rfl | (go_simp; done))); apply Exists.intro; refine ⟨fun bs hok wx hwx hL => ?_, ?_⟩; (focus ((have hwx : Below _ _ wx := hwx; have hcx := cellA hwx; have hfx := frozA hwx; have hzx := hwx.size; (try simp at hzx)); unfold zAt; (try simp [go_sem, BigFrame.eval_const, BigFrame.eval_global, BigFrame.eval_func, ↓IntWalk.iteOmega, *]); (try simp only [zUpon]); (first | exact ⟨rfl, Below.refl _ _⟩ | fail))); (try go_simp))
          (refine wz_do (by decide) (by decide) C0e.es (growsB (by simp)) ?_ ?_; (focus (first | rfl | (go_simp; done))); apply Exists.intro; refine ⟨fun bs hok wx hwx hL => ?_, ?_⟩; (focus ((have hwx : Below _ _ wx := hwx; have hcx := cellA hwx; have hfx := frozA hwx; have hzx := hwx.size; (try simp at hzx)); unfold zAt; (try simp [go_sem, BigFrame.eval_const, BigFrame.eval_global, BigFrame.eval_func, ↓IntWalk.iteOmega, *]); (try simp only [zUpon]); (first | exact ⟨rfl, Below.refl _ _⟩ | fail))); (try go_simp))
          (refine wz_do (by decide) (by decide) C0e.es (growsB (by simp)) ?_ ?_; (focus (first | rfl | (go_simp; done))); apply Exists.intro; refine ⟨fun bs hok wx hwx hL => ?_, ?_⟩; (focus ((have hwx : Below _ _ wx := hwx; have hcx := cellA hwx; have hfx := frozA hwx; have hzx := hwx.size; (try simp at hzx)); unfold zAt; (try simp [go_sem, BigFrame.eval_const, BigFrame.eval_global, BigFrame.eval_func, ↓IntWalk.iteOmega, *]); (try simp only [zUpon]); (first | exact ⟨rfl, Below.refl _ _⟩ | fail))); (try go_simp))
          (refine wz_do (by decide) (by decide) C0e.es (growsB (by simp)) ?_ ?_; (focus (first | rfl | (go_simp; done))); apply Exists.intro; refine ⟨fun bs hok wx hwx hL => ?_, ?_⟩; (focus ((have hwx : Below _ _ wx := hwx; have hcx := cellA hwx; have hfx := frozA hwx; have hzx := hwx.size; (try simp at hzx)); unfold zAt; (try simp [go_sem, BigFrame.eval_const, BigFrame.eval_global, BigFrame.eval_func, ↓IntWalk.iteOmega, *]); (try simp only [zUpon]); (first | exact ⟨rfl, Below.refl _ _⟩ | fail))); (try go_simp))
          (refine wz_do (by decide) (by decide) C0e.es (growsB (by simp)) ?_ ?_; (focus (first | rfl | (go_simp; done))); apply Exists.intro; refine ⟨fun bs hok wx hwx hL => ?_, ?_⟩; (focus ((have hwx : Below _ _ wx := hwx; have hcx := cellA hwx; have hfx := frozA hwx; have hzx := hwx.size; (try simp at hzx)); unfold zAt; (try simp [go_sem, BigFrame.eval_const, BigFrame.eval_global, BigFrame.eval_func, ↓IntWalk.iteOmega, *]); (try simp only [zUpon]); (first | exact ⟨rfl, Below.refl _ _⟩ | fail))); (try go_simp))
          refine wz_nil ?_
          intro wq hbq hLq
          clear hLq 
          have hcwq := cellA hbq
          have hfwq := frozA hbq
          have hzwq := hbq.size
          try simp at hzwq
          go_wp2_with fail
          go_roundw
          case rel =>
            refine ⟨k + 1, by omega, by go_num, ?_, ?_, ?_, ?_, ?_⟩
            · rw [HS1.out, ← HLE.out.1, ← HLE.out.2.1, app_arr]
            · rw [HS2.out, ← HLE.out.1, ← HLE.out.2.2, app_arr]
            · rw [HS2.out, ← HLE.out.1, ← HLE.out.2.2, List.length_append]; omega
            · rw [HS1.out, ← HLE.out.1, ← HLE.out.2.1, List.length_append]; omega
            · refine ((HBR.out.alloc HBR.out.size _).trans (HB2.out.mono ?_)).trans (hbq.mono ?_)
              · have := HBR.out.size; simp; omega
              · have := HBR.out.size; have := HB2.out.size; simp at this; omega
          case measure => simp [intOf]; omega
      · obtain rfl : k = L.length := by omega
        have e0 : L.take L.length = L := List.take_length ..
        have e1 : plainD bin (sentF bin L) = L.flatten := plain_sent bin L
        have e2 : plainR bin (sentF bin L) = L.flatten := (plain_eq bin _).trans e1
        rw [e0] at hz1 hz2 hf1 hf2 ⊢
        have PD := fun (x : World) => (refPlain_any bin ⟨(sentF bin L).toArray⟩ x (by omega))
        have PR := fun (x : World) => (plain_any bin ⟨(sentF bin L).toArray⟩ x (by omega))
        simp only [bytes_of, e1] at PD
        simp only [bytes_of, e2] at PR
        have PD := Lib.hid PD
        have PR := Lib.hid PR
        clear e0 e1 e2
        go_wp2_with (first | (go_at_call 8; refine (PD.out _).mono ?_; rintro e w2 ⟨rfl, hb2⟩; have HB2 := Lib.hid hb2; clear hb2) | (go_at_call 9; refine (PR.out _).mono ?_; rintro e w3 ⟨rfl, hb3⟩; have HB3 := Lib.hid hb3; clear hb3) | (go_at_call 7; refine (data_nil bin _ ((HGR.out.below HB2.out).below HB3.out)).mono ?_; rintro e w4 ⟨rfl, hb4⟩; have HB4 := Lib.hid hb4; clear hb4))
        go_ret
        refine ⟨rfl, ?_⟩
        have z1 := HB1.out.size
        have z2 := HBR.out.size
        have z3 := HB2.out.size
        have z4 := HB3.out.size
        exact (((HB1.out.trans (HBR.out.mono z1)).trans (HB2.out.mono (by omega))).trans (HB3.out.mono (by omega))).trans (HB4.out.mono (by omega))
end Go.Proofs.YtemdhbjcdibpfaaDoor.W10
