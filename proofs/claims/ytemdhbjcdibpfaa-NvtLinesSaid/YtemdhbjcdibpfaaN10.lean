/- NvtGiven: the walk -/
import Derived.Test.YtemdhbjcdibpfaaN9
import Derived.Lib.SmallJoins
namespace Go.Proofs.Ytemdhbjcdibpfaa.N10
set_option linter.unusedVariables false
set_option linter.unusedSimpArgs false
set_option linter.unnecessarySimpa false
open Go.RowKit K1 K3 K5 K11 K12 K14 N0 N1 N2 N3 N4 N5 N6 N7 N8 N9
attribute [local go_sem] cell_pastA froz_pastA
def L1 (body : ByteArray) (c o : UInt8) (more : ByteArray) : Nat → ByteArray := fun k => if k = 0 then ⟨#[255, 250, 5]⟩ else if k = 1 then body else ⟨#[255, c, o]⟩ ++ more
theorem tok_at : ∀ (l : List Tok) (k : Nat) (h : k < l.length), (l.flatMap tokCells)[k * 4]? = some (.int .i64 l[k].kind) ∧ (l.flatMap tokCells)[k * 4 + 1]? = some (.int .i64 l[k].cmd) ∧ (l.flatMap tokCells)[k * 4 + 2]? = some (.int .i64 l[k].opt) ∧ (l.flatMap tokCells)[k * 4 + 3]? = some (.string ⟨l[k].text.toArray⟩)
  | [], k, h => by simp at h
  | t :: l, 0, h => ⟨rfl, rfl, rfl, rfl⟩
  | t :: l, k + 1, h => by
    have ih := tok_at l k (by simpa using h)
    have e : ∀ j, ((t :: l).flatMap tokCells)[(k + 1) * 4 + j]? = (l.flatMap tokCells)[k * 4 + j]? := fun j => by
      rw [List.flatMap_cons, List.getElem?_append_right (by simp [tokCells]; omega)]
      congr 1
      simp [tokCells]
      omega
    exact ⟨(e 0).trans ih.1, (e 1).trans ih.2.1, (e 2).trans ih.2.2.1, (e 3).trans ih.2.2.2⟩
set_option maxHeartbeats 4000000 in
set_option maxRecDepth 100000 in
theorem given_any (body more : ByteArray) (cmd o : Int) (w : World) (hc1 : -9223372036854775808 ≤ cmd) (hc2 : cmd ≤ 9223372036854775807) :
    Calls Try.prog 5 #[.string body, .int .i64 cmd, .int .i64 o, .string more] w fun e w' => e = .returned (.bool true) ∧ Below w.heap.size w w' := by
  by_cases hbad : body.size > 60 ∨ more.size > 200 ∨ o < 0 ∨ o > 255
  · go_enter Try.func5, Try.ntmps5
    go_wp2_with (go_at_call 7; refine (alive_any _).mono ?_; rintro e w1 ⟨rfl, hb1⟩)
    all_goals
      go_ret
      exact ⟨rfl, by repeat' (first | with_reducible assumption | with_reducible exact Below.refl _ _ | with_reducible apply Below.alloc | with_reducible apply Below.setCell | with_reducible apply Below.drew | (refine Below.trans ?_ (Below.mono (by with_reducible assumption) ?_)) | omega | (simp; omega) | (simp; done))⟩
  · obtain ⟨hs1, hs2, ho1, ho2⟩ : body.size ≤ 60 ∧ more.size ≤ 200 ∧ 0 ≤ o ∧ o ≤ 255 := by omega
    clear hbad
    obtain ⟨ob, rfl⟩ : ∃ ob : UInt8, o = ob.toNat := ⟨UInt8.ofNat o.toNat, by rw [UInt8.toNat_ofNat']; omega⟩
    have hom : (ob.toNat : Int) % 256 = ob.toNat := by have := ob.toNat_lt; omega
    have hX : 240 ≤ wrap64 (240 + (wrap64 (cmd.tmod 15 + 15)).tmod 15) % 256 ∧ wrap64 (240 + (wrap64 (cmd.tmod 15 + 15)).tmod 15) % 256 ≤ 254 := by
      have h1 := Int.tmod_lt_of_pos cmd (show (0:Int) < 15 by decide)
      have h2 := Int.lt_tmod_of_pos cmd (show (0:Int) < 15 by decide)
      have h3 : wrap64 (cmd.tmod 15 + 15) = cmd.tmod 15 + 15 := by unfold wrap64; omega
      rw [h3]
      have h4 := Int.tmod_nonneg 15 (show 0 ≤ cmd.tmod 15 + 15 by omega)
      have h5 := Int.tmod_lt_of_pos (cmd.tmod 15 + 15) (show (0:Int) < 15 by decide)
      unfold wrap64
      omega
    obtain ⟨X, hXe⟩ : ∃ X, wrap64 (240 + (wrap64 (cmd.tmod 15 + 15)).tmod 15) % 256 = X := ⟨_, rfl⟩
    rw [hXe] at hX
    by_cases hX0 : X = 240
    · rw [hX0] at hXe
      have hcv : ∀ (W : World) (g : Nat), g = W.heap.size → (convert 39 9 (.slice (some ⟨g, 0, none⟩) 3 3)).run Try.prog (W.alloc (.cells #[.int .u8 255, .int .u8 241, .int .u8 ob.toNat] 5)) = .ok (.string ⟨#[255, 241, ob]⟩) (W.alloc (.cells #[.int .u8 255, .int .u8 241, .int .u8 ob.toNat] 5)) := by
        rintro W g rfl
        exact conv_own (l := [255, 241, ob]) (own_new W _ 5 3 (by decide) rfl) rfl
      have HAL := Lib.hid hX
      clear hX
      go_enter Try.func5, Try.ntmps5
      go_wp2_with (go_at_call 7; refine (alive_any _).mono ?_; rintro e w1 ⟨rfl, hb1⟩)
      go_loop [10] (fun i => ∃ k : Nat, k ≤ body.size ∧ i = .int .i64 k ∧ ∀ x ∈ body.data.toList.take k, x.toNat ≠ 255) (fun i => body.size - (intOf i).toNat)
      case atStart => exact ⟨0, by omega, rfl, by simp⟩
      case round =>
        obtain ⟨k, hk, rfl, hall⟩ := hrel
        have HALL := Lib.hid hall
        clear hall
        by_cases hlt : k < body.size
        · by_cases h255 : (body[k]).toNat = 255
          · have hq : (((body[k]).toNat : Int) == 255) = true := by simp; omega
            go_wp2_with fail
            go_ret
            exact ⟨rfl, by repeat' (first | with_reducible assumption | with_reducible exact Below.refl _ _ | with_reducible apply Below.alloc | with_reducible apply Below.setCell | with_reducible apply Below.drew | (refine Below.trans ?_ (Below.mono (by with_reducible assumption) ?_)) | omega | (simp; omega) | (simp; done))⟩
          · have hq : (((body[k]).toNat : Int) == 255) = false := by simp; omega
            go_wp2_with fail
            go_round
            case rel => exact ⟨k + 1, by omega, by go_num, by rw [take_snoc body k hlt]; intro x hx; rw [List.mem_append, List.mem_singleton] at hx; rcases hx with hx | rfl; exact HALL.out x hx; exact h255⟩
            case measure => simp [intOf]; omega
        · obtain rfl : k = body.size := by omega
          go_wp2_with fail
          have hall2 : ∀ x ∈ body.data.toList, x.toNat ≠ 255 := by have := HALL.out; rwa [List.take_of_length_le (by simp)] at this
          have HEQ := Lib.hid (given body.data.toList more.data.toList 241 ob hall2 (by first | decide | (have := HAL.out; omega)) (by first | decide | (have := HAL.out; omega)))
          clear hall2
          obtain ⟨b1, hb1e⟩ : ∃ b1, b1 = w1.heap.size := ⟨_, rfl⟩
          rw [← hb1e]
          refine (feed_any b1 [b1] false (new false) _ (b1 + 1 + 1 + 1) 0 3 3 (L1 body 241 ob more) ?_ ?_ ?_ ?_ ?_ ?_ ?_).mono ?_
          · exact rdr_new (by rw [hb1e]; exact (blk_alloc (blk_alloc (blk_alloc (heap_alloc_new w1 _)))).trans rfl)
          · intro k hk
            obtain rfl | rfl | rfl : k = 0 ∨ k = 1 ∨ k = 2 := by omega
            · refine (cell_new (by simp [hb1e])).trans ?_; simp [L1]
            · refine (cell_new (by simp [hb1e])).trans ?_; simp [L1]
            · refine (cell_new (by simp [hb1e])).trans ?_; simp [L1]
          · simp; omega
          · simp; omega
          · have h3 : (⟨#[255, 250, 5]⟩ : ByteArray).size = 3 := rfl
            have h4 : (⟨#[255, 241, ob]⟩ : ByteArray).size = 3 := rfl
            simp [tot, L1, wgt, new, ByteArray.size_append, h3, h4]; omega
          · simp [new]
          · omega
          rintro e wx ⟨v, S1, rfl, hv, hO1, hM1, hd1⟩
          have HV := Lib.hid hv
          have HO1 := Lib.hid hO1
          have HM1 := Lib.hid hM1
          have HD1 := Lib.hid hd1
          have hsx := hM1.size
          simp at hsx
          have hbx : wx.heap[b1 + 1]? = some (.cells (cellsR false (new false) (.slice none 0 0) (.slice none 0 0) (.slice none 0 0)) 42 (0, 0)) :=
            (hM1.keep (k := b1 + 1) (by simp; omega) (by simp)).trans ((blk_alloc (blk_alloc (blk_new (by simp [hb1e])))).trans (by kernel_rfl))
          have HBX := Lib.hid hbx
          have HB1E := Lib.hid hb1e
          clear hv hO1 hM1 hd1 hbx hb1e
          go_wp2_with fail
          refine (feed_any (b1 + 1) [b1 + 1] false (new false) _ wx.heap.size 0 1 1 (fun _ => ⟨#[255, 241, ob]⟩ ++ more) ?_ ?_ ?_ ?_ ?_ ?_ ?_).mono ?_
          · exact rdr_new (blk_alloc HBX.out)
          · intro k hk
            obtain rfl : k = 0 := by omega
            refine (cell_new rfl).trans ?_
            rfl
          · simp
          · have := HB1E.out; simp; omega
          · have h4 : (⟨#[255, 241, ob]⟩ : ByteArray).size = 3 := rfl
            simp [tot, wgt, new, ByteArray.size_append, h4]; omega
          · simp [new]
          · omega
          rintro e wy ⟨u, S2, rfl, hu, hO2, hM2, hd2⟩
          have hsy := hM2.size
          simp at hsy
          have hout := eqv_end HEQ.out
          have e1 : fedN (new false) (L1 body 241 ob more) 3 = fedS (fedS (fedS (new false) [255, 250, 5]) body.data.toList) (255 :: 241 :: ob :: more.data.toList) := by simp [fedN, L1]
          have e2 : fedN (new false) (fun _ => ⟨#[255, 241, ob]⟩ ++ more) 1 = fedS (new false) (255 :: 241 :: ob :: more.data.toList) := by simp [fedN]
          have hlm : (flushF (fedN (new false) (L1 body 241 ob more) 3)).out.length ≤ 1099511627776 := by
            have hw := (fedN_le (L1 body 241 ob more) (new false) (by simp [new]) 3).1
            have hf := wgt_flush (fedN (new false) (L1 body 241 ob more) 3)
            have h3 : (⟨#[255, 250, 5]⟩ : ByteArray).size = 3 := rfl
            have h4 : (⟨#[255, 241, ob]⟩ : ByteArray).size = 3 := rfl
            have ht : tot (L1 body 241 ob more) 3 = 3 + body.size + (3 + more.size) := by simp [tot, L1, ByteArray.size_append, h3, h4]
            have hn0 : wgt (new false) = 0 := rfl
            have : (flushF (fedN (new false) (L1 body 241 ob more) 3)).out.length ≤ wgt (flushF (fedN (new false) (L1 body 241 ob more) 3)) := by unfold wgt; omega
            omega
          rw [e1] at hlm
          have hv := HV.out
          have hO1 := HO1.out
          have hM1 := HM1.out
          have hd1 := HD1.out
          rw [e1] at hv hO1
          rw [e2] at hu hO2
          clear HV HO1 HM1 HD1 e1 e2 HEQ
          obtain ⟨q1, hq1⟩ : ∃ q, q = flushF (fedS (fedS (fedS (new false) [255, 250, 5]) body.data.toList) (255 :: 241 :: ob :: more.data.toList)) := ⟨_, rfl⟩
          obtain ⟨q2, hq2⟩ : ∃ q, q = flushF (fedS (new false) (255 :: 241 :: ob :: more.data.toList)) := ⟨_, rfl⟩
          rw [← hq1, ← hq2] at hout
          rw [← hq1] at hv hO1 hlm
          rw [← hq2] at hu hO2
          obtain ⟨o1, o2, o3⟩ := hout
          clear hq1 hq2
          have hb1e := HB1E.out
          have hsub1 : ∀ k, k ∈ S1 ∨ k ∈ foot v → k ≠ b1 + 1 ∧ w.heap.size ≤ k := fun k hk => by
            have hz := hb1.size
            rcases hM1.sub k (by simpa using hk) with h | h
            · simp at h; omega
            · simp at h; omega
          have hsub2 : ∀ k ∈ S2 ++ foot u, w.heap.size ≤ k := fun k hk => by
            have hz := hb1.size
            rcases hM2.sub k hk with h | h
            · simp at h; omega
            · simp at h; omega
          have HBW := Lib.hid (show Below w.heap.size w wy by
            have h1 := hM1.below (B := w.heap.size) (by have := hb1.size; simp; omega) (by have := hb1.size; simp; omega)
            have h2 := hM2.below (B := w.heap.size) (by have := hb1.size; simp; omega) (by have := hb1.size; simp; omega)
            refine Below.trans (Below.trans (Below.trans ?_ h1) ?_) h2
            · have hz := hb1.size
              repeat' (first | with_reducible assumption | with_reducible exact Below.refl _ _ | with_reducible apply Below.alloc | with_reducible apply Below.setCell | with_reducible apply Below.drew | (refine Below.trans ?_ (Below.mono (by with_reducible assumption) ?_)) | omega | (simp; omega) | (simp; done))
            · exact (Below.refl _ _).alloc (by have := hb1.size; omega) _)
          have hv2 := own_keep (own_keep hv (fun k hk => Below.heap_alloc _ _ _ (own_lt hv k hk))) (fun k hk => hM2.keep (by have := own_lt hv k hk; simp; omega) (by simpa using (hsub1 k (.inr hk)).1))
          have hO1' := Rdr.frame (Rdr.frame hO1 (Fr.of_below (S := []) ((Below.refl wx.heap.size wx).alloc (Nat.le_refl _) _)) (Nat.le_refl _) (by simp)) hM2.fr (Nat.le_refl _) (fun k hk => by simpa using (hsub1 k (.inl hk)).1)
          have HA := Lib.hid hO1'
          have HB := Lib.hid hO2
          clear hv hO1 hM1 hM2 hO1' hO2 hd1 hd2 hsub1 hsub2
          obtain ⟨ll, hl⟩ : ∃ l, l = q1.out := ⟨_, rfl⟩
          rw [← hl] at hv2
          rw [← o1, ← hl] at hu
          obtain ⟨va', vc', rfl, -⟩ := own_slice hv2
          obtain ⟨ua, uc, rfl, -⟩ := own_slice hu
          have HV := Lib.hid hv2
          have HU := Lib.hid hu
          have HQ := Lib.hid (And.intro o2 o3)
          rw [← hl] at hlm
          clear hv2 hu o1 o2 o3 hl hb1e hsx hsy
          go_wp2_with fail
          go_loopw [16] (fun i wr => ∃ k : Nat, k ≤ ll.length ∧ i = .int .i64 k ∧ Below wy.heap.size wy wr) (fun i _ => ll.length - (intOf i).toNat)
          case atStart => exact ⟨0, by omega, rfl, Below.refl _ _⟩
          case round =>
            obtain ⟨k, hk, rfl, hbr⟩ := hrel
            by_cases hlt : k < ll.length
            · obtain ⟨g1, cp1, hf1, -, hg1⟩ := HV.out.form (by omega)
              obtain ⟨g2, cp2, hf2, -, hg2⟩ := HU.out.form (by omega)
              simp only [Value.slice.injEq, true_and] at hf1 hf2
              obtain ⟨rfl, rfl⟩ := hf1
              obtain ⟨rfl, rfl⟩ := hf2
              obtain ⟨t0, t1, t2, t3⟩ := tok_at ll k hlt
              have a0 := (hbr.cell (p := ⟨g1, k * 4, none⟩) hg1).trans (own_at HV.out t0)
              have a1 := (hbr.cell (p := ⟨g1, k * 4 + 1, none⟩) hg1).trans (own_at HV.out t1)
              have a2 := (hbr.cell (p := ⟨g1, k * 4 + 2, none⟩) hg1).trans (own_at HV.out t2)
              have a3 := (hbr.cell (p := ⟨g1, k * 4 + 3, none⟩) hg1).trans (own_at HV.out t3)
              have d0 := (hbr.cell (p := ⟨g2, k * 4, none⟩) hg2).trans (own_at HU.out t0)
              have d1 := (hbr.cell (p := ⟨g2, k * 4 + 1, none⟩) hg2).trans (own_at HU.out t1)
              have d2 := (hbr.cell (p := ⟨g2, k * 4 + 2, none⟩) hg2).trans (own_at HU.out t2)
              have d3 := (hbr.cell (p := ⟨g2, k * 4 + 3, none⟩) hg2).trans (own_at HU.out t3)
              generalize ll[k] = tk at *
              have HBR := Lib.hid hbr
              have hwr := hbr.size
              clear hbr t0 t1 t2 t3
              go_wp2_with fail
              refine wp_region_quiet0 (w := _) [] [] 9 (by kernel_rfl) (by kernel_rfl) (fun _ _ dx _ _ hx => by cases dx <;> exact hx) ?_
              simp only [numbered, List.take_succ_cons, List.take_zero, List.drop_succ_cons, List.drop_zero, List.take_nil, List.drop_nil, Nat.reduceAdd]
              (refine wz_do (by decide) (by decide) C0e.es (growsB (by simp)) ?_ ?_; (focus (first | rfl | (go_simp; done))); apply Exists.intro; refine ⟨fun bs hok wx hwx hL => ?_, ?_⟩; (focus ((have hwx : Below _ _ wx := hwx; have hcx := cellA hwx; have hfx := frozA hwx; have hzx := hwx.size; (try simp at hzx)); unfold zAt; (try simp [go_sem, BigFrame.eval_const, BigFrame.eval_global, BigFrame.eval_func, ↓IntWalk.iteOmega, *]); (try simp only [zUpon]); (first | exact ⟨rfl, Below.refl _ _⟩ | fail))); (try go_simp))
              (refine wz_do (by decide) (by decide) C0e.es (growsB (by simp)) ?_ ?_; (focus (first | rfl | (go_simp; done))); apply Exists.intro; refine ⟨fun bs hok wx hwx hL => ?_, ?_⟩; (focus ((have hwx : Below _ _ wx := hwx; have hcx := cellA hwx; have hfx := frozA hwx; have hzx := hwx.size; (try simp at hzx)); unfold zAt; (try simp [go_sem, BigFrame.eval_const, BigFrame.eval_global, BigFrame.eval_func, ↓IntWalk.iteOmega, *]); (try simp only [zUpon]); (first | exact ⟨rfl, Below.refl _ _⟩ | fail))); (try go_simp))
              (refine wz_do (by decide) (by decide) C0e.es (growsB (by simp)) ?_ ?_; (focus (first | rfl | (go_simp; done))); apply Exists.intro; refine ⟨fun bs hok wx hwx hL => ?_, ?_⟩; (focus ((have hwx : Below _ _ wx := hwx; have hcx := cellA hwx; have hfx := frozA hwx; have hzx := hwx.size; (try simp at hzx)); unfold zAt; (try simp [go_sem, BigFrame.eval_const, BigFrame.eval_global, BigFrame.eval_func, ↓IntWalk.iteOmega, *]); (try simp only [zUpon]); (first | exact ⟨rfl, Below.refl _ _⟩ | fail))); (try go_simp))
              (refine wz_do (by decide) (by decide) C0e.es (growsB (by simp)) ?_ ?_; (focus (first | rfl | (go_simp; done))); apply Exists.intro; refine ⟨fun bs hok wx hwx hL => ?_, ?_⟩; (focus ((have hwx : Below _ _ wx := hwx; have hcx := cellA hwx; have hfx := frozA hwx; have hzx := hwx.size; (try simp at hzx)); unfold zAt; (try simp [go_sem, BigFrame.eval_const, BigFrame.eval_global, BigFrame.eval_func, ↓IntWalk.iteOmega, *]); (try simp only [zUpon]); (first | exact ⟨rfl, Below.refl _ _⟩ | fail))); (try go_simp))
              (refine wz_do (by decide) (by decide) C0e.es (growsB (by simp)) ?_ ?_; (focus (first | rfl | (go_simp; done))); apply Exists.intro; refine ⟨fun bs hok wx hwx hL => ?_, ?_⟩; (focus ((have hwx : Below _ _ wx := hwx; have hcx := cellA hwx; have hfx := frozA hwx; have hzx := hwx.size; (try simp at hzx)); unfold zAt; (try simp [go_sem, BigFrame.eval_const, BigFrame.eval_global, BigFrame.eval_func, ↓IntWalk.iteOmega, *]); (try simp only [zUpon]); (first | exact ⟨rfl, Below.refl _ _⟩ | fail))); (try go_simp))
              (refine wz_do (by decide) (by decide) C0e.es (growsB (by simp)) ?_ ?_; (focus (first | rfl | (go_simp; done))); apply Exists.intro; refine ⟨fun bs hok wx hwx hL => ?_, ?_⟩; (focus ((have hwx : Below _ _ wx := hwx; have hcx := cellA hwx; have hfx := frozA hwx; have hzx := hwx.size; (try simp at hzx)); unfold zAt; (try simp [go_sem, BigFrame.eval_const, BigFrame.eval_global, BigFrame.eval_func, ↓IntWalk.iteOmega, *]); (try simp only [zUpon]); (first | exact ⟨rfl, Below.refl _ _⟩ | fail))); (try go_simp))
              (refine wz_do (by decide) (by decide) C0e.es (growsB (by simp)) ?_ ?_; (focus (first | rfl | (go_simp; done))); apply Exists.intro; refine ⟨fun bs hok wx hwx hL => ?_, ?_⟩; (focus ((have hwx : Below _ _ wx := hwx; have hcx := cellA hwx; have hfx := frozA hwx; have hzx := hwx.size; (try simp at hzx)); unfold zAt; (try simp [go_sem, BigFrame.eval_const, BigFrame.eval_global, BigFrame.eval_func, ↓IntWalk.iteOmega, *]); (try simp only [zUpon]); (first | exact ⟨rfl, Below.refl _ _⟩ | fail))); (try go_simp))
              (refine wz_do (by decide) (by decide) C0e.es (growsB (by simp)) ?_ ?_; (focus (first | rfl | (go_simp; done))); apply Exists.intro; refine ⟨fun bs hok wx hwx hL => ?_, ?_⟩; (focus ((have hwx : Below _ _ wx := hwx; have hcx := cellA hwx; have hfx := frozA hwx; have hzx := hwx.size; (try simp at hzx)); unfold zAt; (try simp [go_sem, BigFrame.eval_const, BigFrame.eval_global, BigFrame.eval_func, ↓IntWalk.iteOmega, *]); (try simp only [zUpon]); (first | exact ⟨rfl, Below.refl _ _⟩ | fail))); (try go_simp))
              (refine wz_do (by decide) (by decide) C0e.es (growsB (by simp)) ?_ ?_; (focus (first | rfl | (go_simp; done))); apply Exists.intro; refine ⟨fun bs hok wx hwx hL => ?_, ?_⟩; (focus ((have hwx : Below _ _ wx := hwx; have hcx := cellA hwx; have hfx := frozA hwx; have hzx := hwx.size; (try simp at hzx)); unfold zAt; (try simp [go_sem, BigFrame.eval_const, BigFrame.eval_global, BigFrame.eval_func, ↓IntWalk.iteOmega, *]); (try simp only [zUpon]); (first | exact ⟨rfl, Below.refl _ _⟩ | fail))); (try go_simp))
              refine wz_nil ?_
              intro wq hbq hLq
              clear hLq 
              have hcwq := cellA hbq
              have hfwq := frozA hbq
              have hzwq := hbq.size
              try simp at hzwq
              go_wp2_with fail
              go_roundw
              case rel => exact ⟨k + 1, by omega, by go_num, HBR.out.trans (hbq.mono hwr)⟩
              case measure => simp [intOf]; omega
            · obtain rfl : k = ll.length := by omega
              have HA2 := Lib.hid (Rdr.frame HA.out (Fr.of_below (S := []) hbr) (Nat.le_refl _) (by simp))
              have HB2 := Lib.hid (Rdr.frame HB.out (Fr.of_below (S := []) hbr) (Nat.le_refl _) (by simp))
              have HBR := Lib.hid hbr
              clear hbr
              go_wp2_with (first | (go_at_call 9; refine (whole_any _ _ _ _ _ (by first | exact HA2.out | exact HB2.out)).mono ?_; rintro e wz ⟨rfl, rfl⟩) | (go_at_call 16; refine (sub_any _ _ _ _ _ (by first | exact HA2.out | exact HB2.out)).mono ?_; rintro e wz ⟨rfl, rfl⟩))
              · go_ret
                obtain ⟨o2, o3⟩ := HQ.out
                have o3' : q1.sub.length = q2.sub.length := by rw [o3]
                refine ⟨?_, HBW.out.trans (HBR.out.mono (by have := HBW.out.size; omega))⟩
                simp [o3']
              · have hne : ¬(q1.st = 0 ↔ q2.st = 0) := by assumption
                exact absurd (by rw [HQ.out.1]) hne
    · obtain ⟨c, rfl⟩ : ∃ c : UInt8, X = c.toNat := ⟨UInt8.ofNat X.toNat, by rw [UInt8.toNat_ofNat']; omega⟩
      have hcn : ((c.toNat : Int) == 240) = false := by simp; omega
      have hcv : ∀ (W : World) (g : Nat), g = W.heap.size → (convert 39 9 (.slice (some ⟨g, 0, none⟩) 3 3)).run Try.prog (W.alloc (.cells #[.int .u8 255, .int .u8 c.toNat, .int .u8 ob.toNat] 5)) = .ok (.string ⟨#[255, c, ob]⟩) (W.alloc (.cells #[.int .u8 255, .int .u8 c.toNat, .int .u8 ob.toNat] 5)) := by
        rintro W g rfl
        exact conv_own (l := [255, c, ob]) (own_new W _ 5 3 (by decide) rfl) rfl
      have HAL := Lib.hid hX
      clear hX
      go_enter Try.func5, Try.ntmps5
      go_wp2_with (go_at_call 7; refine (alive_any _).mono ?_; rintro e w1 ⟨rfl, hb1⟩)
      go_loop [10] (fun i => ∃ k : Nat, k ≤ body.size ∧ i = .int .i64 k ∧ ∀ x ∈ body.data.toList.take k, x.toNat ≠ 255) (fun i => body.size - (intOf i).toNat)
      case atStart => exact ⟨0, by omega, rfl, by simp⟩
      case round =>
        obtain ⟨k, hk, rfl, hall⟩ := hrel
        have HALL := Lib.hid hall
        clear hall
        by_cases hlt : k < body.size
        · by_cases h255 : (body[k]).toNat = 255
          · have hq : (((body[k]).toNat : Int) == 255) = true := by simp; omega
            go_wp2_with fail
            go_ret
            exact ⟨rfl, by repeat' (first | with_reducible assumption | with_reducible exact Below.refl _ _ | with_reducible apply Below.alloc | with_reducible apply Below.setCell | with_reducible apply Below.drew | (refine Below.trans ?_ (Below.mono (by with_reducible assumption) ?_)) | omega | (simp; omega) | (simp; done))⟩
          · have hq : (((body[k]).toNat : Int) == 255) = false := by simp; omega
            go_wp2_with fail
            go_round
            case rel => exact ⟨k + 1, by omega, by go_num, by rw [take_snoc body k hlt]; intro x hx; rw [List.mem_append, List.mem_singleton] at hx; rcases hx with hx | rfl; exact HALL.out x hx; exact h255⟩
            case measure => simp [intOf]; omega
        · obtain rfl : k = body.size := by omega
          go_wp2_with fail
          have hall2 : ∀ x ∈ body.data.toList, x.toNat ≠ 255 := by have := HALL.out; rwa [List.take_of_length_le (by simp)] at this
          have HEQ := Lib.hid (given body.data.toList more.data.toList c ob hall2 (by first | decide | (have := HAL.out; omega)) (by first | decide | (have := HAL.out; omega)))
          clear hall2
          obtain ⟨b1, hb1e⟩ : ∃ b1, b1 = w1.heap.size := ⟨_, rfl⟩
          rw [← hb1e]
          refine (feed_any b1 [b1] false (new false) _ (b1 + 1 + 1 + 1) 0 3 3 (L1 body c ob more) ?_ ?_ ?_ ?_ ?_ ?_ ?_).mono ?_
          · exact rdr_new (by rw [hb1e]; exact (blk_alloc (blk_alloc (blk_alloc (heap_alloc_new w1 _)))).trans rfl)
          · intro k hk
            obtain rfl | rfl | rfl : k = 0 ∨ k = 1 ∨ k = 2 := by omega
            · refine (cell_new (by simp [hb1e])).trans ?_; simp [L1]
            · refine (cell_new (by simp [hb1e])).trans ?_; simp [L1]
            · refine (cell_new (by simp [hb1e])).trans ?_; simp [L1]
          · simp; omega
          · simp; omega
          · have h3 : (⟨#[255, 250, 5]⟩ : ByteArray).size = 3 := rfl
            have h4 : (⟨#[255, c, ob]⟩ : ByteArray).size = 3 := rfl
            simp [tot, L1, wgt, new, ByteArray.size_append, h3, h4]; omega
          · simp [new]
          · omega
          rintro e wx ⟨v, S1, rfl, hv, hO1, hM1, hd1⟩
          have HV := Lib.hid hv
          have HO1 := Lib.hid hO1
          have HM1 := Lib.hid hM1
          have HD1 := Lib.hid hd1
          have hsx := hM1.size
          simp at hsx
          have hbx : wx.heap[b1 + 1]? = some (.cells (cellsR false (new false) (.slice none 0 0) (.slice none 0 0) (.slice none 0 0)) 42 (0, 0)) :=
            (hM1.keep (k := b1 + 1) (by simp; omega) (by simp)).trans ((blk_alloc (blk_alloc (blk_new (by simp [hb1e])))).trans (by kernel_rfl))
          have HBX := Lib.hid hbx
          have HB1E := Lib.hid hb1e
          clear hv hO1 hM1 hd1 hbx hb1e
          go_wp2_with fail
          refine (feed_any (b1 + 1) [b1 + 1] false (new false) _ wx.heap.size 0 1 1 (fun _ => ⟨#[255, c, ob]⟩ ++ more) ?_ ?_ ?_ ?_ ?_ ?_ ?_).mono ?_
          · exact rdr_new (blk_alloc HBX.out)
          · intro k hk
            obtain rfl : k = 0 := by omega
            refine (cell_new rfl).trans ?_
            rfl
          · simp
          · have := HB1E.out; simp; omega
          · have h4 : (⟨#[255, c, ob]⟩ : ByteArray).size = 3 := rfl
            simp [tot, wgt, new, ByteArray.size_append, h4]; omega
          · simp [new]
          · omega
          rintro e wy ⟨u, S2, rfl, hu, hO2, hM2, hd2⟩
          have hsy := hM2.size
          simp at hsy
          have hout := eqv_end HEQ.out
          have e1 : fedN (new false) (L1 body c ob more) 3 = fedS (fedS (fedS (new false) [255, 250, 5]) body.data.toList) (255 :: c :: ob :: more.data.toList) := by simp [fedN, L1]
          have e2 : fedN (new false) (fun _ => ⟨#[255, c, ob]⟩ ++ more) 1 = fedS (new false) (255 :: c :: ob :: more.data.toList) := by simp [fedN]
          have hlm : (flushF (fedN (new false) (L1 body c ob more) 3)).out.length ≤ 1099511627776 := by
            have hw := (fedN_le (L1 body c ob more) (new false) (by simp [new]) 3).1
            have hf := wgt_flush (fedN (new false) (L1 body c ob more) 3)
            have h3 : (⟨#[255, 250, 5]⟩ : ByteArray).size = 3 := rfl
            have h4 : (⟨#[255, c, ob]⟩ : ByteArray).size = 3 := rfl
            have ht : tot (L1 body c ob more) 3 = 3 + body.size + (3 + more.size) := by simp [tot, L1, ByteArray.size_append, h3, h4]
            have hn0 : wgt (new false) = 0 := rfl
            have : (flushF (fedN (new false) (L1 body c ob more) 3)).out.length ≤ wgt (flushF (fedN (new false) (L1 body c ob more) 3)) := by unfold wgt; omega
            omega
          rw [e1] at hlm
          have hv := HV.out
          have hO1 := HO1.out
          have hM1 := HM1.out
          have hd1 := HD1.out
          rw [e1] at hv hO1
          rw [e2] at hu hO2
          clear HV HO1 HM1 HD1 e1 e2 HEQ
          obtain ⟨q1, hq1⟩ : ∃ q, q = flushF (fedS (fedS (fedS (new false) [255, 250, 5]) body.data.toList) (255 :: c :: ob :: more.data.toList)) := ⟨_, rfl⟩
          obtain ⟨q2, hq2⟩ : ∃ q, q = flushF (fedS (new false) (255 :: c :: ob :: more.data.toList)) := ⟨_, rfl⟩
          rw [← hq1, ← hq2] at hout
          rw [← hq1] at hv hO1 hlm
          rw [← hq2] at hu hO2
          obtain ⟨o1, o2, o3⟩ := hout
          clear hq1 hq2
          have hb1e := HB1E.out
          have hsub1 : ∀ k, k ∈ S1 ∨ k ∈ foot v → k ≠ b1 + 1 ∧ w.heap.size ≤ k := fun k hk => by
            have hz := hb1.size
            rcases hM1.sub k (by simpa using hk) with h | h
            · simp at h; omega
            · simp at h; omega
          have hsub2 : ∀ k ∈ S2 ++ foot u, w.heap.size ≤ k := fun k hk => by
            have hz := hb1.size
            rcases hM2.sub k hk with h | h
            · simp at h; omega
            · simp at h; omega
          have HBW := Lib.hid (show Below w.heap.size w wy by
            have h1 := hM1.below (B := w.heap.size) (by have := hb1.size; simp; omega) (by have := hb1.size; simp; omega)
            have h2 := hM2.below (B := w.heap.size) (by have := hb1.size; simp; omega) (by have := hb1.size; simp; omega)
            refine Below.trans (Below.trans (Below.trans ?_ h1) ?_) h2
            · have hz := hb1.size
              repeat' (first | with_reducible assumption | with_reducible exact Below.refl _ _ | with_reducible apply Below.alloc | with_reducible apply Below.setCell | with_reducible apply Below.drew | (refine Below.trans ?_ (Below.mono (by with_reducible assumption) ?_)) | omega | (simp; omega) | (simp; done))
            · exact (Below.refl _ _).alloc (by have := hb1.size; omega) _)
          have hv2 := own_keep (own_keep hv (fun k hk => Below.heap_alloc _ _ _ (own_lt hv k hk))) (fun k hk => hM2.keep (by have := own_lt hv k hk; simp; omega) (by simpa using (hsub1 k (.inr hk)).1))
          have hO1' := Rdr.frame (Rdr.frame hO1 (Fr.of_below (S := []) ((Below.refl wx.heap.size wx).alloc (Nat.le_refl _) _)) (Nat.le_refl _) (by simp)) hM2.fr (Nat.le_refl _) (fun k hk => by simpa using (hsub1 k (.inl hk)).1)
          have HA := Lib.hid hO1'
          have HB := Lib.hid hO2
          clear hv hO1 hM1 hM2 hO1' hO2 hd1 hd2 hsub1 hsub2
          obtain ⟨ll, hl⟩ : ∃ l, l = q1.out := ⟨_, rfl⟩
          rw [← hl] at hv2
          rw [← o1, ← hl] at hu
          obtain ⟨va', vc', rfl, -⟩ := own_slice hv2
          obtain ⟨ua, uc, rfl, -⟩ := own_slice hu
          have HV := Lib.hid hv2
          have HU := Lib.hid hu
          have HQ := Lib.hid (And.intro o2 o3)
          rw [← hl] at hlm
          clear hv2 hu o1 o2 o3 hl hb1e hsx hsy
          go_wp2_with fail
          go_loopw [16] (fun i wr => ∃ k : Nat, k ≤ ll.length ∧ i = .int .i64 k ∧ Below wy.heap.size wy wr) (fun i _ => ll.length - (intOf i).toNat)
          case atStart => exact ⟨0, by omega, rfl, Below.refl _ _⟩
          case round =>
            obtain ⟨k, hk, rfl, hbr⟩ := hrel
            by_cases hlt : k < ll.length
            · obtain ⟨g1, cp1, hf1, -, hg1⟩ := HV.out.form (by omega)
              obtain ⟨g2, cp2, hf2, -, hg2⟩ := HU.out.form (by omega)
              simp only [Value.slice.injEq, true_and] at hf1 hf2
              obtain ⟨rfl, rfl⟩ := hf1
              obtain ⟨rfl, rfl⟩ := hf2
              obtain ⟨t0, t1, t2, t3⟩ := tok_at ll k hlt
              have a0 := (hbr.cell (p := ⟨g1, k * 4, none⟩) hg1).trans (own_at HV.out t0)
              have a1 := (hbr.cell (p := ⟨g1, k * 4 + 1, none⟩) hg1).trans (own_at HV.out t1)
              have a2 := (hbr.cell (p := ⟨g1, k * 4 + 2, none⟩) hg1).trans (own_at HV.out t2)
              have a3 := (hbr.cell (p := ⟨g1, k * 4 + 3, none⟩) hg1).trans (own_at HV.out t3)
              have d0 := (hbr.cell (p := ⟨g2, k * 4, none⟩) hg2).trans (own_at HU.out t0)
              have d1 := (hbr.cell (p := ⟨g2, k * 4 + 1, none⟩) hg2).trans (own_at HU.out t1)
              have d2 := (hbr.cell (p := ⟨g2, k * 4 + 2, none⟩) hg2).trans (own_at HU.out t2)
              have d3 := (hbr.cell (p := ⟨g2, k * 4 + 3, none⟩) hg2).trans (own_at HU.out t3)
              generalize ll[k] = tk at *
              have HBR := Lib.hid hbr
              have hwr := hbr.size
              clear hbr t0 t1 t2 t3
              go_wp2_with fail
              refine wp_region_quiet0 (w := _) [] [] 9 (by kernel_rfl) (by kernel_rfl) (fun _ _ dx _ _ hx => by cases dx <;> exact hx) ?_
              simp only [numbered, List.take_succ_cons, List.take_zero, List.drop_succ_cons, List.drop_zero, List.take_nil, List.drop_nil, Nat.reduceAdd]
              (refine wz_do (by decide) (by decide) C0e.es (growsB (by simp)) ?_ ?_; (focus (first | rfl | (go_simp; done))); apply Exists.intro; refine ⟨fun bs hok wx hwx hL => ?_, ?_⟩; (focus ((have hwx : Below _ _ wx := hwx; have hcx := cellA hwx; have hfx := frozA hwx; have hzx := hwx.size; (try simp at hzx)); unfold zAt; (try simp [go_sem, BigFrame.eval_const, BigFrame.eval_global, BigFrame.eval_func, ↓IntWalk.iteOmega, *]); (try simp only [zUpon]); (first | exact ⟨rfl, Below.refl _ _⟩ | fail))); (try go_simp))
              (refine wz_do (by decide) (by decide) C0e.es (growsB (by simp)) ?_ ?_; (focus (first | rfl | (go_simp; done))); apply Exists.intro; refine ⟨fun bs hok wx hwx hL => ?_, ?_⟩; (focus ((have hwx : Below _ _ wx := hwx; have hcx := cellA hwx; have hfx := frozA hwx; have hzx := hwx.size; (try simp at hzx)); unfold zAt; (try simp [go_sem, BigFrame.eval_const, BigFrame.eval_global, BigFrame.eval_func, ↓IntWalk.iteOmega, *]); (try simp only [zUpon]); (first | exact ⟨rfl, Below.refl _ _⟩ | fail))); (try go_simp))
              (refine wz_do (by decide) (by decide) C0e.es (growsB (by simp)) ?_ ?_; (focus (first | rfl | (go_simp; done))); apply Exists.intro; refine ⟨fun bs hok wx hwx hL => ?_, ?_⟩; (focus ((have hwx : Below _ _ wx := hwx; have hcx := cellA hwx; have hfx := frozA hwx; have hzx := hwx.size; (try simp at hzx)); unfold zAt; (try simp [go_sem, BigFrame.eval_const, BigFrame.eval_global, BigFrame.eval_func, ↓IntWalk.iteOmega, *]); (try simp only [zUpon]); (first | exact ⟨rfl, Below.refl _ _⟩ | fail))); (try go_simp))
              (refine wz_do (by decide) (by decide) C0e.es (growsB (by simp)) ?_ ?_; (focus (first | rfl | (go_simp; done))); apply Exists.intro; refine ⟨fun bs hok wx hwx hL => ?_, ?_⟩; (focus ((have hwx : Below _ _ wx := hwx; have hcx := cellA hwx; have hfx := frozA hwx; have hzx := hwx.size; (try simp at hzx)); unfold zAt; (try simp [go_sem, BigFrame.eval_const, BigFrame.eval_global, BigFrame.eval_func, ↓IntWalk.iteOmega, *]); (try simp only [zUpon]); (first | exact ⟨rfl, Below.refl _ _⟩ | fail))); (try go_simp))
              (refine wz_do (by decide) (by decide) C0e.es (growsB (by simp)) ?_ ?_; (focus (first | rfl | (go_simp; done))); apply Exists.intro; refine ⟨fun bs hok wx hwx hL => ?_, ?_⟩; (focus ((have hwx : Below _ _ wx := hwx; have hcx := cellA hwx; have hfx := frozA hwx; have hzx := hwx.size; (try simp at hzx)); unfold zAt; (try simp [go_sem, BigFrame.eval_const, BigFrame.eval_global, BigFrame.eval_func, ↓IntWalk.iteOmega, *]); (try simp only [zUpon]); (first | exact ⟨rfl, Below.refl _ _⟩ | fail))); (try go_simp))
              (refine wz_do (by decide) (by decide) C0e.es (growsB (by simp)) ?_ ?_; (focus (first | rfl | (go_simp; done))); apply Exists.intro; refine ⟨fun bs hok wx hwx hL => ?_, ?_⟩; (focus ((have hwx : Below _ _ wx := hwx; have hcx := cellA hwx; have hfx := frozA hwx; have hzx := hwx.size; (try simp at hzx)); unfold zAt; (try simp [go_sem, BigFrame.eval_const, BigFrame.eval_global, BigFrame.eval_func, ↓IntWalk.iteOmega, *]); (try simp only [zUpon]); (first | exact ⟨rfl, Below.refl _ _⟩ | fail))); (try go_simp))
              (refine wz_do (by decide) (by decide) C0e.es (growsB (by simp)) ?_ ?_; (focus (first | rfl | (go_simp; done))); apply Exists.intro; refine ⟨fun bs hok wx hwx hL => ?_, ?_⟩; (focus ((have hwx : Below _ _ wx := hwx; have hcx := cellA hwx; have hfx := frozA hwx; have hzx := hwx.size; (try simp at hzx)); unfold zAt; (try simp [go_sem, BigFrame.eval_const, BigFrame.eval_global, BigFrame.eval_func, ↓IntWalk.iteOmega, *]); (try simp only [zUpon]); (first | exact ⟨rfl, Below.refl _ _⟩ | fail))); (try go_simp))
              (refine wz_do (by decide) (by decide) C0e.es (growsB (by simp)) ?_ ?_; (focus (first | rfl | (go_simp; done))); apply Exists.intro; refine ⟨fun bs hok wx hwx hL => ?_, ?_⟩; (focus ((have hwx : Below _ _ wx := hwx; have hcx := cellA hwx; have hfx := frozA hwx; have hzx := hwx.size; (try simp at hzx)); unfold zAt; (try simp [go_sem, BigFrame.eval_const, BigFrame.eval_global, BigFrame.eval_func, ↓IntWalk.iteOmega, *]); (try simp only [zUpon]); (first | exact ⟨rfl, Below.refl _ _⟩ | fail))); (try go_simp))
              (refine wz_do (by decide) (by decide) C0e.es (growsB (by simp)) ?_ ?_; (focus (first | rfl | (go_simp; done))); apply Exists.intro; refine ⟨fun bs hok wx hwx hL => ?_, ?_⟩; (focus ((have hwx : Below _ _ wx := hwx; have hcx := cellA hwx; have hfx := frozA hwx; have hzx := hwx.size; (try simp at hzx)); unfold zAt; (try simp [go_sem, BigFrame.eval_const, BigFrame.eval_global, BigFrame.eval_func, ↓IntWalk.iteOmega, *]); (try simp only [zUpon]); (first | exact ⟨rfl, Below.refl _ _⟩ | fail))); (try go_simp))
              refine wz_nil ?_
              intro wq hbq hLq
              clear hLq 
              have hcwq := cellA hbq
              have hfwq := frozA hbq
              have hzwq := hbq.size
              try simp at hzwq
              go_wp2_with fail
              go_roundw
              case rel => exact ⟨k + 1, by omega, by go_num, HBR.out.trans (hbq.mono hwr)⟩
              case measure => simp [intOf]; omega
            · obtain rfl : k = ll.length := by omega
              have HA2 := Lib.hid (Rdr.frame HA.out (Fr.of_below (S := []) hbr) (Nat.le_refl _) (by simp))
              have HB2 := Lib.hid (Rdr.frame HB.out (Fr.of_below (S := []) hbr) (Nat.le_refl _) (by simp))
              have HBR := Lib.hid hbr
              clear hbr
              go_wp2_with (first | (go_at_call 9; refine (whole_any _ _ _ _ _ (by first | exact HA2.out | exact HB2.out)).mono ?_; rintro e wz ⟨rfl, rfl⟩) | (go_at_call 16; refine (sub_any _ _ _ _ _ (by first | exact HA2.out | exact HB2.out)).mono ?_; rintro e wz ⟨rfl, rfl⟩))
              · go_ret
                obtain ⟨o2, o3⟩ := HQ.out
                have o3' : q1.sub.length = q2.sub.length := by rw [o3]
                refine ⟨?_, HBW.out.trans (HBR.out.mono (by have := HBW.out.size; omega))⟩
                simp [o3']
              · have hne : ¬(q1.st = 0 ↔ q2.st = 0) := by assumption
                exact absurd (by rw [HQ.out.1]) hne
end Go.Proofs.Ytemdhbjcdibpfaa.N10
