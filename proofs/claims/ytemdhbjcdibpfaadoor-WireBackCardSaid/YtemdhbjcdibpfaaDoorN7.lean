/- Feed -/
import Derived.Test.YtemdhbjcdibpfaaDoorN6
namespace Go.Proofs.YtemdhbjcdibpfaaDoor.N7
set_option maxRecDepth 100000
set_option linter.unusedVariables false
set_option linter.unusedSimpArgs false
set_option linter.unnecessarySimpa false
open Go.RowKit K1 K3 K5 K11 K12 K14 N0 N1 N2 N3 N4 N5 N6
attribute [local go_sem] cell_pastA froz_pastA
def fedS (r : Rd) (l : List UInt8) : Rd := l.foldl stepF r
def fedN (r : Rd) (L : Nat → ByteArray) : Nat → Rd
  | 0 => r
  | k + 1 => fedS (fedN r L k) (L k).data.toList
def tot (L : Nat → ByteArray) : Nat → Nat
  | 0 => 0
  | k + 1 => tot L k + (L k).size
def wgt (r : Rd) : Nat := r.data.length + r.out.length
theorem tot_le (L : Nat → ByteArray) {k n : Nat} (h : k ≤ n) : tot L k ≤ tot L n := by
  induction n with
  | zero => obtain rfl : k = 0 := by omega
            exact Nat.le_refl _
  | succ n ih =>
    by_cases hk : k = n + 1
    · subst hk; exact Nat.le_refl _
    · exact Nat.le_trans (ih (by omega)) (by simp [tot])
theorem wgt_flush (r : Rd) : wgt (flushF r) ≤ wgt r + 1 := by unfold flushF wgt; split <;> (simp; try omega)
theorem wgt_tell (r : Rd) (t : Tok) : wgt (tellF r t) ≤ wgt r + 2 := by
  have := wgt_flush r
  unfold tellF wgt at *
  simp
  omega
theorem wgt_byte (r : Rd) (c : UInt8) : wgt (byteF r c) ≤ wgt r + 1 := by unfold byteF wgt; split <;> (simp; try omega)
theorem sub_tell (r : Rd) (t : Tok) : (tellF r t).sub = r.sub := by unfold tellF flushF; simp; split <;> rfl
theorem sub_byte (r : Rd) (c : UInt8) : (byteF r c).sub = r.sub := by unfold byteF; split <;> rfl
theorem step0_le (r : Rd) (a : Nat) (c : UInt8) (hs : r.sub.length ≤ 40) : wgt (step0 r a c) ≤ wgt r + 2 ∧ (step0 r a c).sub.length ≤ 40 := by
  unfold step0
  split
  · exact ⟨by have := wgt_byte { r with st := 0 } c; simp only [wgt] at *; omega, by rw [sub_byte]; exact hs⟩
  · exact ⟨by simp only [wgt]; omega, hs⟩
  · exact ⟨by have := wgt_tell { r with st := 0 } ⟨1, c.toNat, 0, []⟩; simp only [wgt] at *; omega, by rw [sub_tell]; exact hs⟩
  · exact ⟨by simp only [wgt]; omega, hs⟩
  · exact ⟨by have := wgt_tell { r with st := 0 } ⟨2, r.cmd, c.toNat, []⟩; simp only [wgt] at *; omega, by rw [sub_tell]; exact hs⟩
  · exact ⟨by simp only [wgt]; omega, hs⟩
  · exact ⟨by simp only [wgt]; omega, by simp⟩
  · split
    · exact ⟨by simp only [wgt]; omega, by simp; omega⟩
    · exact ⟨by simp only [wgt]; omega, hs⟩
  · exact ⟨by simp only [wgt]; omega, hs⟩
  · refine ⟨?_, by simp⟩
    split
    · simp only [wgt]; omega
    · have := wgt_tell { r with st := 0 } ⟨3, 0, r.opt, r.sub⟩; simp only [wgt] at *; omega
  · exact ⟨by simp only [wgt]; omega, by simp⟩
theorem step_le (r : Rd) (c : UInt8) (hs : r.sub.length ≤ 40) : wgt (stepF r c) ≤ wgt r + 2 ∧ (stepF r c).sub.length ≤ 40 := by
  unfold stepF
  split
  · exact step0_le { r with st := 1, sub := [] } _ c (by simp)
  · exact step0_le r _ c hs
theorem fedS_le : ∀ (l : List UInt8) (r : Rd), r.sub.length ≤ 40 → wgt (fedS r l) ≤ wgt r + 2 * l.length ∧ (fedS r l).sub.length ≤ 40
  | [], r, h => ⟨by simp [fedS], h⟩
  | c :: l, r, h => by
    have h1 := step_le r c h
    have h2 := fedS_le l (stepF r c) h1.2
    exact ⟨by show wgt (fedS (stepF r c) l) ≤ _; simp; omega, h2.2⟩
theorem size_list (s : ByteArray) : s.data.toList.length = s.size := by simp
theorem fedN_le (L : Nat → ByteArray) (r : Rd) (h : r.sub.length ≤ 40) : ∀ k, wgt (fedN r L k) ≤ wgt r + 2 * tot L k ∧ (fedN r L k).sub.length ≤ 40
  | 0 => ⟨by simp [fedN], h⟩
  | k + 1 => by
    have h1 := fedN_le L r h k
    have h2 := fedS_le (L k).data.toList (fedN r L k) h1.2
    rw [size_list] at h2
    exact ⟨by show wgt (fedS (fedN r L k) (L k).data.toList) ≤ _; simp only [tot]; omega, h2.2⟩
theorem take_snoc (s : ByteArray) (k : Nat) (h : k < s.size) : s.data.toList.take (k + 1) = s.data.toList.take k ++ [s[k]] := by
  rw [List.take_succ_eq_append_getElem (by simpa using h)]; rfl
theorem fedS_snoc (r : Rd) (s : ByteArray) (k : Nat) (h : k < s.size) : fedS r (s.data.toList.take (k + 1)) = stepF (fedS r (s.data.toList.take k)) s[k] := by
  rw [take_snoc s k h]; simp [fedS]
theorem fedS_all (r : Rd) (s : ByteArray) : fedS r (s.data.toList.take s.size) = fedS r s.data.toList := by
  rw [List.take_of_length_le (by simp)]
/-- what was told is handed out -/
theorem Rep.take {w : World} {b : Nat} {r : Rd} {sv dv ov : Value} (h : Rep w b true r sv dv ov) :
    Rep (w.setCell ⟨b, 41, none⟩ (.slice none 0 0)) b true { r with out := [] } sv dv (.slice none 0 0) ∧ (w.setCell ⟨b, 41, none⟩ (.slice none 0 0)).ownsRow 0 61 4 ov r.out.length (r.out.flatMap tokCells) ∧
    Mut w (ftR b sv dv ov) (w.setCell ⟨b, 41, none⟩ (.slice none 0 0)) (ftR b sv dv (.slice none 0 0) ++ foot ov) ∧ ∀ k ∈ foot ov, k ∉ ftR b sv dv (.slice none 0 0) := by
  obtain ⟨a1, a2, a3, a4, a5, a6⟩ := h.ne
  have hF : Fr w.heap.size [b] w (w.setCell ⟨b, 41, none⟩ (.slice none 0 0)) := (Fr.refl _ _ _).setCell (by simp) _
  have ns : ∀ v : Value, (∀ k ∈ foot v, k ≠ b) → ∀ k ∈ foot v, k ∉ [b] := fun v hv k hk => by simpa using hv k hk
  refine ⟨⟨(blk_set h.blk).trans rfl, own_fr h.sub hF (Nat.le_refl _) (ns _ a1), own_fr h.dat hF (Nat.le_refl _) (ns _ a2), World.ownsRow_nil _ _ _ _, h.st, apart_of a1 a2 (by simp) a4 (by simp) (by simp)⟩, own_fr h.out hF (Nat.le_refl _) (ns _ a3), ⟨hF.mono (Nat.le_refl _) (by simp [ftR]), fun k hk => .inl ?_⟩, fun k hk hm => ?_⟩
  · unfold ftR at *
    simp at hk ⊢
    rcases hk with hk | hk | hk | hk <;> simp [hk]
  · unfold ftR at hm
    simp at hm
    rcases hm with hm | hm | hm
    · exact a3 k hk hm
    · exact a5 k hm hk
    · exact a6 k hm hk
set_option maxHeartbeats 4000000 in
theorem feed_any (b : Nat) (S : List Nat) (o : Bool) (r : Rd) (w : World) (sb off n cap : Nat) (L : Nat → ByteArray) (hO : Rdr w b S o r) (hc : ∀ k, k < n → w.cell? ⟨sb, off + k, none⟩ = some (.string (L k)))
    (hsb : sb < w.heap.size) (hsS : sb ∉ S) (hT : wgt r + 2 * tot L n < 1099511627000) (hS : r.sub.length ≤ 40) (hn : n ≤ 1099511627000) :
    Calls Tryd.prog 20 #[.pointer (some ⟨b, 0, none⟩), .slice (some ⟨sb, off, none⟩) n cap] w fun e w' => ∃ v S', e = .returned v ∧ w'.ownsRow 0 61 4 v (flushF (fedN r L n)).out.length ((flushF (fedN r L n)).out.flatMap tokCells) ∧
      Rdr w' b S' true { flushF (fedN r L n) with out := [] } ∧ Mut w S w' (S' ++ foot v) ∧ ∀ k ∈ foot v, k ∉ S' := by
  have HT := Lib.hid (fun k (hk : k ≤ n) => (fedN_le L r hS k))
  have HTL := Lib.hid (fun k (hk : k ≤ n) => tot_le L hk)
  have HC := Lib.hid hc
  have HO := Lib.hid hO
  clear hc hO
  go_enter Tryd.func20, Tryd.ntmps20
  go_wp2_with (go_at_call 28; refine (do_any b S o r _ HO.out).mono ?_; rintro e w0 ⟨rfl, hO0, hM0⟩; have HO0 := Lib.hid hO0; have HM0 := Lib.hid hM0; clear hO0 hM0)
  go_loopw [19] (fun i wr => ∃ k : Nat, k ≤ n ∧ i = .int .i64 k ∧ ∃ S1, Rdr wr b S1 true (fedN r L k) ∧ Mut w S wr S1) (fun i _ => n - (intOf i).toNat)
  case atStart => exact ⟨0, by omega, rfl, S, HO0.out, HM0.out⟩
  case round =>
    obtain ⟨k, hkn, rfl, S1, hO1, hM1⟩ := hrel
    have HO1 := Lib.hid hO1
    have HM1 := Lib.hid hM1
    clear hO1 hM1
    by_cases hlt : k < n
    · have hck : wr.cell? ⟨sb, off + k, none⟩ = some (.string (L k)) := (World.cell?_of_block (HM1.out.keep hsb hsS)).trans (HC.out k hlt)
      obtain ⟨s, hs⟩ : ∃ s, s = L k := ⟨_, rfl⟩
      have hb1 := HT.out k hkn
      have hb2 := HTL.out (k + 1) hlt
      have hb3 : tot L (k + 1) = tot L k + (L k).size := rfl
      rw [← hs] at hck hb3
      have HS := Lib.hid hs
      clear hs
      obtain ⟨q, hq⟩ : ∃ q, q = fedN r L k := ⟨_, rfl⟩
      have HO2 := HO1.out
      rw [← hq] at hb1 HO2
      have HO2 := Lib.hid HO2
      have HQ := Lib.hid hq
      clear hq HO1
      go_wp2_with fail
      go_loopw [25] (fun i wx => ∃ j : Nat, j ≤ s.size ∧ i = .int .i64 j ∧ ∃ S2, Rdr wx b S2 true (fedS q (s.data.toList.take j)) ∧ Mut w S wx S2) (fun i _ => s.size - (intOf i).toNat)
      case atStart => exact ⟨0, by omega, rfl, S1, HO2.out, HM1.out⟩
      case round =>
        obtain ⟨j, hjn, rfl, S2, hO3, hM3⟩ := hrel
        have HO3 := Lib.hid hO3
        have HM3 := Lib.hid hM3
        clear hO3 hM3
        by_cases hjl : j < s.size
        · have hw1 := fedS_le (s.data.toList.take j) q hb1.2
          have hw2 : (s.data.toList.take j).length ≤ j := List.length_take_le _ _
          have hw3 : (fedS q (s.data.toList.take j)).data.length + (fedS q (s.data.toList.take j)).out.length = wgt (fedS q (s.data.toList.take j)) := rfl
          have HE := Lib.hid (fedS_snoc q s j hjl)
          have HW := Lib.hid (And.intro hw1 (And.intro hw2 hw3))
          clear hw1 hw2 hw3
          go_wp2_with (go_at_call 30; refine (step_any b S2 (fedS q (s.data.toList.take j)) s[j] _ HO3.out (by have := HW.out; omega) (by have := HW.out; omega) HW.out.1.2).mono ?_; rintro e w1 ⟨rfl, S3, hO4, hM4⟩; have HO4 := Lib.hid hO4; have HM4 := Lib.hid hM4; clear hO4 hM4)
          go_roundw
          case rel => exact ⟨j + 1, by omega, by go_num, S3, by rw [HE.out]; exact HO4.out, HM3.out.trans HM4.out⟩
          case measure => simp [intOf]; omega
        · obtain rfl : j = s.size := by omega
          go_wp2_with fail
          go_roundw
          case rel => exact ⟨k + 1, by omega, by go_num, S2, by (have := HO3.out; rw [fedS_all, HQ.out, HS.out] at this; exact this), HM3.out⟩
          case measure => simp [intOf]; omega
    · obtain rfl : k = n := by omega
      have hb1 := HT.out k hkn
      have hw3 : (fedN r L k).data.length + (fedN r L k).out.length = wgt (fedN r L k) := rfl
      have HW := Lib.hid (And.intro hb1 hw3)
      clear hb1 hw3
      go_wp2_with (go_at_call 31; refine (flush_any b S1 _ _ HO1.out (by have := HW.out; omega) (by have := HW.out; omega)).mono ?_; rintro e w1 ⟨rfl, S2, hO4, hM4⟩; obtain ⟨sv, dv, ov, rfl, hR⟩ := hO4; have HR := Lib.hid hR; have HM4 := Lib.hid hM4; obtain ⟨c0, c34, c35, c36, c37, c38, c39, c40, c41, cf, hlt⟩ := hR.cells; clear hR hM4)
      go_ret
      obtain ⟨t1, t2, t3, t4⟩ := Rep.take HR.out
      exact ⟨_, _, rfl, t2, ⟨_, _, _, rfl, t1⟩, HM1.out.trans (HM4.out.trans t3), t4⟩
end Go.Proofs.YtemdhbjcdibpfaaDoor.N7
