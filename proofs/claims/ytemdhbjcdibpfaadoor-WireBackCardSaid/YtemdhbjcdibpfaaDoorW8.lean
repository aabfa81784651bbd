/- Plain of wire, the walk -/
import Derived.Test.YtemdhbjcdibpfaaDoorW7
namespace Go.Proofs.YtemdhbjcdibpfaaDoor.W8
set_option linter.unusedVariables false
set_option linter.unusedSimpArgs false
set_option linter.unnecessarySimpa false
set_option maxRecDepth 100000
open Go.RowKit K1 K3 K5 K11 K12 K14 K20 K21 K22 W0 W1 W2 W3 W4 W5 W6 W7 N0 N1 N2 N3 N4 N5 N6 N7

attribute [local go_sem] cell_pastA froz_pastA
/-- bytes of all that was told -/
theorem flush_bytes (r : Rd) : tbytes (flushF r).out = tbytes r.out + r.data.length ∧ (flushF r).data = [] := by
  unfold flushF
  split
  · rename_i h; simp [h]
  · simp [tbytes]
theorem tell_bytes (r : Rd) (t : Tok) : tbytes (tellF r t).out + (tellF r t).data.length = tbytes r.out + r.data.length + t.text.length := by
  obtain ⟨h1, h2⟩ := flush_bytes r
  have e1 : (tellF r t).out = (flushF r).out ++ [t] := rfl
  have e2 : (tellF r t).data = (flushF r).data := rfl
  rw [e1, e2, h2]
  simp [tbytes] at h1 ⊢
  omega
def tw (r : Rd) : Nat := tbytes r.out + r.data.length
theorem tw_step0 (r : Rd) (a : Nat) (c : UInt8) (h : r.sub.length ≤ 40) : tw (step0 r a c) ≤ tw r + 40 := by
  unfold step0
  split
  · unfold byteF; split <;> (simp [tw]; try omega)
  · simp [tw]
  · have := tell_bytes { r with st := 0 } ⟨1, c.toNat, 0, []⟩; simp [tw] at this ⊢; omega
  · simp [tw]
  · have := tell_bytes { r with st := 0 } ⟨2, r.cmd, c.toNat, []⟩; simp [tw] at this ⊢; omega
  · simp [tw]
  · simp [tw]
  · split <;> simp [tw]
  · simp [tw]
  · split
    · simp [tw]
    · have := tell_bytes { r with st := 0 } ⟨3, 0, r.opt, r.sub⟩; simp [tw] at this ⊢; omega
  · simp [tw]
theorem tw_step (r : Rd) (c : UInt8) (h : r.sub.length ≤ 40) : tw (stepF r c) ≤ tw r + 40 := by
  unfold stepF
  split
  · exact tw_step0 { r with st := 1, sub := [] } _ c (by simp)
  · exact tw_step0 r _ c h
theorem tw_fed : ∀ (s : List UInt8) (r : Rd), r.sub.length ≤ 40 → tw (fedS r s) ≤ tw r + 40 * s.length
  | [], r, _ => by simp [fedS]
  | c :: s, r, h => by
    have h1 := tw_step r c h
    have h2 := tw_fed s (stepF r c) (step_le r c h).2
    show tw (fedS (stepF r c) s) ≤ _
    simp only [List.length_cons]; omega
set_option maxHeartbeats 8000000 in
theorem plain_any (bin : Bool) (s : ByteArray) (w : World) (hs : s.size ≤ 100000) : Calls Tryd.prog 9 #[.bool bin, .string s] w fun e w' => e = .returned (.string ⟨(plainR bin s.data.toList).toArray⟩) ∧ Below w.heap.size w w' := by
  obtain ⟨i0, ih, ia, ib, ic⟩ := info_parts info5'
  have iI := Lib.hid ih
  clear ih
  go_enter Tryd.func9, Tryd.ntmps9
  go_wp2_with fail
  refine (feed_any w.heap.size [w.heap.size] false (rnew bin) _ (w.heap.size + 1) 0 1 1 (fun _ => s) ?_ ?_ ?_ ?_ ?_ ?_ ?_).mono ?_
  · exact rdr_new ((blk_alloc (heap_alloc_new w _)).trans rfl)
  · intro k hk
    obtain rfl : k = 0 := by omega
    simp
  · simp
  · simp
  · simp [wgt, rnew, tot]; omega
  · simp [rnew]
  · decide
  rintro e w1 ⟨v, S1, rfl, hv, hO1, hM1, hd⟩
  have e1 : fedN (rnew bin) (fun _ => s) 1 = fedS (rnew bin) s.data.toList := by simp [fedN]
  rw [e1] at hv
  obtain ⟨l, hl⟩ : ∃ l, l = (flushF (fedS (rnew bin) s.data.toList)).out := ⟨_, rfl⟩
  have hby : tbytes l ≤ 4000000 := by
    have h1 := tw_fed s.data.toList (rnew bin) (by simp [rnew])
    have h2 := flush_bytes (fedS (rnew bin) s.data.toList)
    rw [hl, h2.1]
    have h3 : tw (rnew bin) = 0 := by simp [tw, rnew, tbytes]
    rw [h3] at h1
    have h4 : s.data.toList.length = s.size := by simp
    unfold tw at h1
    omega
  have hln : l.length ≤ 1000000 := by
    have h1 := fedS_le s.data.toList (rnew bin) (by simp [rnew])
    have h2 := wgt_flush (fedS (rnew bin) s.data.toList)
    have h4 : s.data.toList.length = s.size := by simp
    have h5 : wgt (rnew bin) = 0 := by simp [wgt, rnew]
    unfold wgt at *
    rw [hl]
    omega
  have HPL := Lib.hid (show plainR bin s.data.toList = dtx l by rw [hl]; rfl)
  rw [← hl] at hv
  have hbl : Below w.heap.size w w1 := by
    have hb := hM1.below (B := w.heap.size) (by simp; omega) (by simp)
    exact Below.trans (by repeat' (first | with_reducible assumption | with_reducible exact Below.refl _ _ | with_reducible apply Below.alloc | with_reducible apply Below.setCell | with_reducible apply Below.drew | (refine Below.trans ?_ (Below.mono (by with_reducible assumption) ?_)) | omega | (simp; omega) | (simp; done))) hb
  have hvk : ∀ k ∈ foot v, w.heap.size ≤ k := fun k hk => by
    rcases hM1.sub k (by simp [hk]) with h | h
    · simp at h; omega
    · simp at h; omega
  have HX0 := Lib.hid ((((Sep.start w).new (r' := .row v 61 4 l.length (l.flatMap tokCells)) hbl hv (fun k hk => hvk k (mem_foot.2 hk)))).nilRow (t := 5) (s := 1))
  obtain ⟨va, vc, rfl, -⟩ := own_slice hv
  clear hv hO1 hM1 hd hbl hvk e1 hl
  go_wp2_with fail
  go_loopw [5, 15] (fun o i wr => ∃ k : Nat, k ≤ l.length ∧ i = .int .i64 k ∧ Sep wr [.row o 5 1 (dtx (l.take k)).length ((dtx (l.take k)).map K14.u8), .row (.slice va l.length vc) 61 4 l.length (l.flatMap tokCells), .low w.heap.size w]) (fun _ i _ => l.length - (intOf i).toNat)
  case atStart => exact ⟨0, by omega, rfl, HX0.out⟩
  case round =>
    obtain ⟨k, hk, rfl, hX⟩ := hrel
    have HX := Lib.hid hX
    obtain ⟨oa, oc, rfl, -⟩ := own_slice (hX.rowAt 0 rfl)
    clear hX HX0
    by_cases hlt : k < l.length
    · obtain ⟨g, cp, hf, -, hg⟩ := (HX.out.rowAt 1 rfl).form (by omega)
      simp only [Value.slice.injEq, true_and] at hf
      obtain ⟨rfl, rfl⟩ := hf
      obtain ⟨t0, t1, t2, t3⟩ := tok_at l k hlt
      have a0 := own_at (HX.out.rowAt 1 rfl) t0
      have a1 := own_at (HX.out.rowAt 1 rfl) t1
      have a2 := own_at (HX.out.rowAt 1 rfl) t2
      have a3 := own_at (HX.out.rowAt 1 rfl) t3
      have HT := Lib.hid (dtx_take l k hlt)
      have hb1 := bytes_take l k
      have hb2 := dtx_len (l.take k)
      have hb3 := bytes_mem (List.getElem_mem hlt)
      obtain ⟨t, ht⟩ : ∃ t, t = l[k] := ⟨_, rfl⟩
      rw [← ht] at a0 a1 a2 a3 hb3
      have HTX := Lib.hid ht
      have htz := size_arr t.text
      clear t0 t1 t2 t3 ht
      by_cases htk : t.kind = 0
      · have hb0 : ((t.kind : Int) == 0) = true := by simp [htk]
        go_wp2_with (at_builtin; refine wpList_appStrS rfl (.tmp 22) (.tmp 24) 54 9 rfl 5 i0 Tryd.underlying54 Tryd.underlying9 iI.out ia ib ic _ _ _ _ rfl (Sep.alloc0 HX.out) _ rfl (by first | omega | (simp; done) | (simp; omega)) ?_; intro v3 w3 hs3 hz3; have HS3 := Lib.hid hs3; clear hs3)
        go_roundw
        case rel => exact ⟨k + 1, by omega, by go_num, by
          have h1 := HS3.out
          have e : dtx (l.take (k + 1)) = dtx (l.take k) ++ t.text := by rw [HT.out, ← HTX.out, if_pos htk]
          have e2 : Go.Lib.strCells ⟨t.text.toArray⟩ = t.text.map K14.u8 := rfl
          rw [e, List.length_append, List.map_append]
          rw [htz, e2] at h1
          exact h1⟩
        case measure => simp [intOf]; omega
      · have hb0 : ((t.kind : Int) == 0) = false := by simp [htk]
        go_wp2_with fail
        go_roundw
        case rel => exact ⟨k + 1, by omega, by go_num, by rw [HT.out, ← HTX.out, if_neg htk, List.append_nil]; exact HX.out.alloc0⟩
        case measure => simp [intOf]; omega
    · obtain rfl : k = l.length := by omega
      have hcv := conv_row HX.out rfl
      have HLW := Lib.hid (HX.out.lowAt 2 rfl)
      rw [List.take_length] at hcv
      go_wp2_with fail
      go_ret
      rw [HPL.out]
      exact ⟨rfl, HLW.out⟩
end Go.Proofs.YtemdhbjcdibpfaaDoor.W8
