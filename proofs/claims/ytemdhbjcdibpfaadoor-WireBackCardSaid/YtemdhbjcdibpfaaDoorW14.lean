/- WireBack -/
import Derived.Test.YtemdhbjcdibpfaaDoorW13
import Derived.Test.YtemdhbjcdibpfaaDoorW11
import Derived.Test.YtemdhbjcdibpfaaDoorN11
namespace Go.Proofs.YtemdhbjcdibpfaaDoor.W14
set_option linter.unusedVariables false
set_option linter.unusedSimpArgs false
set_option linter.unnecessarySimpa false
set_option maxRecDepth 100000
open Go.RowKit K1 K3 K5 K11 K12 K14 K20 K21 K22 K25 W0 W1 W2 W3 W4 W5 W6 W7 W8 W9 W10 W11 W12 W13 B1 N0 N7

attribute [local go_sem] cell_pastA froz_pastA
theorem plain_dat (bin : Bool) (l : List UInt8) : plainD bin (datF bin l) = l := by
  have := plain_sent bin [l]
  simpa [sentF] using this
theorem ext_take (l : List UInt8) (n : Nat) : (⟨l.toArray⟩ : ByteArray).extract 0 n = ⟨(l.take n).toArray⟩ := by
  apply ByteArray.ext
  simp [ByteArray.data_extract]
set_option maxHeartbeats 16000000 in
theorem back_any (bin : Bool) (v : Value) (L : List (List UInt8)) (o : Int) (ao : Option Addr) (sb off n cap : Nat) (A : Nat → Int) (w : World) (hv : Rd 1 strE w v L) (hg : Glob w) (hn : L.length ≤ 9223372036854775807) (hln : ∀ l ∈ L, l.length ≤ 9223372036854775807)
    (hao : ao = some ⟨sb, off, none⟩ ∨ n = 0) (hnn : n ≤ 9223372036854775807) (hA : ∀ k, k < n → -9223372036854775808 ≤ A k ∧ A k ≤ 9223372036854775807) (hc : ∀ k, k < n → w.cell? ⟨sb, off + k, none⟩ = some (.int .i64 (A k))) (hsb : 0 < n → sb < w.heap.size) :
    Calls Tryd.prog 5 #[.bool bin, v, .int .i64 o, .slice ao n cap] w fun e w' => e = .returned (.bool true) ∧ Below w.heap.size w w' := by
  have HV := Lib.hid hv
  have HG := Lib.hid hg
  have HLN := Lib.hid hln
  have HC := Lib.hid (And.intro hc (And.intro hsb (And.intro hao hA)))
  obtain ⟨a, c, rfl, hcc⟩ := Rd.len hv
  have hpos : 0 < w.heap.size := World.block_lt_of_cell? w _ hg.choose_spec
  clear hv hg hln hc hsb hao hA
  obtain ⟨i0, ih, ia, ib, ic⟩ := info_parts infoT
  have iI := Lib.hid ih
  clear ih
  go_enter Tryd.func5, Tryd.ntmps5
  go_wp2_with (first | (go_at_call 10; refine (short_any 12 500 _ L _ HV.out (by omega) (by decide) (by decide) HLN.out).mono ?_; rintro e w0 ⟨⟨bs, rfl, hbs, hb0⟩⟩; have HB0 := Lib.hid hb0; have HBS := Lib.hid hbs; clear hb0 hbs) | (go_at_call 6; refine (alive_any _ (HG.out.at HB0.out hpos)).mono ?_; rintro e wa ⟨rfl, hba⟩; have HBa := Lib.hid hba; clear hba))
  rotate_left
  iterate 4
    · go_ret
      exact ⟨rfl, HB0.out.trans (HBa.out.mono HB0.out.size)⟩
  obtain ⟨hl12, hl500⟩ := HBS.out (by assumption)
  obtain ⟨on, rfl⟩ : ∃ m : Nat, o = m := ⟨o.toNat, by omega⟩
  have hon : on ≤ 255 := by omega
  have hn30 : n ≤ 30 := by omega
  have HBL := Lib.hid (HB0.out.trans (HBa.out.mono HB0.out.size))
  obtain ⟨l, hll⟩ : ∃ l, l = L.flatten := ⟨_, rfl⟩
  rw [← hll] at hl500
  obtain ⟨t, ht⟩ : ∃ t, t = l.take 40 := ⟨_, rfl⟩
  have htl : t.length ≤ 40 := by rw [ht]; simp; omega
  have HTE := Lib.hid ht
  have HLL := Lib.hid hll
  have hfl := B1.size_arr l
  have PDT := Lib.hid (fun (x : World) => show Calls Tryd.prog 9 #[.bool bin, .string ⟨(datF bin l).toArray⟩] x fun e w' => e = .returned (.string ⟨l.toArray⟩) ∧ Below x.heap.size x w' from by
    have h := plain_d bin ⟨(datF bin l).toArray⟩ x (by have := dat_le bin l; have := B1.size_arr (datF bin l); omega)
    rw [bytes_of, plain_dat bin l] at h
    exact h)
  have hdl := dat_le bin l
  have hx : (⟨l.toArray⟩ : ByteArray).extract 0 (min (l.length : Int) 40).toNat = ⟨t.toArray⟩ := by
    rw [ext_take, ht]
    congr 2
    rcases Nat.lt_or_ge 40 l.length with h | h
    · rw [show (min (l.length : Int) 40).toNat = 40 by omega]
    · rw [show (min (l.length : Int) 40).toNat = l.length by omega, List.take_of_length_le (Nat.le_refl _), List.take_of_length_le h]
  have hol : (optB 253 on).length = 3 := rfl
  have hsl : (subB on t).length ≤ 85 := by
    have := dbl_len t
    unfold subB
    simp only [List.length_append, List.length_cons, List.length_nil]
    omega
  have hz1 := B1.size_arr (datF bin l)
  have hz2 := B1.size_arr (optB 253 on)
  have hz3 := B1.size_arr (subB on t)
  clear ht hll HB0 HBS HBa
  go_wp2_with (first | (go_at_call 12; refine (joinB_l _ L l _ HLL.out (HV.out.low (Nat.le_refl _) HBL.out) (by omega) (by omega)).mono ?_; rintro e wj ⟨rfl, rfl⟩) | (go_at_call 13; refine (option_any 253 on _ (by decide) (by decide) (by omega)).mono ?_; rintro e w2 ⟨rfl, hb2⟩; have HB2 := Lib.hid (HBL.out.trans (hb2.mono HBL.out.size)); clear hb2) | (go_at_call 14; refine (sub_l on _ [t] t _ (by simp) (Rd.one rfl (by decide) (by simp) (by simp)) (HG.out.at (HB2.out.alloc HB2.out.size _) hpos) (by omega) (by simp) (by omega)).mono ?_; rintro e w3 ⟨rfl, hb3⟩; have HB3 := Lib.hid ((HB2.out.alloc HB2.out.size _).trans (hb3.mono (by have := HB2.out.size; simp; omega))); clear hb3) | (go_at_call 7; refine (data_one bin l _ _ _ (HG.out.at ((HB5.out.alloc HB5.out.size _).alloc (by have := HB5.out.size; simp; omega) _) hpos) (by simp) (by omega) (by decide)).mono ?_; rintro e w6 ⟨rfl, hb6⟩; have HB6 := Lib.hid hb6; clear hb6) | (go_at_call 7; refine (data_l bin (.slice a L.length c) L l _ HLL.out (HV.out.low (Nat.le_refl _) HB3.out) (HG.out.at HB3.out hpos) (by omega) (by omega)).mono ?_; rintro e w4 ⟨rfl, hb4⟩; have HB4 := Lib.hid (HB3.out.trans (hb4.mono HB3.out.size)); clear hb4) | (go_at_call 9; refine (PDT.out _).mono ?_; rintro e w5 ⟨rfl, hb5⟩; have HB5 := Lib.hid (HB4.out.trans (hb5.mono HB4.out.size)); clear hb5))
  obtain ⟨hc, hsb, hao, hA⟩ := HC.out
  have hB5 := HB5.out
  have hb56 : Below w5.heap.size w5 w6 := (((Below.refl _ _).alloc (Nat.le_refl _) _).alloc (by simp) _).trans (HB6.out.mono (by simp; omega))
  have hB6 : Below w.heap.size w w6 := hB5.trans (hb56.mono hB5.size)
  obtain ⟨b1, hb1e⟩ : ∃ b1, b1 = w5.heap.size := ⟨_, rfl⟩
  have hblk : w6.heap[b1]? = some (.cells (cellsR false (rnew bin) (.slice none 0 0) (.slice none 0 0) (.slice none 0 0)) 57 (0, 0)) :=
    blk_below ((blk_alloc (blk_new hb1e)).trans (by kernel_rfl)) HB6.out (by rw [hb1e]; simp; omega)
  have s6 : Sep w6 (rdL b1 (.slice none 0 0) (.slice none 0 0) (.slice none 0 0) false (rnew bin) ++ [.low w.heap.size w]) := by
    have h1 := ((((Sep.start w).below hB5).addBlk hb56 hblk (by omega) rfl).nilRow (t := 61) (s := 4)).nilRow (t := 5) (s := 1)
    have h2 := (h1.nilRow (t := 5) (s := 1)).front 3 rfl
    exact h2
  have hsz : ((⟨(datF bin l).toArray⟩ : ByteArray) ++ ⟨(optB 253 on).toArray⟩ ++ ⟨(subB on t).toArray⟩).size ≤ 1100 := by
    rw [← B1.app_arr, ← B1.app_arr, B1.size_arr]; simp only [List.length_append]; omega
  refine (N11.cuts_any _ ao sb off n _ A _ hao (by omega) (by omega) hA (fun k hk => (hB6.cell (p := ⟨sb, off + k, none⟩) (hsb (by omega))).trans (hc k hk)) (fun h => Nat.lt_of_lt_of_le (hsb h) hB6.size)).mono ?_
  rintro e w7 ⟨v7, parts, rfl, hv7, hfl7, hp0, hpn, hb7⟩
  rw [← B1.app_arr, ← B1.app_arr, bytes_of] at hfl7
  rw [← B1.app_arr, ← B1.app_arr, B1.size_arr] at hsz
  obtain ⟨gp, cp, rfl, -, hgp⟩ := hv7.form hp0
  have hS7 : Sep w7 (.row (.slice none 0 0) 61 4 0 [] :: (rdL b1 (.slice none 0 0) (.slice none 0 0) (.slice none 0 0) false (rnew bin) ++ [.row (.slice (some ⟨gp, 0, none⟩) parts.length cp) 9 1 parts.length (parts.map N11.strV), .low w.heap.size w])) := by
    have h1 := (s6.addRow hb7 hv7).back 4
    exact Sep.nilRow (by simpa [rdL, ins] using h1)
  have HS7 := Lib.hid hS7
  obtain ⟨dst, hds, hdi, hdc⟩ : ∃ d : Dr, d.inn = false ∧ d.cmd = [] ∧ parts.flatten.foldl estep (dnew bin, ([], [])) = (d, (l, [⟨2, 253, on, []⟩, ⟨3, 0, on, t⟩])) := by
    rw [hfl7]; exact erun_all bin l on t hon htl
  have HFIN := Lib.hid (And.intro hds (And.intro hdi hdc))
  have hflen : parts.flatten.length ≤ 1100 := by rw [hfl7]; exact hsz
  have HFL := Lib.hid hflen
  rw [← hb1e]
  clear hc hsb hao hA hB5 hb56 hB6 hb1e hblk s6 hsz hv7 hfl7 hb7 hS7 hds hdi hdc HB5 HB6 HBL HB2 HB3 HB4 HC hflen hx hdl hol hsl hz1 hz2 hz3 PDT
  go_wp2_with fail
  go_loopw [17, 18, 19] (fun d oth i wr => ∃ k : Nat, k ≤ parts.length ∧ i = .int .i64 k ∧ ∃ (r : Rd) (D : List UInt8) (O : List Tok), (r, (D, O)) = (parts.take k).foldl pstep (rnew bin, ([], [])) ∧ d = .string ⟨D.toArray⟩ ∧ D.length ≤ 40 * (parts.take k).flatten.length ∧ O.length ≤ 2 * (parts.take k).flatten.length + k ∧ J (r, (D, O)) ((parts.take k).flatten.foldl estep (dnew bin, ([], []))) ∧ r.st < 6 ∧ ∃ sv dv ov ob, Sep wr (.row oth 61 4 O.length (O.flatMap tokCells) :: (rdL b1 sv dv ov ob r ++ [.row (.slice (some ⟨gp, 0, none⟩) parts.length cp) 9 1 parts.length (parts.map N11.strV), .low w.heap.size w]))) (fun _ _ i _ => parts.length - (intOf i).toNat)
  case atStart => exact ⟨0, by omega, rfl, rnew bin, [], [], rfl, rfl, by simp, by simp, J.new bin, by simp [rnew], _, _, _, _, HS7.out⟩
  case round =>
    obtain ⟨k, hk, rfl, r, D, O, hfold, rfl, hD, hO, hJ, hst, sv, dv, ov, ob, hS⟩ := hrel
    have HS := Lib.hid hS
    have HJ := Lib.hid hJ
    have HFO := Lib.hid hfold
    obtain ⟨oa, oc, rfl, -⟩ := own_slice (hS.rowAt 0 rfl)
    have hft := B1.flat_take_le parts k
    clear hS hJ hfold HS7
    by_cases hlt : k < parts.length
    · have hcl := B1.len_of_mem (List.getElem_mem hlt)
      have hpc := K25.own_at (HS.out.rowAt 5 rfl) (j := k) (u := .string ⟨parts[k].toArray⟩) (by simp [hlt, N11.strV])
      have HFS := Lib.hid (B1.flat_snoc parts k hlt)
      have HTS := Lib.hid (List.take_succ_eq_append_getElem hlt)
      obtain ⟨p, hpe⟩ : ∃ p, p = parts[k] := ⟨_, rfl⟩
      rw [← hpe] at hcl hpc
      have HPE := Lib.hid hpe
      have hfl := HFL.out
      obtain ⟨Fl, hFl⟩ : ∃ Fl, Fl = (parts.take k).flatten := ⟨_, rfl⟩
      rw [← hFl] at hD hO hft
      obtain ⟨T, hT⟩ : ∃ T, T = parts.flatten.length := ⟨_, rfl⟩
      rw [← hT] at hcl hfl hft
      have HFE := Lib.hid (And.intro hFl hT)
      clear hpe hFl hT
      go_wp2_with fail
      have hSa : Sep (wr.alloc (.cells #[.string ⟨p.toArray⟩] 9)) (rdL b1 sv dv ov ob r ++ (.row (.slice oa O.length oc) 61 4 O.length (O.flatMap tokCells) :: [.row (.slice (some ⟨gp, 0, none⟩) parts.length cp) 9 1 parts.length (parts.map N11.strV), .low w.heap.size w])) := by
        have h1 := (HS.out.back 4).alloc0 (o := .cells #[.string ⟨p.toArray⟩] 9)
        simpa [rdL, ins] using h1
      have hne := (rdr_of_sep (HS.out.tail) hst).1.lt.1
      have hpl := part_le r p HJ.out.out HJ.out.data HJ.out.sub
      refine (feed_sepR b1 sv dv ov ob r p _ _ wr.heap.size 1 hSa hst (cell_new rfl) (fun hm => Nat.lt_irrefl _ (hne _ hm)) (by have h1 := HJ.out.out; have h2 := HJ.out.data; simp only at h1 h2; rw [h1, h2]; simp; omega) HJ.out.sub).mono ?_
      rintro e w8 ⟨⟨v8, sv8, dv8, ov8, rfl, hst8, hs8⟩⟩
      obtain ⟨q, hq⟩ : ∃ q, q = flushF (fedS r p) := ⟨_, rfl⟩
      have hpst : pstep (r, (D, O)) p = ({ q with out := [] }, (D ++ dtx q.out, O ++ ot q.out)) := by rw [hq]; rfl
      rw [← hq] at hst8 hs8 hpl
      obtain ⟨ts, hts⟩ : ∃ ts, ts = q.out := ⟨_, rfl⟩
      rw [← hts] at hs8 hpl hpst
      have HPST := Lib.hid hpst
      have HJ8 := Lib.hid (HJ.out.step p)
      obtain ⟨va, vc, rfl, -⟩ := own_slice (hs8.rowAt 0 rfl)
      have HS8 := Lib.hid (hs8.front 5 rfl)
      obtain ⟨q0, hq0⟩ : ∃ q0 : Rd, q0 = { q with out := [] } := ⟨_, rfl⟩
      have HQ0 := Lib.hid (And.intro hq0 (And.intro hts hq))
      have hst0 : q0.st < 6 := by rw [hq0]; exact hst8
      obtain ⟨hpl1, hpl2⟩ := hpl
      clear hs8 hq hts hpst hSa hne hq0 hst8
      go_wp2_with fail
      go_loopw [17, 18, 21] (fun d oth i wx => ∃ j : Nat, j ≤ ts.length ∧ i = .int .i64 j ∧ d = .string ⟨(D ++ dtx (ts.take j)).toArray⟩ ∧ Sep wx (.row oth 61 4 (O ++ ot (ts.take j)).length ((O ++ ot (ts.take j)).flatMap tokCells) :: .row (.slice va ts.length vc) 61 4 ts.length (ts.flatMap tokCells) :: (rdL b1 sv8 dv8 ov8 true q0 ++ [.row (.slice (some ⟨gp, 0, none⟩) parts.length cp) 9 1 parts.length (parts.map N11.strV), .low w.heap.size w]))) (fun _ _ i _ => ts.length - (intOf i).toNat)
      case atStart =>
        have h1 := HS8.out
        rw [← HQ0.out.1] at h1
        exact ⟨0, by omega, rfl, by simp [dtx], by simpa [ot, del, rdL] using h1⟩
      case round =>
        obtain ⟨j, hj, rfl, rfl, hX⟩ := hrel
        obtain ⟨o2, c2, rfl, -⟩ := own_slice (hX.rowAt 0 rfl)
        have HX := Lib.hid hX
        clear hX HS8
        by_cases hjl : j < ts.length
        · obtain ⟨g1, cp1, hf1, -, hg1⟩ := (HX.out.rowAt 1 rfl).form (by omega)
          simp only [Value.slice.injEq, true_and] at hf1
          obtain ⟨rfl, rfl⟩ := hf1
          obtain ⟨t0, t1, t2, t3⟩ := tok_at ts j hjl
          have a0 := K25.own_at (HX.out.rowAt 1 rfl) t0
          have a1 := K25.own_at (HX.out.rowAt 1 rfl) t1
          have a2 := K25.own_at (HX.out.rowAt 1 rfl) t2
          have a3 := K25.own_at (HX.out.rowAt 1 rfl) t3
          have HDT := Lib.hid (dtx_take ts j hjl)
          have HTT := Lib.hid (List.take_succ_eq_append_getElem hjl)
          have hb1 := bytes_take ts j
          have hb2 := dtx_len (ts.take j)
          have hb3 := bytes_mem (List.getElem_mem hjl)
          have hb4 : (ot (ts.take j)).length ≤ ts.length := Nat.le_trans (List.length_filter_le _ _) (by simp; omega)
          obtain ⟨x, hx⟩ : ∃ x, x = ts[j] := ⟨_, rfl⟩
          rw [← hx] at a0 a1 a2 a3 hb3
          obtain ⟨Dj, hDj⟩ : ∃ Dj, Dj = D ++ dtx (ts.take j) := ⟨_, rfl⟩
          obtain ⟨Oj, hOj⟩ : ∃ Oj, Oj = O ++ ot (ts.take j) := ⟨_, rfl⟩
          have hDjl : Dj.length ≤ 200000 := by rw [hDj, List.length_append]; omega
          have hOjl : Oj.length ≤ 200000 := by rw [hOj, List.length_append]; omega
          have hXx := HX.out
          rw [← hOj] at hXx
          rw [← hDj, ← hOj]
          have HX := Lib.hid hXx
          have HXE := Lib.hid (And.intro hx (And.intro hDj hOj))
          have hsD := B1.size_arr Dj
          have hsx := B1.size_arr x.text
          clear t0 t1 t2 t3 hx hDj hOj hXx hb1 hb2 hb4
          by_cases hxk : x.kind = 0
          · have hb0 : ((x.kind : Int) == 0) = true := by simp [hxk]
            go_wp2_with fail
            go_roundw
            case rel =>
              refine ⟨j + 1, by omega, by go_num, ?_, ?_⟩
              · rw [HDT.out, ← HXE.out.1, if_pos hxk, ← List.append_assoc, ← HXE.out.2.1, B1.app_arr]
              · have e : ot (ts.take (j + 1)) = ot (ts.take j) := by rw [HTT.out, ot_app, ← HXE.out.1]; simp [ot, hxk]
                rw [e, ← HXE.out.2.2]
                exact HX.out
            case measure => simp [intOf]; omega
          · have hb0 : ((x.kind : Int) == 0) = false := by simp [hxk]
            go_wp2_with (at_builtin; refine wpList_appS rfl (.tmp 122) (.tmp 127) 55 rfl 61 i0 (.agg #[.int .i64 0, .int .i64 0, .int .i64 0, .string ByteArray.empty]) 4 40 Tryd.underlying55 iI.out ia ib ic rfl (by decide) _ _ _ _ rfl (Sep.alloc0 HX.out) ⟨_, 0, none⟩ 1 _ _ rfl (by rfl) (newsB _ _ _ _ (by first | rfl | simp)) (by simp [Value.oneCell']) (by first | decide | omega) (by first | omega | (simp; done) | (simp; omega)) (by decide) ?_; intro g9 cap9 w9 hs9 hz9; have HS9 := Lib.hid hs9; clear hs9)
            go_roundw
            case rel =>
              refine ⟨j + 1, by omega, by go_num, ?_, ?_⟩
              · rw [HDT.out, ← HXE.out.1, if_neg hxk, List.append_nil, ← HXE.out.2.1]
              · have e : O ++ ot (ts.take (j + 1)) = Oj ++ [x] := by rw [HTT.out, ot_app, ← HXE.out.1, ← List.append_assoc, ← HXE.out.2.2]; simp [ot, hxk]
                rw [e]
                simpa [tokCells] using HS9.out
            case measure => simp [intOf]; omega
        · obtain rfl : j = ts.length := by omega
          go_wp2_with fail
          go_roundw
          case rel =>
            have h1 := HX.out
            rw [List.take_length] at h1 ⊢
            refine ⟨k + 1, by omega, by go_num, q0, D ++ dtx ts, O ++ ot ts, ?_, rfl, ?_, ?_, ?_, hst0, _, _, _, _, h1.drop 1⟩
            · rw [HTS.out, List.foldl_append, ← HFO.out, ← HPE.out]
              simp only [List.foldl_cons, List.foldl_nil]
              rw [HPST.out, HQ0.out.1]
            · have h2 := dtx_len ts
              rw [HFS.out, ← HFE.out.1, ← HPE.out, List.length_append, List.length_append]; omega
            · have h2 : (ot ts).length ≤ ts.length := List.length_filter_le _ _
              rw [HFS.out, ← HFE.out.1, ← HPE.out, List.length_append, List.length_append]; omega
            · have h2 := HJ8.out
              rw [HPST.out, ← HQ0.out.1] at h2
              rw [HFS.out, ← HPE.out, List.foldl_append]
              exact h2
          case measure => simp [intOf]; omega
    · obtain rfl : k = parts.length := by omega
      obtain ⟨hf1, hf2, hf3⟩ := HFIN.out
      have hJ := HJ.out
      rw [List.take_length, hf3] at hJ
      have hsame := hJ.same
      have hg0 := hJ.ground hf1 hf2
      simp only [Prod.mk.injEq] at hsame hg0
      obtain ⟨rfl, rfl⟩ := hsame
      obtain ⟨g1, cp1, hfo, -, hg1⟩ := (HS.out.rowAt 0 rfl).form (by simp)
      simp only [Value.slice.injEq, List.length_cons, List.length_nil, true_and] at hfo
      obtain ⟨rfl, rfl⟩ := hfo
      have a0 := K25.own_at (HS.out.rowAt 0 rfl) (j := 0) (u := .int .i64 2) rfl
      have a1 := K25.own_at (HS.out.rowAt 0 rfl) (j := 1) (u := .int .i64 253) rfl
      have a2 := K25.own_at (HS.out.rowAt 0 rfl) (j := 2) (u := .int .i64 on) rfl
      have a3 := K25.own_at (HS.out.rowAt 0 rfl) (j := 3) (u := .string ⟨#[]⟩) rfl
      have a4 := K25.own_at (HS.out.rowAt 0 rfl) (j := 4) (u := .int .i64 3) rfl
      have a5 := K25.own_at (HS.out.rowAt 0 rfl) (j := 5) (u := .int .i64 0) rfl
      have a6 := K25.own_at (HS.out.rowAt 0 rfl) (j := 6) (u := .int .i64 on) rfl
      have a7 := K25.own_at (HS.out.rowAt 0 rfl) (j := 7) (u := .string ⟨t.toArray⟩) rfl
      have hdec : decide (r.st = 0) = true := by simp [hg0]
      have HLW := Lib.hid (HS.out.lowAt 6 rfl)
      clear hJ hg0 hf3
      go_wp2_with (go_at_call 21; refine (whole_sep b1 _ _ _ _ r _ _ HS.out.tail).mono ?_; rintro e wz ⟨rfl, rfl⟩)
      go_ret
      exact ⟨by simp_all, HLW.out⟩
end Go.Proofs.YtemdhbjcdibpfaaDoor.W14
