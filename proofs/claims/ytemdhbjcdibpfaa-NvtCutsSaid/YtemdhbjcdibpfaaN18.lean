/- NvtCuts -/
import Derived.Test.YtemdhbjcdibpfaaN19
namespace Go.Proofs.Ytemdhbjcdibpfaa.N18
set_option linter.unusedVariables false
set_option linter.unusedSimpArgs false
set_option linter.unnecessarySimpa false
open Go.RowKit K1 K3 K5 K11 K12 K14 N0 N1 N2 N3 N4 N5 N6 N7 N8 N9 N10 N11 N13 N14 N15 N16 N17 N19
attribute [local go_sem] cell_pastA froz_pastA
theorem told_next {s : Rd} {l : List (List UInt8)} {k : Nat} (h : k < l.length) {ts : List Tok} {q : Rd} (ht : told s (l.take k) = (ts, q)) : told s (l.take (k + 1)) = (ts ++ outTok (fedS q l[k]), cs (fedS q l[k])) := by
  rw [take_succ l k h, told_snoc, ht]
theorem told_fit (bin : Bool) (l : List (List UInt8)) (k : Nat) {ts : List Tok} {q : Rd} (ht : told (new bin) (l.take k) = (ts, q)) : q = cs q ∧ q.sub.length ≤ 40 ∧ ts.length ≤ 3 * l.flatten.length + k := by
  have h1 := told_cs (l.take k) (new bin) rfl
  have h2 := told_sub (l.take k) (new bin) (by simp [new])
  have h3 := told_len (l.take k) (new bin) (by simp [new]) rfl
  have h4 := takel17 l k
  rw [ht] at h1 h2 h3
  refine ⟨h1, h2, ?_⟩
  simp only at h3
  have : (l.take k).length ≤ k := List.length_take_le _ _
  omega
set_option maxHeartbeats 8000000 in
set_option maxRecDepth 100000 in
theorem all_any (s : ByteArray) (ao : Option Addr) (sb off n cap : Nat) (L : Nat → Int) (ao2 : Option Addr) (sb2 off2 n2 cap2 : Nat) (L2 : Nat → Int) (bin : Bool) (w : World) (I : Ints w ao sb off n L) (I2 : Ints w ao2 sb2 off2 n2 L2)
    (hss : s.size ≤ 9223372036854775807) (hnn : n ≤ 9223372036854775807) (hnn2 : n2 ≤ 9223372036854775807) :
    Calls Try.prog 4 #[.string s, .slice ao n cap, .slice ao2 n2 cap2, .bool bin] w fun e w' => e = .returned (.bool true) ∧ Below w.heap.size w w' := by
  by_cases hbad : s.size > 1500 ∨ n > 40 ∨ n2 > 40
  · go_enter Try.func4, Try.ntmps4
    go_wp2_with (go_at_call 7; refine (alive_any _).mono ?_; rintro e w1 ⟨rfl, hb1⟩)
    all_goals
      go_ret
      exact ⟨rfl, by repeat' (first | with_reducible assumption | with_reducible exact Below.refl _ _ | with_reducible apply Below.alloc | with_reducible apply Below.setCell | with_reducible apply Below.drew | (refine Below.trans ?_ (Below.mono (by with_reducible assumption) ?_)) | omega | (simp; omega) | (simp; done))⟩
  · obtain ⟨hs1, hs2, hs3⟩ : s.size ≤ 1500 ∧ n ≤ 40 ∧ n2 ≤ 40 := by omega
    obtain ⟨i0, hi, hz0, hz1, hz2⟩ := info_parts info45
    have HI := Lib.hid hi
    clear hbad hi
    have HQ := Lib.hid (And.intro I I2)
    clear I I2
    go_enter Try.func4, Try.ntmps4
    go_wp2_with (go_at_call 7; refine (alive_any _).mono ?_; rintro e w1 ⟨rfl, hb1⟩)
    have hw1 := hb1.size
    refine (cuts_at HQ.out.1 s _ (by omega) (by omega) (by repeat' (first | with_reducible assumption | with_reducible exact Below.refl _ _ | with_reducible apply Below.alloc | with_reducible apply Below.setCell | with_reducible apply Below.drew | (refine Below.trans ?_ (Below.mono (by with_reducible assumption) ?_)) | omega | (simp; omega) | (simp; done)))).mono ?_
    rintro e w2 ⟨gp, cp, parts, rfl, hv, hgp, hfl, hp0, hpn, hb2⟩
    obtain ⟨b1, hb1e⟩ : ∃ b1, b1 = w1.heap.size := ⟨_, rfl⟩
    have hsz2 := hb2.size
    simp at hsz2 hgp
    have hX : Rdr w2 b1 [b1] false (new bin) := rdr_new (by
      refine blk_below ?_ hb2 (by simp; omega)
      exact (blk_alloc (blk_alloc (blk_new hb1e))).trans (by kernel_rfl))
    have hY : Rdr w2 (b1 + 1) [b1 + 1] false (new bin) := rdr_new (by
      refine blk_below ?_ hb2 (by simp; omega)
      exact (blk_alloc (blk_new (by simp; omega))).trans (by kernel_rfl))
    have hZ : Rdr w2 (b1 + 2) [b1 + 2] false (new bin) := rdr_new (by
      refine blk_below ?_ hb2 (by simp; omega)
      exact (blk_new (by simp; omega)).trans (by kernel_rfl))
    have hB2 : Below w.heap.size w w2 := by
      refine Below.trans ?_ (hb2.mono (by simp; have := hb1.size; omega))
      repeat' (first | with_reducible assumption | with_reducible exact Below.refl _ _ | with_reducible apply Below.alloc | with_reducible apply Below.setCell | with_reducible apply Below.drew | (refine Below.trans ?_ (Below.mono (by with_reducible assumption) ?_)) | omega | (simp; omega) | (simp; done))
    have hbw : w.heap.size ≤ b1 := by have := hb1.size; omega
    have HFL := Lib.hid hfl
    have HV := Lib.hid hv
    have HX := Lib.hid hX
    have HY := Lib.hid hY
    have HZ := Lib.hid hZ
    have HB2 := Lib.hid hB2
    have hvl := own_lt hv gp (by simp)
    obtain ⟨N0, hN0⟩ : ∃ N0, N0 = w2.heap.size := ⟨_, rfl⟩
    have hlp : parts.length ≤ 41 := by omega
    rw [← hb1e]
    rw [← hb1e] at hsz2 hgp
    clear hv hX hY hZ hB2 hb2 hfl hb1 hb1e
    go_wp2_with fail
    go_loopw [12, 15] (fun l i wr => ∃ (k : Nat) (S : List Nat) (o : Bool) (q : Rd) (ts : List Tok), k ≤ parts.length ∧ i = .int .i64 k ∧ told (new bin) (parts.take k) = (ts, q) ∧ Acc N0 b1 wr S o q l ts ∧ Fr N0 [b1] w2 wr) (fun _ i _ => parts.length - (intOf i).toNat)
    case atStart => exact ⟨0, [b1], false, new bin, [], by omega, rfl, rfl, ⟨HX.out, World.ownsRow_nil _ _ _ _, by simp, by simp, by omega, by omega⟩, Fr.refl _ _ _⟩
    case round =>
      obtain ⟨k, S, o, q, ts, hk, rfl, htold, hA, hF⟩ := hrel
      have HA := Lib.hid hA
      have HF := Lib.hid hF
      have HT := Lib.hid htold
      clear hA hF htold
      by_cases hlt : k < parts.length
      · obtain ⟨p, hp⟩ : ∃ p, p = parts[k] := ⟨_, rfl⟩
        have hpl : p.length ≤ 1500 := by
          have h1 := len_of_mem (show p ∈ parts by rw [hp]; exact List.getElem_mem _)
          rw [HFL.out] at h1
          simp at h1; omega
        have hVr : wr.ownsRow 0 9 1 (.slice (some ⟨gp, 0, none⟩) parts.length cp) parts.length (parts.map strV) := own_fr HV.out HF.out (by omega) (by simp; omega)
        have hck : wr.cell? ⟨gp, k, none⟩ = some (.string ⟨p.toArray⟩) := own_at hVr (by rw [hp]; simp [hlt, strV])
        have hgl : gp < wr.heap.size := own_lt hVr gp (by simp)
        have HTN := told_next hlt HT.out
        rw [← hp] at HTN
        have HTN := Lib.hid HTN
        obtain ⟨c1, c2, c3⟩ := told_fit bin parts k HT.out
        obtain ⟨c4, c5, c6⟩ := told_fit bin parts (k + 1) HTN.out
        rw [HFL.out] at c3 c6
        simp at c3 c6
        have HC := Lib.hid (And.intro c1 c2)
        have HP := Lib.hid hp
        clear hp hVr c1 c2 c4 c5
        go_wp2_with fail
        refine (feed_acc HA.out p HC.out.1 HC.out.2 (by omega) _ rfl _ rfl).mono ?_
        rintro e w3 ⟨v3, S3, rfl, hA3, hF3, hv3⟩
        obtain ⟨t3, ht3⟩ : ∃ t3, t3 = outTok (fedS q p) := ⟨_, rfl⟩
        rw [← ht3] at hv3 c6
        have HTN' := HTN.out
        rw [← ht3] at HTN'
        have HTN := Lib.hid HTN'
        have HA3 := Lib.hid hA3
        have HF3 := Lib.hid (HF.out.trans hF3)
        clear hA3 hF3 HTN' ht3
        rcases own_split hv3 with ⟨rfl, h0⟩ | ⟨g3, c3', rfl⟩
        · obtain rfl : t3 = [] := List.length_eq_zero_iff.1 h0
          clear hv3 h0
          go_wp2_with (at_builtin; refine wpList_append_none rfl (.tmp 56) (.tmp 63) 40 rfl _ 45 i0 4 0 Try.underlying40 HI.out _ _ _ rfl HA3.out.own rfl ?_)
          go_roundw
          case rel => exact ⟨k + 1, S3, true, _, _, by omega, by go_num, HTN.out, by simpa using HA3.out, HF3.out⟩
          case measure => simp [intOf]; omega
        · have HV3 := Lib.hid hv3
          clear hv3
          go_wp2_with (at_builtin; refine wpList_append_own_at _ rfl (.tmp 56) (.tmp 63) 40 rfl _ 45 i0 _ 4 40 Try.underlying40 HI.out hz0 hz1 hz2 rfl (by decide) _ _ _ rfl HA3.out.own ⟨g3, 0, none⟩ t3.length c3' (t3.flatMap tokCells) rfl (flat_len _) (HV3.out.cells rfl) (tok_one _) (by unfold maxLen; omega) (by omega) HA3.out.size ?_; intro v' w4 hown' hgrow hnil hat)
          obtain ⟨h4, h5⟩ := Acc.grown HA3.out hown' hgrow hat
          go_roundw
          case rel => exact ⟨k + 1, S3, true, _, _, by omega, by go_num, HTN.out, h4, HF3.out.trans h5⟩
          case measure => simp [intOf]; omega
      · obtain rfl : k = parts.length := by omega
        have hT := HT.out
        rw [List.take_of_length_le (Nat.le_refl _)] at hT
        have HT := Lib.hid hT
        clear hT
        obtain ⟨wA, rfl⟩ : ∃ x, x = wr := ⟨_, rfl⟩
        go_wp2_with fail
        have hF := HF.out
        have hwz := hF.size
        have hBr : Below w.heap.size w wA := HB2.out.trans (hF.below_of (by omega) (by simp; omega))
        have HBR := Lib.hid hBr
        refine (cuts_at HQ.out.2 s _ (by omega) (by omega) hBr).mono ?_
        rintro e w4 ⟨gq, cq, parts2, rfl, hv4, hgq, hfl2, hq0, hqn, hb4⟩
        have HV4 := Lib.hid hv4
        have HB4 := Lib.hid hb4
        have HFL2 := Lib.hid hfl2
        have hz4 := hb4.size
        clear hv4 hb4 hfl2 hBr hF
        go_wp2_with fail
        refine (lent_any _ parts2 _ HV4.out hq0 (by omega)).mono ?_
        rintro e w5 ⟨gt, ct, rfl, hLent, hgt, hb5⟩
        have hz5 := hb5.size
        have hF5 : Fr N0 [b1] w2 w5 := HF.out.trans (Fr.of_below ((HB4.out.mono (by omega)).trans (hb5.mono (by omega))))
        have hgtl := own_lt hLent.2.2.1 gt (by simp)
        have HL := Lib.hid hLent
        have HB5 := Lib.hid hb5
        have HF5 := Lib.hid hF5
        clear hLent hb5 hF5
        go_wp2_with fail
        refine (feed_many (Rdr.frame HY.out HF5.out (by omega) (by simp)) rfl (by simp [new]) parts2 gt ct HL.out.2.2.1 (by simp; omega) (by rw [HFL2.out]; simp; omega) (by omega)).mono ?_
        rintro e w6 ⟨v6, S6, rfl, hv6, hO6, hM6⟩
        rw [HFL2.out] at hv6 hO6
        have hz6 := hM6.size
        have hF6 : Fr N0 [b1, b1 + 1] w2 w6 := (HF5.out.mono (Nat.le_refl _) (by simp)).trans (hM6.fr.mono (by omega) (by simp))
        have hZ6 : Rdr w6 (b1 + 2) [b1 + 2] false (new bin) := Rdr.frame HZ.out hF6 (by omega) (by simp)
        obtain ⟨N1, hN1⟩ : ∃ N1, N1 = w6.heap.size := ⟨_, rfl⟩
        have HV6 := Lib.hid hv6
        have HO6 := Lib.hid hO6
        have HM6 := Lib.hid hM6
        have HZ6 := Lib.hid hZ6
        clear hv6 hO6 hM6 hZ6 hF6
        go_wp2_with fail
        go_loopw [18, 19] (fun l2 i wx => ∃ (k : Nat) (S : List Nat) (o : Bool) (q : Rd) (ts : List Tok), k ≤ s.size ∧ i = .int .i64 k ∧ told (new bin) ((ones s).take k) = (ts, q) ∧ Acc N1 (b1 + 2) wx S o q l2 ts ∧ Fr N1 [b1 + 2] w6 wx) (fun _ i _ => s.size - (intOf i).toNat)
        case atStart => exact ⟨0, [b1 + 2], false, new bin, [], by omega, rfl, rfl, ⟨HZ6.out, World.ownsRow_nil _ _ _ _, by simp, by simp, by omega, by omega⟩, Fr.refl _ _ _⟩
        case round =>
          obtain ⟨k, S2, o2, q2, ts2, hk, rfl, htold, hA, hFx⟩ := hrel
          have HA2 := Lib.hid hA
          have HFX := Lib.hid hFx
          have HT2 := Lib.hid htold
          clear hA hFx htold
          by_cases hlt : k < s.size
          · have hlo : k < (ones s).length := by rw [ones_len]; exact hlt
            have hoa := ones_at s k hlo
            obtain ⟨p, hp⟩ : ∃ p, p = (ones s)[k] := ⟨_, rfl⟩
            have hpl : p.length ≤ 1500 := by rw [hp]; simp [ones]
            have HTN := told_next hlo HT2.out
            rw [← hp] at HTN hoa
            have HTN := Lib.hid HTN
            obtain ⟨c1, c2, c3⟩ := told_fit bin (ones s) k HT2.out
            obtain ⟨c4, c5, c6⟩ := told_fit bin (ones s) (k + 1) HTN.out
            rw [ones_flat] at c3 c6
            simp at c3 c6
            have HC := Lib.hid (And.intro c1 c2)
            have HOA := Lib.hid hoa
            clear hp hoa c1 c2 c4 c5
            go_wp2_with fail
            refine (feed_acc HA2.out p HC.out.1 HC.out.2 (by omega) _ (by rw [HOA.out]) _ rfl).mono ?_
            rintro e w3 ⟨v3, S3, rfl, hA3, hF3, hv3⟩
            obtain ⟨t3, ht3⟩ : ∃ t3, t3 = outTok (fedS q2 p) := ⟨_, rfl⟩
            rw [← ht3] at hv3 c6
            have HTN' := HTN.out
            rw [← ht3] at HTN'
            have HTN := Lib.hid HTN'
            have HA3 := Lib.hid hA3
            have HF3 := Lib.hid (HFX.out.trans hF3)
            clear hA3 hF3 HTN' ht3
            rcases own_split hv3 with ⟨rfl, h0⟩ | ⟨g3, c3', rfl⟩
            · obtain rfl : t3 = [] := List.length_eq_zero_iff.1 h0
              clear hv3 h0
              go_wp2_with (at_builtin; refine wpList_append_none rfl (.tmp 79) (.tmp 87) 40 rfl _ 45 i0 4 0 Try.underlying40 HI.out _ _ _ rfl HA3.out.own rfl ?_)
              go_roundw
              case rel => exact ⟨k + 1, S3, true, _, _, by omega, by go_num, HTN.out, by simpa using HA3.out, HF3.out⟩
              case measure => simp [intOf]; omega
            · have HV3 := Lib.hid hv3
              clear hv3
              go_wp2_with (at_builtin; refine wpList_append_own_at _ rfl (.tmp 79) (.tmp 87) 40 rfl _ 45 i0 _ 4 40 Try.underlying40 HI.out hz0 hz1 hz2 rfl (by decide) _ _ _ rfl HA3.out.own ⟨g3, 0, none⟩ t3.length c3' (t3.flatMap tokCells) rfl (flat_len _) (HV3.out.cells rfl) (tok_one _) (by unfold maxLen; omega) (by omega) HA3.out.size ?_; intro v' w4 hown' hgrow hnil hat)
              obtain ⟨h4, h5⟩ := Acc.grown HA3.out hown' hgrow hat
              go_roundw
              case rel => exact ⟨k + 1, S3, true, _, _, by omega, by go_num, HTN.out, h4, HF3.out.trans h5⟩
              case measure => simp [intOf]; omega
          · obtain rfl : k = s.size := by omega
            have hT2 := HT2.out
            rw [List.take_of_length_le (by rw [ones_len]; exact Nat.le_refl _)] at hT2
            have hq1 := told_all parts (new bin) rfl
            have hq2 := told_all (ones s) (new bin) rfl
            rw [HT.out, HFL.out] at hq1
            rw [hT2, ones_flat] at hq2
            obtain ⟨l1, m1⟩ := hq1
            obtain ⟨l2', m2⟩ := hq2
            simp only at l1 m1 l2' m2
            have hm0 := mass_fed s.data.toList (new bin) (by simp [new])
            rw [← mass_out] at hm0
            have hw0 := out_len (fedS (new bin) s.data.toList)
            have hw1 := (fedS_le s.data.toList (new bin) (by simp [new])).1
            have hmn : mass (new bin) = 0 := rfl
            have hwn : wgt (new bin) = 0 := rfl
            rw [size_list] at hm0 hw1
            have hv6 := HV6.out
            have hO6 := HO6.out
            obtain ⟨TM, hTM⟩ : ∃ TM, TM = outTok (fedS (new bin) s.data.toList) := ⟨_, rfl⟩
            obtain ⟨Q, hQ⟩ : ∃ Q, Q = cs (fedS (new bin) s.data.toList) := ⟨_, rfl⟩
            rw [← hTM] at l1 l2' hm0 hw0 hv6
            rw [← hQ] at m1 m2 hO6
            have p1 := l1.plain
            have p2 := l2'.plain
            have hlx := (told_fit bin parts parts.length (ts := ts) (q := q) (by rw [List.take_of_length_le (Nat.le_refl _)]; exact HT.out)).2.2
            have hlz := (told_fit bin (ones s) s.size HT2.out).2.2
            rw [HFL.out, size_list] at hlx
            rw [ones_flat, size_list] at hlz
            have hbx := N14.plain_bytes ts
            have hbz := N14.plain_bytes ts2
            have hby := N14.plain_bytes TM
            rw [p1] at hbx
            rw [p2] at hbz
            subst m1
            subst m2
            have hFz : Fr wA.heap.size [b1 + 1, b1 + 2] wA wr := ((Fr.of_below (HB4.out.trans (HB5.out.mono (by omega)))).trans (HM6.out.fr.mono (by omega) (by simp))).trans (HFX.out.mono (by omega) (by simp))
            have hF5z : Fr w5.heap.size [b1 + 1, b1 + 2] w5 wr := (HM6.out.fr.mono (Nat.le_refl _) (by simp)).trans (HFX.out.mono (by omega) (by simp))
            have hF4z : Fr w4.heap.size [b1 + 1, b1 + 2] w4 wr := (Fr.of_below HB5.out).trans (hF5z.mono (by omega) (by intro k hk _; exact hk))
            have h1 : ∀ {v : Value} {n : Nat} {xs : List Value}, wA.ownsRow N0 45 4 v n xs → ∀ k ∈ foot v, k ∉ [b1 + 1, b1 + 2] := fun h k hk => by
              have := own_base_le h k hk
              simp; omega
            have h2 : ∀ k ∈ foot v6, k ∉ [b1 + 2] := fun k hk => by
              have := HM6.out.sub k (by simp [hk])
              simp at this ⊢; omega
            have h3 : ∀ k ∈ S, k ∉ [b1 + 1, b1 + 2] := fun k hk => by
              have := HA.out.low k hk
              simp; omega
            have h4 : ∀ k ∈ S6, k ∉ [b1 + 2] := fun k hk => by
              have := HM6.out.sub k (by simp [hk])
              simp at this ⊢; omega
            have hE : Closing wr b1 (b1 + 1) (b1 + 2) S S6 S2 o true o2 q2 _ v6 _ ts TM ts2 gt ct (.slice (some ⟨gq, 0, none⟩) parts2.length cq) parts2 :=
              ⟨own_base (own_fr HA.out.own hFz (Nat.le_refl _) (h1 HA.out.own)), own_fr hv6 HFX.out (by omega) h2, own_base HA2.out.own, lent_next HL.out (hF5z.block gt hgtl (by simp; omega)), own_fr HV4.out hF4z (Nat.le_refl _) (by simp; omega), Rdr.frame HA.out.rd hFz (Nat.le_refl _) h3, Rdr.frame hO6 HFX.out (by omega) h4, HA2.out.rd⟩
            have hBx : Below w.heap.size w wr := HBR.out.trans (hFz.below_of (by omega) (by simp; omega))
            have HE := Lib.hid hE
            have HBX := Lib.hid hBx
            have HP := Lib.hid (And.intro p1 p2)
            have hxz := hBx.size
            clear hE hBx hFz hF5z hF4z p1 p2 l1 l2' hT2 hv6 hO6 hTM hQ
            go_wp2_with fail
            refine (N14.plain_any _ ts _ HE.out.l (by omega) (by omega)).mono ?_
            rintro e w7 ⟨u1, rfl, hu1, hb7⟩
            rw [HP.out.1] at hu1
            have HE7 := Lib.hid (HE.out.next hb7)
            have HB7 := Lib.hid (HBX.out.trans (hb7.mono hxz))
            have hz7 := hb7.size
            have HU1 := Lib.hid hu1
            clear hb7 hu1
            go_wp2_with fail
            refine (N14.plain_any _ TM _ HE7.out.m (by omega) (by omega)).mono ?_
            rintro e w8 ⟨u2, rfl, hu2, hb8⟩
            have HE8 := Lib.hid (HE7.out.next hb8)
            have HB8 := Lib.hid (HB7.out.trans (hb8.mono (by omega)))
            have hz8 := hb8.size
            have HU2 := Lib.hid (And.intro (own_base (own_keep HU1.out (fun k hk => hb8.block k (own_lt HU1.out k hk)))) (own_base hu2))
            clear hb8 hu2
            have hpt := plain_len TM
            go_wp2_with fail
            refine (same_tokens _ _ (plainF TM) _ HU2.out.1 HU2.out.2 (by omega)).mono ?_
            rintro e w9 ⟨rfl, hb9⟩
            have HE9 := Lib.hid (HE8.out.next hb9)
            have HB9 := Lib.hid (HB8.out.trans (hb9.mono (by omega)))
            have hz9 := hb9.size
            clear hb9
            go_wp2_with fail
            refine (N14.plain_any _ ts2 _ HE9.out.n (by omega) (by omega)).mono ?_
            rintro e w10 ⟨u3, rfl, hu3, hb10⟩
            rw [HP.out.2] at hu3
            have HE10 := Lib.hid (HE9.out.next hb10)
            have HB10 := Lib.hid (HB9.out.trans (hb10.mono (by omega)))
            have hz10 := hb10.size
            have HU3 := Lib.hid hu3
            clear hb10 hu3
            go_wp2_with fail
            refine (N14.plain_any _ TM _ HE10.out.m (by omega) (by omega)).mono ?_
            rintro e w11 ⟨u4, rfl, hu4, hb11⟩
            have HE11 := Lib.hid (HE10.out.next hb11)
            have HB11 := Lib.hid (HB10.out.trans (hb11.mono (by omega)))
            have hz11 := hb11.size
            have HU4 := Lib.hid (And.intro (own_base (own_keep HU3.out (fun k hk => hb11.block k (own_lt HU3.out k hk)))) (own_base hu4))
            clear hb11 hu4
            go_wp2_with fail
            refine (same_tokens _ _ (plainF TM) _ HU4.out.1 HU4.out.2 (by omega)).mono ?_
            rintro e w12 ⟨rfl, hb12⟩
            have HE12 := Lib.hid (HE11.out.next hb12)
            have HB12 := Lib.hid (HB11.out.trans (hb12.mono (by omega)))
            have hz12 := hb12.size
            clear hb12
            go_wp2_with fail
            refine (stays_any _ gt ct parts2 _ HE12.out.t HE12.out.qs (by omega)).mono ?_
            rintro e w13 ⟨rfl, hb13⟩
            have HE13 := Lib.hid (HE12.out.next hb13)
            have HB13 := Lib.hid (HB12.out.trans (hb13.mono (by omega)))
            clear hb13
            go_wp2_with fail
            refine (whole_any _ _ _ _ _ HE13.out.x).mono ?_
            rintro e wz ⟨rfl, rfl⟩
            go_wp2_with fail
            refine (whole_any _ _ _ _ _ HE13.out.y).mono ?_
            rintro e wz ⟨rfl, rfl⟩
            go_wp2_with fail
            refine (sub_any _ _ _ _ _ HE13.out.x).mono ?_
            rintro e wz ⟨rfl, rfl⟩
            go_wp2_with fail
            refine (sub_any _ _ _ _ _ HE13.out.z).mono ?_
            rintro e wz ⟨rfl, rfl⟩
            go_wp2_with fail
            go_ret
            exact ⟨rfl, HB13.out⟩
end Go.Proofs.Ytemdhbjcdibpfaa.N18
