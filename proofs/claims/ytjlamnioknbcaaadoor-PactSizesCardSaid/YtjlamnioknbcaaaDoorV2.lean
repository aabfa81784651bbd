/- the document's Data -/
import Derived.Test.YtjlamnioknbcaaaDoorV1
namespace Go.Proofs.YtjlamnioknbcaaaDoor.V2
set_option linter.unusedVariables false
set_option linter.unusedSimpArgs false
set_option linter.unnecessarySimpa false
set_option maxRecDepth 100000
open Go.RowKit K1 K3 K5 K11 K12 K14 K20 K21 K22 K25 W0 V1
attribute [local go_sem] cell_pastA froz_pastA
/-- what stands for the byte at i -/
def ritem (bin : Bool) (s : List UInt8) (i : Nat) : List UInt8 := match s[i]? with
  | none => []
  | some c => [c] ++ ((if c = 255 then [255] else []) ++ (if c = 13 ∧ bin = false ∧ s[i + 1]? ≠ some 10 then [0] else []))
def drP (bin : Bool) (s : List UInt8) (k : Nat) : List UInt8 := (List.range k).flatMap (ritem bin s)
theorem drP_succ (bin : Bool) (s : List UInt8) (k : Nat) : drP bin s (k + 1) = drP bin s k ++ ritem bin s k := by unfold drP; rw [List.range_succ, List.flatMap_append]; simp
theorem ritem_len (bin : Bool) (s : List UInt8) (k : Nat) : (ritem bin s k).length ≤ 3 := by unfold ritem; split; simp; split <;> split <;> simp
theorem drP_len (bin : Bool) (s : List UInt8) : ∀ k, (drP bin s k).length ≤ 3 * k
  | 0 => by simp [drP]
  | k + 1 => by rw [drP_succ, List.length_append]; have := drP_len bin s k; have := ritem_len bin s k; omega
theorem ritem_dbl (s : List UInt8) (k : Nat) : ritem false s k = dbl (item s k) := by
  unfold ritem item
  cases s[k]? with
  | none => rfl
  | some c =>
    simp only
    by_cases h1 : c = 13
    · subst h1
      by_cases h2 : s[k + 1]? = some 10
      · simp [dbl, h2]
      · simp [dbl, h2]
    · by_cases h3 : c = 255
      · subst h3; simp [dbl]
      · simp [dbl, h1, h3]
theorem ritem_bin (s : List UInt8) (k : Nat) (h : k < s.length) : ritem true s k = dbl [s[k]] := by
  unfold ritem
  rw [List.getElem?_eq_getElem h]
  simp only
  by_cases h3 : s[k] = 255
  · simp [dbl, h3]
  · simp [dbl, h3]
theorem drP_dat (bin : Bool) (s : List UInt8) : drP bin s s.length = datF bin s := by
  cases bin
  · unfold drP datF
    rw [if_neg (by simp)]
    unfold crP dbl
    rw [List.flatMap_assoc]
    rw [List.flatMap_def, List.flatMap_def]
    congr 1
    exact List.map_congr_left fun k _ => ritem_dbl s k
  · have : ∀ k, k ≤ s.length → drP true s k = dbl (s.take k) := by
      intro k
      induction k with
      | zero => intro _; rfl
      | succ k ih =>
        intro h
        rw [drP_succ, ih (by omega), ritem_bin s k (by omega), List.take_succ_eq_append_getElem (by omega), dbl_app]
    rw [this _ (Nat.le_refl _), List.take_length]
    rfl
set_option maxHeartbeats 8000000 in
theorem refData_any (bin : Bool) (s : ByteArray) (w : World) (hs : s.size ≤ 100000) : Calls Tryd.prog 21 #[.bool bin, .string s] w fun e w' => e = .returned (.string ⟨(datF bin s.data.toList).toArray⟩) ∧ Below w.heap.size w w' := by
  obtain ⟨i0, ih, ia, ib, ic⟩ := info_parts info5'
  have iI := Lib.hid ih
  clear ih
  have HS1 := Lib.hid ((Sep.start w).nilRow (t := 5) (s := 1))
  have hde := drP_dat bin s.data.toList
  rw [show s.data.toList.length = s.size by simp] at hde
  rw [← hde]
  clear hde
  go_enter Tryd.func21, Tryd.ntmps21
  go_wp2_with fail
  go_loopw [5, 6] (fun v i wr => ∃ k : Nat, k ≤ s.size ∧ i = .int .i64 k ∧ Sep wr [.row v 5 1 (drP bin s.data.toList k).length ((drP bin s.data.toList k).map u8), .low w.heap.size w]) (fun _ i _ => s.size - (intOf i).toNat)
  case atStart => exact ⟨0, by omega, rfl, HS1.out⟩
  case round =>
    obtain ⟨k, hk, rfl, hS⟩ := hrel
    have HS := Lib.hid hS
    have hcl := drP_len bin s.data.toList k
    obtain ⟨va, vc, rfl, -⟩ := own_slice (hS.rowAt 0 rfl)
    clear hS HS1
    by_cases hlt : k < s.size
    · have hgt := get_bytes s k hlt
      have hgt1 : s.data.toList[k + 1]? = if h : k + 1 < s.size then some s[k + 1] else none := by
        split
        · exact get_bytes s _ ‹_›
        · rw [List.getElem?_eq_none]; simp; omega
      have hcr : (((s[k]).toNat : Int) == 13) = decide (s[k] = 13) := by rw [Bool.eq_iff_iff]; simp [eq_iff]; omega
      have hci : (((s[k]).toNat : Int) == 255) = decide (s[k] = 255) := by rw [Bool.eq_iff_iff]; simp [eq_iff]; omega
      by_cases h255 : s[k] = 255
      · have hd : (((s[k]).toNat : Int) == 13) = false := by rw [hcr, h255]; rfl
        have hd2 : (((s[k]).toNat : Int) == 255) = true := by rw [hci, h255]; rfl
        have HIT := Lib.hid (show ritem bin s.data.toList k = [s[k], 255] by unfold ritem; rw [hgt]; simp [h255])
        clear hgt hgt1 hcr hci h255
        go_wp2_with (first | (at_builtin; refine wpList_appS rfl (.tmp 13) (.tmp 17) 72 rfl 5 i0 (.int .u8 0) 1 1 Tryd.underlying72 iI.out ia ib ic rfl (by decide) _ _ _ _ rfl (Sep.alloc0 HS.out) ⟨_, 0, none⟩ 1 _ [_] rfl (by rfl) (news1 _ _ _ _ (by simp)) (by simp [Value.oneCell']) (by first | decide | omega) (by first | omega | (simp; done) | (simp; omega)) (by decide) ?_; intro g2 cap2 w2 hs2 hz2; have HS2 := Lib.hid hs2; clear hs2) | (at_builtin; refine wpList_appS rfl (.tmp 23) (.tmp 24) 72 rfl 5 i0 (.int .u8 0) 1 1 Tryd.underlying72 iI.out ia ib ic rfl (by decide) _ _ _ _ rfl (Sep.alloc0 HS2.out) ⟨_, 0, none⟩ 1 _ [_] rfl (by rfl) (news1 _ _ _ _ (by simp)) (by simp [Value.oneCell']) (by first | decide | omega) (by first | omega | (simp; done) | (simp; omega)) (by decide) ?_; intro g3 cap3 w3 hs3 hz3; have HS3 := Lib.hid hs3; clear hs3) | (at_builtin; refine wpList_appS rfl (.tmp 48) (.tmp 49) 72 rfl 5 i0 (.int .u8 0) 1 1 Tryd.underlying72 iI.out ia ib ic rfl (by decide) _ _ _ _ rfl (Sep.alloc0 HS2.out) ⟨_, 0, none⟩ 1 _ [_] rfl (by rfl) (news1 _ _ _ _ (by simp)) (by simp [Value.oneCell']) (by first | decide | omega) (by first | omega | (simp; done) | (simp; omega)) (by decide) ?_; intro g4 cap4 w4 hs4 hz4; have HS4 := Lib.hid hs4; clear hs4))
        go_roundw
        case rel => exact ⟨k + 1, by omega, by go_num, by rw [drP_succ, HIT.out, List.length_append, List.map_append]; simpa [K14.u8, Nat.add_assoc] using HS3.out⟩
        case measure => simp [intOf]; omega
      · have hd2 : (((s[k]).toNat : Int) == 255) = false := by rw [hci]; simpa using h255
        by_cases h13 : s[k] = 13
        · have hd : (((s[k]).toNat : Int) == 13) = true := by rw [hcr, h13]; rfl
          have hb : (((k : Int) + 1 == (s.size : Int)) = true ∧ s.data.toList[k + 1]? = none) ∨ (((k : Int) + 1 == (s.size : Int)) = false ∧ ∃ h : k + 1 < s.size, ((((s[k+1]).toNat : Int) == 10) = true ∧ s.data.toList[k + 1]? = some 10 ∨ (((s[k+1]).toNat : Int) == 10) = false ∧ s.data.toList[k + 1]? ≠ some 10)) := by
            by_cases h1 : k + 1 < s.size
            · refine .inr ⟨by simp; omega, h1, ?_⟩
              rw [hgt1, dif_pos h1]
              by_cases h2 : s[k+1] = 10
              · exact .inl ⟨by simp [h2], by rw [h2]⟩
              · refine .inr ⟨?_, by simpa using h2⟩
                rw [eq_iff] at h2; simp at h2 ⊢; omega
            · exact .inl ⟨by simp; omega, by rw [hgt1, dif_neg h1]⟩
          have hit : ritem bin s.data.toList k = [s[k]] ++ (if bin = false ∧ s.data.toList[k + 1]? ≠ some 10 then [0] else []) := by unfold ritem; rw [hgt]; simp [h13]
          cases bin
          · rcases hb with ⟨hb, hn⟩ | ⟨hb, hb2, ⟨hb3, hn⟩ | ⟨hb3, hn⟩⟩
            · have HIT := Lib.hid (show ritem false s.data.toList k = [s[k], 0] by rw [hit, if_pos ⟨rfl, by rw [hn]; simp⟩]; rfl)
              clear hgt hgt1 hcr hci h255 h13 hn hit
              go_wp2_with (first | (at_builtin; refine wpList_appS rfl (.tmp 13) (.tmp 17) 72 rfl 5 i0 (.int .u8 0) 1 1 Tryd.underlying72 iI.out ia ib ic rfl (by decide) _ _ _ _ rfl (Sep.alloc0 HS.out) ⟨_, 0, none⟩ 1 _ [_] rfl (by rfl) (news1 _ _ _ _ (by simp)) (by simp [Value.oneCell']) (by first | decide | omega) (by first | omega | (simp; done) | (simp; omega)) (by decide) ?_; intro g2 cap2 w2 hs2 hz2; have HS2 := Lib.hid hs2; clear hs2) | (at_builtin; refine wpList_appS rfl (.tmp 23) (.tmp 24) 72 rfl 5 i0 (.int .u8 0) 1 1 Tryd.underlying72 iI.out ia ib ic rfl (by decide) _ _ _ _ rfl (Sep.alloc0 HS2.out) ⟨_, 0, none⟩ 1 _ [_] rfl (by rfl) (news1 _ _ _ _ (by simp)) (by simp [Value.oneCell']) (by first | decide | omega) (by first | omega | (simp; done) | (simp; omega)) (by decide) ?_; intro g3 cap3 w3 hs3 hz3; have HS3 := Lib.hid hs3; clear hs3) | (at_builtin; refine wpList_appS rfl (.tmp 48) (.tmp 49) 72 rfl 5 i0 (.int .u8 0) 1 1 Tryd.underlying72 iI.out ia ib ic rfl (by decide) _ _ _ _ rfl (Sep.alloc0 HS2.out) ⟨_, 0, none⟩ 1 _ [_] rfl (by rfl) (news1 _ _ _ _ (by simp)) (by simp [Value.oneCell']) (by first | decide | omega) (by first | omega | (simp; done) | (simp; omega)) (by decide) ?_; intro g4 cap4 w4 hs4 hz4; have HS4 := Lib.hid hs4; clear hs4))
              go_roundw
              case rel => exact ⟨k + 1, by omega, by go_num, by rw [drP_succ, HIT.out, List.length_append, List.map_append]; simpa [K14.u8, Nat.add_assoc] using HS4.out⟩
              case measure => simp [intOf]; omega
            · have HIT := Lib.hid (show ritem false s.data.toList k = [s[k]] by rw [hit, if_neg (fun h => h.2 hn)]; rfl)
              clear hgt hgt1 hcr hci h255 h13 hn hit
              go_wp2_with (first | (at_builtin; refine wpList_appS rfl (.tmp 13) (.tmp 17) 72 rfl 5 i0 (.int .u8 0) 1 1 Tryd.underlying72 iI.out ia ib ic rfl (by decide) _ _ _ _ rfl (Sep.alloc0 HS.out) ⟨_, 0, none⟩ 1 _ [_] rfl (by rfl) (news1 _ _ _ _ (by simp)) (by simp [Value.oneCell']) (by first | decide | omega) (by first | omega | (simp; done) | (simp; omega)) (by decide) ?_; intro g2 cap2 w2 hs2 hz2; have HS2 := Lib.hid hs2; clear hs2) | (at_builtin; refine wpList_appS rfl (.tmp 23) (.tmp 24) 72 rfl 5 i0 (.int .u8 0) 1 1 Tryd.underlying72 iI.out ia ib ic rfl (by decide) _ _ _ _ rfl (Sep.alloc0 HS2.out) ⟨_, 0, none⟩ 1 _ [_] rfl (by rfl) (news1 _ _ _ _ (by simp)) (by simp [Value.oneCell']) (by first | decide | omega) (by first | omega | (simp; done) | (simp; omega)) (by decide) ?_; intro g3 cap3 w3 hs3 hz3; have HS3 := Lib.hid hs3; clear hs3) | (at_builtin; refine wpList_appS rfl (.tmp 48) (.tmp 49) 72 rfl 5 i0 (.int .u8 0) 1 1 Tryd.underlying72 iI.out ia ib ic rfl (by decide) _ _ _ _ rfl (Sep.alloc0 HS2.out) ⟨_, 0, none⟩ 1 _ [_] rfl (by rfl) (news1 _ _ _ _ (by simp)) (by simp [Value.oneCell']) (by first | decide | omega) (by first | omega | (simp; done) | (simp; omega)) (by decide) ?_; intro g4 cap4 w4 hs4 hz4; have HS4 := Lib.hid hs4; clear hs4))
              go_roundw
              case rel => exact ⟨k + 1, by omega, by go_num, by rw [drP_succ, HIT.out, List.length_append, List.map_append]; simpa [K14.u8, Nat.add_assoc] using HS2.out⟩
              case measure => simp [intOf]; omega
            · have HIT := Lib.hid (show ritem false s.data.toList k = [s[k], 0] by rw [hit, if_pos ⟨rfl, hn⟩]; rfl)
              clear hgt hgt1 hcr hci h255 h13 hn hit
              go_wp2_with (first | (at_builtin; refine wpList_appS rfl (.tmp 13) (.tmp 17) 72 rfl 5 i0 (.int .u8 0) 1 1 Tryd.underlying72 iI.out ia ib ic rfl (by decide) _ _ _ _ rfl (Sep.alloc0 HS.out) ⟨_, 0, none⟩ 1 _ [_] rfl (by rfl) (news1 _ _ _ _ (by simp)) (by simp [Value.oneCell']) (by first | decide | omega) (by first | omega | (simp; done) | (simp; omega)) (by decide) ?_; intro g2 cap2 w2 hs2 hz2; have HS2 := Lib.hid hs2; clear hs2) | (at_builtin; refine wpList_appS rfl (.tmp 23) (.tmp 24) 72 rfl 5 i0 (.int .u8 0) 1 1 Tryd.underlying72 iI.out ia ib ic rfl (by decide) _ _ _ _ rfl (Sep.alloc0 HS2.out) ⟨_, 0, none⟩ 1 _ [_] rfl (by rfl) (news1 _ _ _ _ (by simp)) (by simp [Value.oneCell']) (by first | decide | omega) (by first | omega | (simp; done) | (simp; omega)) (by decide) ?_; intro g3 cap3 w3 hs3 hz3; have HS3 := Lib.hid hs3; clear hs3) | (at_builtin; refine wpList_appS rfl (.tmp 48) (.tmp 49) 72 rfl 5 i0 (.int .u8 0) 1 1 Tryd.underlying72 iI.out ia ib ic rfl (by decide) _ _ _ _ rfl (Sep.alloc0 HS2.out) ⟨_, 0, none⟩ 1 _ [_] rfl (by rfl) (news1 _ _ _ _ (by simp)) (by simp [Value.oneCell']) (by first | decide | omega) (by first | omega | (simp; done) | (simp; omega)) (by decide) ?_; intro g4 cap4 w4 hs4 hz4; have HS4 := Lib.hid hs4; clear hs4))
              go_roundw
              case rel => exact ⟨k + 1, by omega, by go_num, by rw [drP_succ, HIT.out, List.length_append, List.map_append]; simpa [K14.u8, Nat.add_assoc] using HS4.out⟩
              case measure => simp [intOf]; omega
          · have HIT := Lib.hid (show ritem true s.data.toList k = [s[k]] by rw [hit, if_neg (fun h => by cases h.1)]; rfl)
            clear hgt hgt1 hcr hci h255 h13 hb hit
            go_wp2_with (first | (at_builtin; refine wpList_appS rfl (.tmp 13) (.tmp 17) 72 rfl 5 i0 (.int .u8 0) 1 1 Tryd.underlying72 iI.out ia ib ic rfl (by decide) _ _ _ _ rfl (Sep.alloc0 HS.out) ⟨_, 0, none⟩ 1 _ [_] rfl (by rfl) (news1 _ _ _ _ (by simp)) (by simp [Value.oneCell']) (by first | decide | omega) (by first | omega | (simp; done) | (simp; omega)) (by decide) ?_; intro g2 cap2 w2 hs2 hz2; have HS2 := Lib.hid hs2; clear hs2) | (at_builtin; refine wpList_appS rfl (.tmp 23) (.tmp 24) 72 rfl 5 i0 (.int .u8 0) 1 1 Tryd.underlying72 iI.out ia ib ic rfl (by decide) _ _ _ _ rfl (Sep.alloc0 HS2.out) ⟨_, 0, none⟩ 1 _ [_] rfl (by rfl) (news1 _ _ _ _ (by simp)) (by simp [Value.oneCell']) (by first | decide | omega) (by first | omega | (simp; done) | (simp; omega)) (by decide) ?_; intro g3 cap3 w3 hs3 hz3; have HS3 := Lib.hid hs3; clear hs3) | (at_builtin; refine wpList_appS rfl (.tmp 48) (.tmp 49) 72 rfl 5 i0 (.int .u8 0) 1 1 Tryd.underlying72 iI.out ia ib ic rfl (by decide) _ _ _ _ rfl (Sep.alloc0 HS2.out) ⟨_, 0, none⟩ 1 _ [_] rfl (by rfl) (news1 _ _ _ _ (by simp)) (by simp [Value.oneCell']) (by first | decide | omega) (by first | omega | (simp; done) | (simp; omega)) (by decide) ?_; intro g4 cap4 w4 hs4 hz4; have HS4 := Lib.hid hs4; clear hs4))
            go_roundw
            case rel => exact ⟨k + 1, by omega, by go_num, by rw [drP_succ, HIT.out, List.length_append, List.map_append]; simpa [K14.u8, Nat.add_assoc] using HS2.out⟩
            case measure => simp [intOf]; omega
        · have hd : (((s[k]).toNat : Int) == 13) = false := by rw [hcr]; simpa using h13
          have HIT := Lib.hid (show ritem bin s.data.toList k = [s[k]] by unfold ritem; rw [hgt]; simp [h13, h255])
          clear hgt hgt1 hcr hci h255 h13
          go_wp2_with (first | (at_builtin; refine wpList_appS rfl (.tmp 13) (.tmp 17) 72 rfl 5 i0 (.int .u8 0) 1 1 Tryd.underlying72 iI.out ia ib ic rfl (by decide) _ _ _ _ rfl (Sep.alloc0 HS.out) ⟨_, 0, none⟩ 1 _ [_] rfl (by rfl) (news1 _ _ _ _ (by simp)) (by simp [Value.oneCell']) (by first | decide | omega) (by first | omega | (simp; done) | (simp; omega)) (by decide) ?_; intro g2 cap2 w2 hs2 hz2; have HS2 := Lib.hid hs2; clear hs2) | (at_builtin; refine wpList_appS rfl (.tmp 23) (.tmp 24) 72 rfl 5 i0 (.int .u8 0) 1 1 Tryd.underlying72 iI.out ia ib ic rfl (by decide) _ _ _ _ rfl (Sep.alloc0 HS2.out) ⟨_, 0, none⟩ 1 _ [_] rfl (by rfl) (news1 _ _ _ _ (by simp)) (by simp [Value.oneCell']) (by first | decide | omega) (by first | omega | (simp; done) | (simp; omega)) (by decide) ?_; intro g3 cap3 w3 hs3 hz3; have HS3 := Lib.hid hs3; clear hs3) | (at_builtin; refine wpList_appS rfl (.tmp 48) (.tmp 49) 72 rfl 5 i0 (.int .u8 0) 1 1 Tryd.underlying72 iI.out ia ib ic rfl (by decide) _ _ _ _ rfl (Sep.alloc0 HS2.out) ⟨_, 0, none⟩ 1 _ [_] rfl (by rfl) (news1 _ _ _ _ (by simp)) (by simp [Value.oneCell']) (by first | decide | omega) (by first | omega | (simp; done) | (simp; omega)) (by decide) ?_; intro g4 cap4 w4 hs4 hz4; have HS4 := Lib.hid hs4; clear hs4))
          go_roundw
          case rel => exact ⟨k + 1, by omega, by go_num, by rw [drP_succ, HIT.out, List.length_append, List.map_append]; simpa [K14.u8, Nat.add_assoc] using HS2.out⟩
          case measure => simp [intOf]; omega
    · obtain rfl : k = s.size := by omega
      have hcv := conv_row HS.out rfl
      have HLW := Lib.hid (HS.out.lowAt 1 rfl)
      go_wp2_with fail
      go_ret
      exact ⟨rfl, HLW.out⟩
end Go.Proofs.YtjlamnioknbcaaaDoor.V2
