/- double, Data, Option, Sub -/
import Derived.Test.YtemdhbjcdibpfaaDoorK22
import Derived.Test.YtemdhbjcdibpfaaDoorSh
import Derived.Test.YtemdhbjcdibpfaaDoorW0
import Derived.Test.YtemdhbjcdibpfaaDoorProg
import Derived.Lib.Hide
import Derived.Test.YtemdhbjcdibpfaaDoorN2
namespace Go.Proofs.YtemdhbjcdibpfaaDoor.W1
set_option linter.unusedVariables false
set_option linter.unusedSimpArgs false
set_option linter.unnecessarySimpa false
set_option maxRecDepth 100000
open Go.RowKit K1 K3 K5 K11 K12 K14 K20 K21 K22 W0 N1 N2

attribute [local go_sem] cell_pastA froz_pastA
/-- the library's own variable is a number -/
def Glob (w : World) : Prop := ∃ m, w.cell? ⟨0, 0, none⟩ = some (.int .i64 m)
theorem Glob.below {w w' : World} (h : Glob w) (hb : Below w.heap.size w w') : Glob w' := by
  obtain ⟨m, h⟩ := h
  exact ⟨m, (World.cell?_of_block (hb.block 0 (World.block_lt_of_cell? w _ h))).trans h⟩
theorem Glob.at {w w' : World} {B : Nat} (h : Glob w) (hb : Below B w w') (hB : 0 < B) : Glob w' := by
  obtain ⟨m, h⟩ := h
  exact ⟨m, (World.cell?_of_block (hb.block 0 hB)).trans h⟩
theorem bytes_of (l : List UInt8) : (⟨l.toArray⟩ : ByteArray).data.toList = l := rfl
theorem conv_row {w : World} {v : Value} {n : Nat} {l : List UInt8} {F : List Res} (h : Sep w (.row v 5 1 n (l.map u8) :: F)) (hn : n = l.length) : (convert 54 9 v).run Tryd.prog w = .ok (.string ⟨l.toArray⟩) w :=
  conv_own (h.rowOf (by simp)) hn
theorem double_any (l : List UInt8) (w : World) (hg : Glob w) (hl : l.length ≤ 1000000) : Calls Tryd.prog 23 #[.string ⟨l.toArray⟩] w fun e w' => e = .returned (.string ⟨(dbl l).toArray⟩) ∧ Below w.heap.size w w' := by
  obtain ⟨m, hm⟩ := hg
  have hc : Go.Lib.countB ⟨l.toArray⟩ ⟨#[255]⟩ * (⟨#[255, 255]⟩ : ByteArray).size ≤ 2 * l.length := by
    have := Go.Lib.countB_mul_le ⟨#[255]⟩ (by decide) l.length ⟨l.toArray⟩ (by simp [ByteArray.size])
    simp [ByteArray.size] at this ⊢
    omega
  have hs : (⟨l.toArray⟩ : ByteArray).size = l.length := by simp [ByteArray.size]
  have hc := Lib.hid hc
  have hm := Lib.hid hm
  go_enter Tryd.func23, Tryd.ntmps23
  go_wp2_with (go_at_call 35; refine (Tryd.strings_ReplaceAll ⟨l.toArray⟩ ⟨#[255]⟩ ⟨#[255, 255]⟩ _ _ (by omega) hm.out (by decide) (by have := hc.out; omega)).mono ?_; rintro e w1 ⟨rfl, hb1⟩)
  go_ret
  refine ⟨?_, hb1⟩
  have e : Go.Lib.replaceAll l [255] [255, 255] = dbl l := replaceAll_dbl l
  show Ending.returned (.string ⟨(Go.Lib.replaceAll l [255] [255, 255]).toArray⟩) = _
  rw [e]
theorem join_any (v : Value) (L : List (List UInt8)) (w : World) (hv : Rd 1 strE w v L) (hl : L.flatten.length ≤ 1000000) (hn : L.length ≤ 1000000) : Calls Tryd.prog 22 #[v, .string ⟨#[]⟩] w fun e w' => e = .returned (.string ⟨L.flatten.toArray⟩) ∧ Below w.heap.size w w' := by
  obtain ⟨a, c, rfl, hc, h⟩ := hv
  rcases h with rfl | ⟨b, o, rfl, hb, h⟩
  · refine (Tryd.strings_Join_none a c ⟨#[]⟩ w).mono ?_
    rintro e w' ⟨rfl, rfl⟩
    exact ⟨rfl, Below.refl _ _⟩
  · have hM : (L.map fun l => (⟨l.toArray⟩ : ByteArray)).map (·.data.toList) = L := by rw [List.map_map]; exact List.map_id'' (fun _ => rfl) L
    have := Tryd.strings_Join b o c (L.map fun l => ⟨l.toArray⟩) ⟨#[]⟩ w (fun j x hx => by
      rw [List.getElem?_map] at hx
      obtain ⟨y, hy, rfl⟩ := Option.map_eq_some_iff.1 hx
      simpa using h j y hy 0 _ rfl) hb (by simp; omega) (by simpa using hc) (by rw [hM]; show (Go.Lib.join L []).length ≤ _; rw [flat_join]; omega)
    rw [hM] at this
    simp only [List.length_map] at this
    refine this.mono ?_
    rintro e w' ⟨rfl, hb'⟩
    refine ⟨?_, hb'⟩
    show _ = Ending.returned (.string ⟨L.flatten.toArray⟩)
    rw [← flat_join L]
theorem join_s (v : Value) (L : List (List UInt8)) (s : ByteArray) (w : World) (hs : s = ⟨L.flatten.toArray⟩) (hv : Rd 1 strE w v L) (hl : L.flatten.length ≤ 1000000) (hn : L.length ≤ 1000000) : Calls Tryd.prog 22 #[v, .string ⟨#[]⟩] w fun e w' => e = .returned (.string s) ∧ Below w.heap.size w w' := by
  subst hs
  exact join_any v L w hv hl hn
theorem info5' : (Tryd.prog.info? 5).map (fun i => (i.zero, i.size, i.bytes)) = some (some (.int .u8 0), 1, 1) := by kernel_rfl
theorem get_bytes (s : ByteArray) (k : Nat) (h : k < s.size) : s.data.toList[k]? = some s[k] := by
  rw [Array.getElem?_toList]
  exact Array.getElem?_eq_getElem h
set_option maxHeartbeats 4000000 in
theorem data_any (bin : Bool) (v : Value) (L : List (List UInt8)) (w : World) (hv : Rd 1 strE w v L) (hg : Glob w) (hl : L.flatten.length ≤ 100000) (hn : L.length ≤ 1000000) :
    Calls Tryd.prog 7 #[.bool bin, v] w fun e w' => e = .returned (.string ⟨(datF bin L.flatten).toArray⟩) ∧ Below w.heap.size w w' := by
  have HV := Lib.hid hv
  have HG := Lib.hid hg
  clear hv hg
  obtain ⟨i0, ih, ia, ib, ic⟩ := info_parts info5'
  have iI := Lib.hid ih
  clear ih
  have JN := fun w' (hb : Below w.heap.size w w') => join_any v L w' (HV.out.below hb) (by omega) hn
  cases bin
  · obtain ⟨s, hs⟩ : ∃ s : ByteArray, s = ⟨L.flatten.toArray⟩ := ⟨_, rfl⟩
    have hsl : s.data.toList = L.flatten := by rw [hs]
    have hss : s.size = L.flatten.length := by rw [hs]; simp [ByteArray.size]
    rw [← hsl]
    have HSS := Lib.hid hs
    have hN : s.size ≤ 100000 := by omega
    clear hs hsl hss
    go_enter Tryd.func7, Tryd.ntmps7
    go_wp2_with (go_at_call 22; refine (join_s v L s _ HSS.out HV.out (by omega) hn).mono ?_; rintro e w1 ⟨rfl, hb1⟩)
    have hs1 : Sep w1 [.row (.slice none 0 0) 5 1 0 [], .low w.heap.size w] := ((Sep.start w).below hb1).nilRow
    have HB1 := Lib.hid hb1
    have HS1 := Lib.hid hs1
    clear hs1 hb1
    go_wp2_with fail
    go_loopw [6, 15] (fun v i wr => ∃ k : Nat, k ≤ s.size ∧ i = .int .i64 k ∧ Sep wr [.row v 5 1 (crP s.data.toList k).length ((crP s.data.toList k).map u8), .low w.heap.size w]) (fun _ i _ => s.size - (intOf i).toNat)
    case atStart => exact ⟨0, by omega, rfl, HS1.out⟩
    case round =>
      obtain ⟨k, hk, rfl, hS⟩ := hrel
      have HS := Lib.hid hS
      have hcl := crP_len s.data.toList k
      obtain ⟨va, vc, rfl, -⟩ := own_slice (hS.rowOf (List.mem_cons_self ..))
      clear hS
      by_cases hlt : k < s.size
      · have hgt := get_bytes s k hlt
        have hgt1 : s.data.toList[k + 1]? = if h : k + 1 < s.size then some s[k + 1] else none := by
          split
          · exact get_bytes s _ ‹_›
          · rw [List.getElem?_eq_none]; simp; omega
        have hcr : (((s[k]).toNat : Int) == 13) = decide (s[k] = 13) := by
          rw [Bool.eq_iff_iff]; simp [eq_iff]; omega
        by_cases h13 : s[k] = 13
        · have hd : (((s[k]).toNat : Int) == 13) = true := by rw [hcr]; simpa using h13
          have hb : (((k : Int) + 1 == (s.size : Int)) = true ∧ s.data.toList[k + 1]? = none) ∨ (((k : Int) + 1 == (s.size : Int)) = false ∧ ∃ h : k + 1 < s.size, ((((s[k+1]).toNat : Int) == 10) = true ∧ s.data.toList[k + 1]? = some 10 ∨ (((s[k+1]).toNat : Int) == 10) = false ∧ s.data.toList[k + 1]? ≠ some 10)) := by
            by_cases h1 : k + 1 < s.size
            · refine .inr ⟨by simp; omega, h1, ?_⟩
              rw [hgt1, dif_pos h1]
              by_cases h2 : s[k+1] = 10
              · exact .inl ⟨by simp [h2], by rw [h2]⟩
              · refine .inr ⟨?_, by simpa using h2⟩
                rw [eq_iff] at h2; simp at h2 ⊢; omega
            · exact .inl ⟨by simp; omega, by rw [hgt1, dif_neg h1]⟩
          rcases hb with ⟨hb, hn⟩ | ⟨hb, hb2, ⟨hb3, hn⟩ | ⟨hb3, hn⟩⟩
          · have hit : item s.data.toList k = [s[k], 0] := by unfold item; rw [hgt]; simp [h13, hn]
            clear hgt hgt1 hcr h13 hn
            have HIT := Lib.hid hit
            clear hit
            go_wp2_with (first | (at_builtin; refine wpList_appS rfl (.tmp 18) (.tmp 22) 54 rfl 5 i0 (.int .u8 0) 1 1 Tryd.underlying54 iI.out ia ib ic rfl (by decide) _ _ _ _ rfl (Sep.alloc0 HS.out) ⟨_, 0, none⟩ 1 _ [_] rfl (by rfl) (news1 _ _ _ _ (by simp)) (by simp [Value.oneCell']) (by first | decide | omega) (by first | omega | (simp; omega)) (by decide) ?_; intro g2 cap2 w2 hs2 hz2; have HS2 := Lib.hid hs2; clear hs2) | (at_builtin; refine wpList_appS rfl (.tmp 42) (.tmp 43) 54 rfl 5 i0 (.int .u8 0) 1 1 Tryd.underlying54 iI.out ia ib ic rfl (by decide) _ _ _ _ rfl (Sep.alloc0 HS2.out) ⟨_, 0, none⟩ 1 _ [_] rfl (by rfl) (news1 _ _ _ _ (by simp)) (by simp [Value.oneCell']) (by first | decide | omega) (by first | omega | (simp; omega)) (by decide) ?_; intro g3 cap3 w3 hs3 hz3; have HS3 := Lib.hid hs3; clear hs3))
            go_roundw
            case rel => exact ⟨k + 1, by omega, by go_num, by rw [crP_succ, HIT.out, List.length_append, List.map_append]; simpa [u8] using HS3.out⟩
            case measure => simp [intOf]; omega
          · have hit : item s.data.toList k = [s[k]] := by unfold item; rw [hgt]; simp [h13, hn]
            clear hgt hgt1 hcr h13 hn
            have HIT := Lib.hid hit
            clear hit
            go_wp2_with (first | (at_builtin; refine wpList_appS rfl (.tmp 18) (.tmp 22) 54 rfl 5 i0 (.int .u8 0) 1 1 Tryd.underlying54 iI.out ia ib ic rfl (by decide) _ _ _ _ rfl (Sep.alloc0 HS.out) ⟨_, 0, none⟩ 1 _ [_] rfl (by rfl) (news1 _ _ _ _ (by simp)) (by simp [Value.oneCell']) (by first | decide | omega) (by first | omega | (simp; omega)) (by decide) ?_; intro g2 cap2 w2 hs2 hz2; have HS2 := Lib.hid hs2; clear hs2) | (at_builtin; refine wpList_appS rfl (.tmp 42) (.tmp 43) 54 rfl 5 i0 (.int .u8 0) 1 1 Tryd.underlying54 iI.out ia ib ic rfl (by decide) _ _ _ _ rfl (Sep.alloc0 HS2.out) ⟨_, 0, none⟩ 1 _ [_] rfl (by rfl) (news1 _ _ _ _ (by simp)) (by simp [Value.oneCell']) (by first | decide | omega) (by first | omega | (simp; omega)) (by decide) ?_; intro g3 cap3 w3 hs3 hz3; have HS3 := Lib.hid hs3; clear hs3))
            go_roundw
            case rel => exact ⟨k + 1, by omega, by go_num, by rw [crP_succ, HIT.out, List.length_append, List.map_append]; simpa [u8] using HS2.out⟩
            case measure => simp [intOf]; omega
          · have hit : item s.data.toList k = [s[k], 0] := by unfold item; rw [hgt]; simp [h13]; exact fun e => hn (by rw [Array.getElem?_toList]; exact e)
            clear hgt hgt1 hcr h13 hn
            have HIT := Lib.hid hit
            clear hit
            go_wp2_with (first | (at_builtin; refine wpList_appS rfl (.tmp 18) (.tmp 22) 54 rfl 5 i0 (.int .u8 0) 1 1 Tryd.underlying54 iI.out ia ib ic rfl (by decide) _ _ _ _ rfl (Sep.alloc0 HS.out) ⟨_, 0, none⟩ 1 _ [_] rfl (by rfl) (news1 _ _ _ _ (by simp)) (by simp [Value.oneCell']) (by first | decide | omega) (by first | omega | (simp; omega)) (by decide) ?_; intro g2 cap2 w2 hs2 hz2; have HS2 := Lib.hid hs2; clear hs2) | (at_builtin; refine wpList_appS rfl (.tmp 42) (.tmp 43) 54 rfl 5 i0 (.int .u8 0) 1 1 Tryd.underlying54 iI.out ia ib ic rfl (by decide) _ _ _ _ rfl (Sep.alloc0 HS2.out) ⟨_, 0, none⟩ 1 _ [_] rfl (by rfl) (news1 _ _ _ _ (by simp)) (by simp [Value.oneCell']) (by first | decide | omega) (by first | omega | (simp; omega)) (by decide) ?_; intro g3 cap3 w3 hs3 hz3; have HS3 := Lib.hid hs3; clear hs3))
            go_roundw
            case rel => exact ⟨k + 1, by omega, by go_num, by rw [crP_succ, HIT.out, List.length_append, List.map_append]; simpa [u8] using HS3.out⟩
            case measure => simp [intOf]; omega
        · have hd : (((s[k]).toNat : Int) == 13) = false := by rw [hcr]; simpa using h13
          have hit : item s.data.toList k = [s[k]] := by unfold item; rw [hgt]; simp [h13]
          clear hgt hgt1 hcr h13
          have HIT := Lib.hid hit
          clear hit
          go_wp2_with (first | (at_builtin; refine wpList_appS rfl (.tmp 18) (.tmp 22) 54 rfl 5 i0 (.int .u8 0) 1 1 Tryd.underlying54 iI.out ia ib ic rfl (by decide) _ _ _ _ rfl (Sep.alloc0 HS.out) ⟨_, 0, none⟩ 1 _ [_] rfl (by rfl) (news1 _ _ _ _ (by simp)) (by simp [Value.oneCell']) (by first | decide | omega) (by first | omega | (simp; omega)) (by decide) ?_; intro g2 cap2 w2 hs2 hz2; have HS2 := Lib.hid hs2; clear hs2) | (at_builtin; refine wpList_appS rfl (.tmp 42) (.tmp 43) 54 rfl 5 i0 (.int .u8 0) 1 1 Tryd.underlying54 iI.out ia ib ic rfl (by decide) _ _ _ _ rfl (Sep.alloc0 HS2.out) ⟨_, 0, none⟩ 1 _ [_] rfl (by rfl) (news1 _ _ _ _ (by simp)) (by simp [Value.oneCell']) (by first | decide | omega) (by first | omega | (simp; omega)) (by decide) ?_; intro g3 cap3 w3 hs3 hz3; have HS3 := Lib.hid hs3; clear hs3))
          go_roundw
          case rel => exact ⟨k + 1, by omega, by go_num, by rw [crP_succ, HIT.out, List.length_append, List.map_append]; simpa [u8] using HS2.out⟩
          case measure => simp [intOf]; omega
      · obtain rfl : k = s.size := by omega
        have hcv := conv_row HS.out rfl
        have hlw := HS.out.lowOf (B := w.heap.size) (w0 := w) (by simp)
        have HLW := Lib.hid hlw
        clear hlw
        have e : dbl (crP s.data.toList s.size) = datF false s.data.toList := by unfold datF; rw [if_neg (by simp)]; simp
        go_wp2_with (go_at_call 23; refine (double_any (crP s.data.toList s.size) _ (HG.out.at HLW.out (World.block_lt_of_cell? w _ HG.out.choose_spec)) (by omega)).mono ?_; rintro e w2 ⟨rfl, hb2⟩)
        go_ret
        exact ⟨rfl, HLW.out.trans (hb2.mono HLW.out.size)⟩
  · have e : datF true L.flatten = dbl L.flatten := rfl
    rw [e]
    go_enter Tryd.func7, Tryd.ntmps7
    go_wp2_with (first | (go_at_call 22; refine (join_any v L _ HV.out (by omega) hn).mono ?_; rintro e w1 ⟨rfl, hb1⟩) | (go_at_call 23; refine (double_any L.flatten _ (HG.out.below hb1) (by omega)).mono ?_; rintro e w2 ⟨rfl, hb2⟩))
    go_ret
    exact ⟨rfl, hb1.trans (hb2.mono hb1.size)⟩
end Go.Proofs.YtemdhbjcdibpfaaDoor.W1
