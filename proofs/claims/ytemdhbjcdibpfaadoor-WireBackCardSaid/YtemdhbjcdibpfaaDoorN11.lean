/- Cuts -/
import Derived.Test.YtemdhbjcdibpfaaDoorN2
namespace Go.Proofs.YtemdhbjcdibpfaaDoor.N11
set_option maxRecDepth 100000
set_option linter.unusedVariables false
set_option linter.unusedSimpArgs false
set_option linter.unnecessarySimpa false
open Go.RowKit K1 K3 K5 K11 K12 K14
attribute [local go_sem] cell_pastA froz_pastA
theorem info9 : (Tryd.prog.info? 9).map (fun i => (i.zero, i.size, i.bytes)) = some (some (.string ByteArray.empty), 1, 16) := by kernel_rfl
theorem ext_lo (t : ByteArray) (j : Nat) : (t.extract 0 j).data.toList = t.data.toList.take j := by simp [ByteArray.data_extract]
theorem ext_hi (t : ByteArray) (j : Nat) : (t.extract j t.size).data.toList = t.data.toList.drop j := by
  simp [ByteArray.data_extract]
  rw [List.take_of_length_le]
  simp
def strV (l : List UInt8) : Value := .string ⟨l.toArray⟩
theorem strV_data (t : ByteArray) : strV t.data.toList = .string t := by cases t; simp [strV]
theorem cut_at (x : Int) (n : Nat) (hn : n ≤ 1099511627776) : ∃ j : Nat, j ≤ n ∧ (wrap64 (wrap64 (x.tmod ((n : Int) + 1) + (n : Int)) + 1)).tmod ((n : Int) + 1) = (j : Int) := by
  have h1 := Int.tmod_lt_of_pos x (show (0:Int) < (n : Int) + 1 by omega)
  have h2 := Int.lt_tmod_of_pos x (show (0:Int) < (n : Int) + 1 by omega)
  have e : wrap64 (wrap64 (x.tmod ((n : Int) + 1) + (n : Int)) + 1) = x.tmod ((n : Int) + 1) + (n : Int) + 1 := by unfold wrap64; omega
  rw [e]
  have h3 := Int.tmod_nonneg ((n : Int) + 1) (show 0 ≤ x.tmod ((n : Int) + 1) + (n : Int) + 1 by omega)
  have h4 := Int.tmod_lt_of_pos (x.tmod ((n : Int) + 1) + (n : Int) + 1) (show (0:Int) < (n : Int) + 1 by omega)
  exact ⟨_, by omega, (Int.toNat_of_nonneg h3).symm⟩
set_option maxHeartbeats 4000000 in
theorem cuts_any (s : ByteArray) (ao : Option Addr) (sb off n cap : Nat) (L : Nat → Int) (w : World) (hao : ao = some ⟨sb, off, none⟩ ∨ n = 0) (hn : n ≤ 1000000) (hs : s.size ≤ 1099511627776) (hL : ∀ k, k < n → -9223372036854775808 ≤ L k ∧ L k ≤ 9223372036854775807)
    (hc : ∀ k, k < n → w.cell? ⟨sb, off + k, none⟩ = some (.int .i64 (L k))) (hsb : 0 < n → sb < w.heap.size) :
    Calls Tryd.prog 19 #[.string s, .slice ao n cap] w fun e w' => ∃ (v : Value) (parts : List (List UInt8)), e = .returned v ∧ w'.ownsRow w.heap.size 9 1 v parts.length (parts.map strV) ∧ parts.flatten = s.data.toList ∧ 0 < parts.length ∧ parts.length ≤ n + 1 ∧ Below w.heap.size w w' := by
  have HC := Lib.hid hc
  have HSB := Lib.hid hsb
  have HAO := Lib.hid hao
  have HL := Lib.hid hL
  obtain ⟨i0, hi, hz0, hz1, hz2⟩ := info_parts info9
  have HI := Lib.hid hi
  clear hc hao hL hi hsb
  go_enter Tryd.func19, Tryd.ntmps19
  go_wp2_with fail
  go_loopw [0, 5, 6] (fun a o i wr => ∃ (k : Nat) (t : ByteArray) (parts : List (List UInt8)), k ≤ n ∧ a = .string t ∧ i = .int .i64 k ∧ parts.length = k ∧ parts.flatten ++ t.data.toList = s.data.toList ∧ wr.ownsRow w.heap.size 9 1 o k (parts.map strV) ∧ Below w.heap.size w wr) (fun _ _ i _ => n - (intOf i).toNat)
  case atStart => exact ⟨0, s, [], by omega, rfl, rfl, rfl, rfl, World.ownsRow_nil _ _ _ _, Below.refl _ _⟩
  case round =>
    obtain ⟨k, t, parts, hk, rfl, rfl, hpl, hpf, hown, hb⟩ := hrel
    have hts : t.size ≤ s.size := by
      have := congrArg List.length hpf
      simp at this
      omega
    have HP := Lib.hid (And.intro hpl hpf)
    have HOW := Lib.hid hown
    have HB := Lib.hid hb
    clear hpl hpf hown hb
    by_cases hlt : k < n
    · have hck := HC.out k hlt
      have hsbN := HSB.out (by omega)
      have hxw : w.heap.size ≤ wr.heap.size := HB.out.size
      rw [← HB.out.cell (p := ⟨sb, off + k, none⟩) hsbN] at hck
      obtain rfl : ao = some ⟨sb, off, none⟩ := by rcases HAO.out with h | h; exact h; omega
      obtain ⟨q1, q2⟩ := HL.out k hlt
      generalize L k = x at *
      by_cases ht : 0 < t.size
      · have ht1 : decide ((t.size : Int) > 0) = true := by simp; omega
        obtain ⟨j, hj, hXe⟩ := cut_at x t.size (by omega)
        go_wp2_with (at_builtin; refine wpList_append_lies _ rfl (.tmp 35) (.tmp 39) 22 rfl w.heap.size 9 i0 (.string ByteArray.empty) 1 16 Tryd.underlying22 HI.out hz0 hz1 hz2 rfl (by decide) _ _ _ rfl (own_keep HOW.out (fun k hk => Below.heap_alloc _ _ _ (own_lt HOW.out k hk))) ⟨_, 0, none⟩ 1 1 _ rfl (by rfl) (news1 _ _ _ _ (by first | rfl | simp)) (by simp [Value.oneCell']) (by omega) (by unfold maxLen; omega) (by omega) (by simp; omega) _ rfl ?_; intro g cap w1 hown' hgrow hat hlg)
        have hgb := hgrow
        go_roundw
        case rel =>
          have hb2 : Below w.heap.size w w1 := by
            refine Below.grown (HB.out.alloc hxw _) hgrow (by simp; omega) (fun q hq => ((HOW.out).lt q hq).1)
          obtain ⟨p1, p2⟩ := HP.out
          refine ⟨k + 1, t.extract j t.size, parts ++ [(t.extract 0 j).data.toList], by omega, rfl, by go_num, by simp [p1], ?_, ?_, hb2⟩
          · rw [← p2, ext_lo, ext_hi]
            simp
          · rw [List.map_append, List.map_cons, List.map_nil, strV_data]; exact hown'
        case measure => simp [intOf]; omega
      · have ht1 : decide ((t.size : Int) > 0) = false := decide_eq_false (by omega)
        go_wp2_with (at_builtin; refine wpList_append_lies _ rfl (.tmp 44) (.tmp 46) 22 rfl w.heap.size 9 i0 (.string ByteArray.empty) 1 16 Tryd.underlying22 HI.out hz0 hz1 hz2 rfl (by decide) _ _ _ rfl (own_keep HOW.out (fun k hk => Below.heap_alloc _ _ _ (own_lt HOW.out k hk))) ⟨_, 0, none⟩ 1 1 _ rfl (by rfl) (news1 _ _ _ _ (by first | rfl | simp)) (by simp [Value.oneCell']) (by omega) (by unfold maxLen; omega) (by omega) (by simp; omega) _ rfl ?_; intro g cap w1 hown' hgrow hat hlg)
        go_ret
        obtain ⟨p1, p2⟩ := HP.out
        have hB : Below w.heap.size w w1 := Below.grown (HB.out.alloc hxw _) hgrow (by simp; omega) (fun q hq => ((HOW.out).lt q hq).1)
        have hF : (parts ++ [t.data.toList]).flatten = s.data.toList := by simpa using p2
        have hL : (parts ++ [t.data.toList]).length = parts.length + 1 := by simp
        have hW : w1.ownsRow w.heap.size 9 1 (.slice (some ⟨g, 0, none⟩) (parts.length + 1) cap) (parts ++ [t.data.toList]).length ((parts ++ [t.data.toList]).map strV) := by
          rw [List.map_append, List.map_cons, List.map_nil, strV_data, hL, p1]; exact hown'
        rw [p1] at hW
        first | exact ⟨_, _, rfl, hW, hF, by omega, by omega, hB⟩ | exact ⟨_, rfl, _, hW, hF, by omega, by omega, hB⟩
    · obtain rfl : k = n := by omega
      have hxw : w.heap.size ≤ wr.heap.size := HB.out.size
      go_wp2_with (at_builtin; refine wpList_append_lies _ rfl (.tmp 44) (.tmp 46) 22 rfl w.heap.size 9 i0 (.string ByteArray.empty) 1 16 Tryd.underlying22 HI.out hz0 hz1 hz2 rfl (by decide) _ _ _ rfl (own_keep HOW.out (fun k hk => Below.heap_alloc _ _ _ (own_lt HOW.out k hk))) ⟨_, 0, none⟩ 1 1 _ rfl (by rfl) (news1 _ _ _ _ (by first | rfl | simp)) (by simp [Value.oneCell']) (by omega) (by unfold maxLen; omega) (by omega) (by simp; omega) _ rfl ?_; intro g cap w1 hown' hgrow hat hlg)
      go_ret
      obtain ⟨p1, p2⟩ := HP.out
      have hB : Below w.heap.size w w1 := Below.grown (HB.out.alloc hxw _) hgrow (by simp; omega) (fun q hq => ((HOW.out).lt q hq).1)
      have hF : (parts ++ [t.data.toList]).flatten = s.data.toList := by simpa using p2
      have hL : (parts ++ [t.data.toList]).length = parts.length + 1 := by simp
      have hW : w1.ownsRow w.heap.size 9 1 (.slice (some ⟨g, 0, none⟩) (parts.length + 1) cap) (parts ++ [t.data.toList]).length ((parts ++ [t.data.toList]).map strV) := by
        rw [List.map_append, List.map_cons, List.map_nil, strV_data, hL, p1]; exact hown'
      rw [p1] at hW
      first | exact ⟨_, _, rfl, hW, hF, by omega, by omega, hB⟩ | exact ⟨_, rfl, _, hW, hF, by omega, by omega, hB⟩
end Go.Proofs.YtemdhbjcdibpfaaDoor.N11
