/- the small functions of pontoonbook -/
import Derived.Test.YtemdhbjcdibpfaaDoorK25
import Derived.Test.YtemdhbjcdibpfaaDoorProg
import Derived.Lib.Hide
namespace Go.Proofs.YtemdhbjcdibpfaaDoor.B1
set_option linter.unusedVariables false
set_option linter.unusedSimpArgs false
set_option linter.unnecessarySimpa false
set_option maxRecDepth 100000
open Go.RowKit K1 K3 K5 K11 K12 K14 K20 K21 K22 K25
attribute [local go_sem] cell_pastA froz_pastA
theorem infoS : (Tryd.prog.info? 9).map (fun i => (i.zero, i.size, i.bytes)) = some (some (.string ByteArray.empty), 1, 16) := by kernel_rfl
def strV (l : List UInt8) : Value := .string ⟨l.toArray⟩
theorem size_arr (l : List UInt8) : (⟨l.toArray⟩ : ByteArray).size = l.length := by simp [ByteArray.size]
theorem app_arr (a b : List UInt8) : (⟨(a ++ b).toArray⟩ : ByteArray) = ⟨a.toArray⟩ ++ ⟨b.toArray⟩ := by
  apply ByteArray.ext
  simp
theorem flat_snoc (L : List (List UInt8)) (k : Nat) (h : k < L.length) : (L.take (k + 1)).flatten = (L.take k).flatten ++ L[k] := by
  rw [List.take_succ_eq_append_getElem h, List.flatten_append]; simp
theorem flat_take_le (L : List (List UInt8)) (k : Nat) : (L.take k).flatten.length ≤ L.flatten.length := by
  have h := congrArg (fun x => x.flatten.length) (List.take_append_drop k L)
  simp only [List.flatten_append, List.length_append] at h
  omega
theorem len_of_mem {p : List UInt8} : ∀ {l : List (List UInt8)}, p ∈ l → p.length ≤ l.flatten.length
  | x :: l, h => by
    rw [List.mem_cons] at h
    rcases h with rfl | h
    · simp
    · have := len_of_mem h; simp at this ⊢; omega

def roomF : Int → List Int → Int
  | left, [] => left
  | left, x :: xs => if left < 0 ∨ left < x then -1 else roomF (left - x) xs
theorem roomF_drop (left : Int) (xs : List Int) (k : Nat) (h : k < xs.length) : roomF left (xs.drop k) = if left < 0 ∨ left < xs[k] then -1 else roomF (left - xs[k]) (xs.drop (k + 1)) := by
  rw [List.drop_eq_getElem_cons h]; rfl
set_option maxHeartbeats 4000000 in
theorem room_any (left : Int) (v : Value) (xs : List Int) (w : World) (hv : Rd 1 intE w v xs) (h0 : -1 ≤ left) (h1 : left ≤ 4611686018427387904) (hx : ∀ x ∈ xs, 0 ≤ x ∧ x ≤ 9223372036854775807) (hn : xs.length ≤ 9223372036854775807) : Calls Tryd.prog 25 #[.int .i64 left, v] w fun e w' => e = .returned (.int .i64 (roomF left xs)) ∧ w' = w := by
  have HV := Lib.hid hv
  obtain ⟨a, c, rfl, hc⟩ := Rd.len hv
  clear hv
  have HX := Lib.hid hx
  clear hx
  go_enter Tryd.func25, Tryd.ntmps25
  go_wp2_with fail
  go_loop [0, 5] (fun l i => ∃ k : Nat, ∃ m : Int, k ≤ xs.length ∧ i = .int .i64 k ∧ l = .int .i64 m ∧ -1 ≤ m ∧ m ≤ 4611686018427387904 ∧ Hid (roomF m (xs.drop k) = roomF left xs)) (fun _ i => xs.length - (intOf i).toNat)
  case atStart => exact ⟨0, left, by omega, rfl, rfl, h0, h1, rfl⟩
  case round =>
    obtain ⟨k, m, hk, rfl, rfl, hm0, hm1, hrm⟩ := hrel
    have HRM := Lib.hid hrm.out
    clear hrm
    by_cases hlt : k < xs.length
    · obtain ⟨b, o, c', hvc, hb, hcl⟩ := HV.out.cell1 (List.getElem?_eq_getElem hlt) (u := .int .i64 xs[k]) rfl
      simp only [Value.slice.injEq, true_and] at hvc
      obtain ⟨rfl, rfl⟩ := hvc
      have hxk := HX.out xs[k] (List.getElem_mem hlt)
      have HRD := Lib.hid (roomF_drop m xs k hlt)
      obtain ⟨x, hxe⟩ : ∃ x, x = xs[k] := ⟨_, rfl⟩
      rw [← hxe] at hcl hxk
      have HXE := Lib.hid hxe
      clear hxe
      obtain ⟨hx0, hx1⟩ := hxk
      by_cases hbad : m < 0 ∨ m < x
      · have hd : decide (m < 0) = true ∨ (decide (m < 0) = false ∧ decide (m < x) = true) := by
          simp only [decide_eq_true_eq, decide_eq_false_iff_not]; omega
        have hr : roomF left xs = -1 := by rw [← HRM.out, HRD.out, ← HXE.out, if_pos hbad]
        have HR := Lib.hid hr
        clear hbad hr
        rcases hd with hd | ⟨hd, hd2⟩
        all_goals
          go_wp2_with fail
          go_ret
          rw [HR.out]
          exact ⟨rfl, rfl⟩
      · have hd : decide (m < 0) = false ∧ decide (m < x) = false := by
          simp only [decide_eq_false_iff_not]; omega
        obtain ⟨hd, hd2⟩ := hd
        have hr : Hid (roomF (m - x) (xs.drop (k + 1)) = roomF left xs) := by
          show _ = _
          rw [← HRM.out, HRD.out, ← HXE.out, if_neg hbad]
        go_wp2_with fail
        go_round
        case rel => exact ⟨k + 1, m - x, by omega, by go_num, by go_num, by omega, by omega, hr⟩
        case measure => simp [intOf]; omega
    · obtain rfl : k = xs.length := by omega
      have hr : roomF left xs = m := by
        have := HRM.out
        rw [List.drop_length] at this
        exact this.symm
      have HR := Lib.hid hr
      clear hr
      go_wp2_with fail
      go_ret
      rw [HR.out]
      exact ⟨rfl, rfl⟩

structure ShortP (few room : Nat) (L : List (List UInt8)) (w : World) (e : Ending) (w' : World) : Prop where
  out : ∃ b, e = .returned (.bool b) ∧ (b = true → L.length ≤ few ∧ L.flatten.length ≤ room) ∧ Below w.heap.size w w'
set_option maxHeartbeats 4000000 in
theorem short_any (few room : Nat) (v : Value) (L : List (List UInt8)) (w : World) (hv : Rd 1 strE w v L) (hn : L.length ≤ 9223372036854775807) (hf : few ≤ 1000000) (hr : room ≤ 1000000) (hl : ∀ l ∈ L, l.length ≤ 9223372036854775807) : Calls Tryd.prog 10 #[.int .i64 few, .int .i64 room, v] w (ShortP few room L w) := by
  have HV := Lib.hid hv
  obtain ⟨a, c, rfl, hc⟩ := Rd.len hv
  have HL := Lib.hid hl
  clear hv hl
  by_cases hfew : few < L.length
  · have hd : decide ((few : Int) < (L.length : Int)) = true := by simp only [decide_eq_true_eq]; omega
    go_enter Tryd.func10, Tryd.ntmps10
    go_wp2_with fail
    go_ret
    exact ⟨⟨_, rfl, (fun h => by cases h), Below.refl _ _⟩⟩
  · have hd : decide ((few : Int) < (L.length : Int)) = false := by simp only [decide_eq_false_iff_not]; omega
    go_enter Tryd.func10, Tryd.ntmps10
    go_wp2_with fail
    go_loopw [1, 7] (fun r i wr => ∃ (k : Nat) (m : Int), k ≤ L.length ∧ i = .int .i64 k ∧ r = .int .i64 m ∧ -1 ≤ m ∧ m ≤ room ∧ (0 ≤ m → ((L.take k).flatten.length : Int) ≤ room - m) ∧ Below w.heap.size w wr) (fun _ i _ => L.length - (intOf i).toNat)
    case atStart => exact ⟨0, room, by omega, rfl, rfl, by omega, by omega, fun _ => by simp, Below.refl _ _⟩
    case round =>
      obtain ⟨k, m, hk, rfl, rfl, hm0, hm1, hfl, hbr⟩ := hrel
      have HBR := Lib.hid hbr
      have HFL := Lib.hid hfl
      clear hfl
      by_cases hneg : m < 0
      · have hd0 : decide ((0 : Int) ≤ m) = false := by simp only [decide_eq_false_iff_not]; omega
        by_cases hlt : k < L.length
        all_goals
          go_wp2_with fail
          go_ret
          exact ⟨⟨_, rfl, (fun h => by first | (cases h; done) | (simp at h; done) | (simp at h; omega)), HBR.out⟩⟩
      · have hd0 : decide ((0 : Int) ≤ m) = true := by simp only [decide_eq_true_eq]; omega
        by_cases hlt : k < L.length
        · obtain ⟨b, o, c', hvc, hb, hcl⟩ := (HV.out.below hbr).cell1 (List.getElem?_eq_getElem hlt) (u := .string ⟨L[k].toArray⟩) rfl
          simp only [Value.slice.injEq, true_and] at hvc
          obtain ⟨rfl, rfl⟩ := hvc
          have hll := HL.out L[k] (List.getElem_mem hlt)
          have HFS := Lib.hid (flat_snoc L k hlt)
          obtain ⟨x, hxe⟩ : ∃ x, x = L[k] := ⟨_, rfl⟩
          rw [← hxe] at hcl hll
          have HXE := Lib.hid hxe
          have hsz := size_arr x
          clear hxe hbr
          go_wp2_with (go_at_call 25; refine (room_any m _ [(x.length : Int)] _ (Rd.one rfl (by decide) (by simp) (by simp [hsz])) (by omega) (by omega) (fun y hy => by simp at hy; subst hy; omega) (by simp)).mono ?_; rintro e w2 ⟨rfl, rfl⟩)
          go_roundw
          case rel =>
            refine ⟨k + 1, roomF m [(x.length : Int)], by omega, by go_num, rfl, ?_, ?_, ?_, HBR.out.alloc HBR.out.size _⟩
            · unfold roomF; split; omega; unfold roomF; omega
            · unfold roomF; split; omega; unfold roomF; omega
            · intro h
              have h2 := HFL.out (by omega)
              have e : roomF m [(x.length : Int)] = m - x.length := by
                unfold roomF at h ⊢
                split
                · rename_i hh; rw [if_pos hh] at h; omega
                · rfl
              rw [e] at h ⊢
              rw [HFS.out, ← HXE.out, List.length_append]
              omega
          case measure => simp [intOf]; omega
        · obtain rfl : k = L.length := by omega
          clear hbr
          go_wp2_with fail
          go_ret
          refine ⟨⟨_, rfl, fun _ => ⟨by omega, ?_⟩, HBR.out⟩⟩
          have h2 := HFL.out (by omega)
          rw [List.take_length] at h2
          omega

set_option maxHeartbeats 4000000 in
theorem joinB_any (v : Value) (L : List (List UInt8)) (w : World) (hv : Rd 1 strE w v L) (hn : L.length ≤ 1000000) (hl : L.flatten.length ≤ 1000000) : Calls Tryd.prog 12 #[v] w fun e w' => e = .returned (.string ⟨L.flatten.toArray⟩) ∧ w' = w := by
  have HV := Lib.hid hv
  obtain ⟨a, c, rfl, hc⟩ := Rd.len hv
  clear hv
  go_enter Tryd.func12, Tryd.ntmps12
  go_wp2_with fail
  go_loop [3, 4] (fun s i => ∃ k : Nat, k ≤ L.length ∧ i = .int .i64 k ∧ s = .string ⟨(L.take k).flatten.toArray⟩) (fun _ i => L.length - (intOf i).toNat)
  case atStart => exact ⟨0, by omega, rfl, rfl⟩
  case round =>
    obtain ⟨k, hk, rfl, rfl⟩ := hrel
    by_cases hlt : k < L.length
    · obtain ⟨b, o, c', hvc, hb, hcl⟩ := HV.out.cell1 (List.getElem?_eq_getElem hlt) (u := .string ⟨L[k].toArray⟩) rfl
      simp only [Value.slice.injEq, true_and] at hvc
      obtain ⟨rfl, rfl⟩ := hvc
      have HFS := Lib.hid (flat_snoc L k hlt)
      have h1 := flat_take_le L k
      have h2 := len_of_mem (List.getElem_mem hlt)
      obtain ⟨x, hxe⟩ : ∃ x, x = L[k] := ⟨_, rfl⟩
      obtain ⟨y, hye⟩ : ∃ y, y = (L.take k).flatten := ⟨_, rfl⟩
      rw [← hxe] at hcl h2
      rw [← hye] at h1 ⊢
      have HXE := Lib.hid (And.intro hxe hye)
      have hsx := size_arr x
      have hsy := size_arr y
      clear hxe hye
      go_wp2_with fail
      go_round
      case rel => exact ⟨k + 1, by omega, by go_num, by rw [HFS.out, ← HXE.out.1, ← HXE.out.2, app_arr]⟩
      case measure => simp [intOf]; omega
    · obtain rfl : k = L.length := by omega
      go_wp2_with fail
      go_ret
      exact ⟨rfl, rfl⟩

structure CopyP (F : List Res) (L : List (List UInt8)) (e : Ending) (w' : World) : Prop where
  out : ∃ v, e = .returned v ∧ Sep w' (.row v 9 1 L.length (L.map strV) :: F)
set_option maxHeartbeats 4000000 in
theorem copyTexts_any (v : Value) (L : List (List UInt8)) (F : List Res) (w : World) (hv : Rd 1 strE w v L) (h : Sep w F) (hn : L.length ≤ 1000000) : Calls Tryd.prog 26 #[v] w (CopyP F L) := by
  have HS := Lib.hid h
  clear h
  obtain ⟨i0, ih, ia, ib, ic⟩ := info_parts infoS
  have iI := Lib.hid ih
  clear ih
  by_cases h0 : L = []
  · subst h0
    obtain ⟨a, c, rfl, hc⟩ := Rd.len hv
    clear hv
    cases a
    all_goals
      go_enter Tryd.func26, Tryd.ntmps26
      go_wp2_with fail
      go_ret
      exact ⟨⟨_, rfl, HS.out.nilRow⟩⟩
  · have hp : 0 < L.length := List.length_pos_iff.2 h0
    have HV := Lib.hid hv
    obtain ⟨a, c, rfl, hc, h3⟩ := hv
    obtain ⟨b, o, rfl, hb, hcl⟩ := h3.resolve_left h0
    clear hcl h3 h0
    go_enter Tryd.func26, Tryd.ntmps26
    go_wp2_with (at_builtin; refine wpList_appS rfl (.const (.slice none 0 0)) (.tmp 3) 22 rfl 9 i0 (.string ByteArray.empty) 1 16 Tryd.underlying22 iI.out ia ib ic rfl (by decide) (.slice none 0 0) 0 [] F rfl HS.out.nilRow ⟨b, o, none⟩ L.length _ (L.map strV) rfl (by simp) (Rd.news1 HV.out (fun _ => rfl)) (by intro x hx; obtain ⟨y, _, rfl⟩ := List.mem_map.1 hx; rfl) (by omega) (by omega) (by decide) ?_; intro g2 cap2 w2 hs2 hz2; have HS2 := Lib.hid hs2; clear hs2)
    go_ret
    have h2 := HS2.out
    rw [Nat.zero_add, List.nil_append] at h2
    exact ⟨⟨_, by simp, h2⟩⟩
structure LentP (F : List Res) (L : List (List UInt8)) (e : Ending) (w' : World) : Prop where
  out : ∃ g cap, e = .returned (.slice (some ⟨g, 0, none⟩) L.length cap) ∧ Sep w' (.row (.slice (some ⟨g, 0, none⟩) (L.length + 1) cap) 9 1 (L.length + 1) ((L ++ [[109, 97, 114, 107]]).map strV) :: F)
set_option maxHeartbeats 4000000 in
theorem lentTexts_any (v : Value) (L : List (List UInt8)) (F : List Res) (w : World) (hv : Rd 1 strE w v L) (h : Sep w F) (hn : L.length ≤ 1000000) : Calls Tryd.prog 11 #[v] w (LentP F L) := by
  have HS := Lib.hid h
  have HV := Lib.hid hv
  obtain ⟨a, c, rfl, hc⟩ := Rd.len hv
  clear h hv
  obtain ⟨i0, ih, ia, ib, ic⟩ := info_parts infoS
  have iI := Lib.hid ih
  clear ih
  go_enter Tryd.func11, Tryd.ntmps11
  go_wp2_with (first | (go_at_call 26; refine (copyTexts_any _ L F _ HV.out HS.out hn).mono ?_; rintro e w1 ⟨⟨v1, rfl, hs1⟩⟩; obtain ⟨a1, c1, rfl, -⟩ := own_slice (hs1.rowAt 0 rfl); have HS1 := Lib.hid hs1; clear hs1) | (at_builtin; refine wpList_appS rfl (.tmp 4) (.tmp 5) 22 rfl 9 i0 (.string ByteArray.empty) 1 16 Tryd.underlying22 iI.out ia ib ic rfl (by decide) _ _ _ _ rfl (Sep.alloc0 HS1.out) ⟨_, 0, none⟩ 1 _ [_] rfl (by rfl) (news1 _ _ _ _ (by first | rfl | simp)) (by simp [Value.oneCell']) (by first | decide | omega) (by first | omega | (simp; done) | (simp; omega)) (by decide) ?_; intro g2 cap2 w2 hs2 hz2; have HS2 := Lib.hid hs2; clear hs2; have hcp := (own_cap (HS2.out.rowAt 0 rfl)).1))
  go_ret
  have h2 := HS2.out
  exact ⟨⟨_, _, rfl, by simpa [strV] using h2⟩⟩
set_option maxHeartbeats 4000000 in
theorem sameTexts_any (v u : Value) (L : List (List UInt8)) (w : World) (hv : Rd 1 strE w v L) (hu : Rd 1 strE w u L) (hn : L.length ≤ 1000000) : Calls Tryd.prog 27 #[v, u] w fun e w' => e = .returned (.bool true) ∧ Below w.heap.size w w' := by
  have HV := Lib.hid hv
  have HU := Lib.hid hu
  obtain ⟨a1, c1, rfl, hc1⟩ := Rd.len hv
  obtain ⟨a2, c2, rfl, hc2⟩ := Rd.len hu
  clear hv hu
  go_enter Tryd.func27, Tryd.ntmps27
  go_wp2_with fail
  go_loopw [5] (fun i wr => ∃ k : Nat, k ≤ L.length ∧ i = .int .i64 k ∧ Below w.heap.size w wr) (fun i _ => L.length - (intOf i).toNat)
  case atStart => exact ⟨0, by omega, rfl, Below.refl _ _⟩
  case round =>
    obtain ⟨k, hk, rfl, hbr⟩ := hrel
    by_cases hlt : k < L.length
    · obtain ⟨b, o, c', hvc, hb, hcl⟩ := (HV.out.below hbr).cell1 (List.getElem?_eq_getElem hlt) (u := .string ⟨L[k].toArray⟩) rfl
      obtain ⟨b2, o2, c2', hvc2, hb2, hcl2⟩ := (HU.out.below hbr).cell1 (List.getElem?_eq_getElem hlt) (u := .string ⟨L[k].toArray⟩) rfl
      simp only [Value.slice.injEq, true_and] at hvc hvc2
      obtain ⟨rfl, rfl⟩ := hvc
      obtain ⟨rfl, rfl⟩ := hvc2
      generalize L[k] = tk at *
      have HBR := Lib.hid hbr
      have hwr := hbr.size
      clear hbr
      go_wp2_with fail
      refine wp_region_quiet0 (w := _) [] [] 10 (by kernel_rfl) (by kernel_rfl) (fun _ _ dx _ _ hx => by cases dx <;> exact hx) ?_
      simp only [numbered, List.take_succ_cons, List.take_zero, List.drop_succ_cons, List.drop_zero, List.take_nil, List.drop_nil, Nat.reduceAdd]
      (refine wz_do (by decide) (by decide) C0e.es (growsB (by simp)) ?_ ?_; (focus (first | rfl | (go_simp; done))); apply Exists.intro; refine ⟨fun bs hok wx hwx hL => ?_, ?_⟩; (focus ((have hwx : Below _ _ wx := hwx; have hcx := cellA hwx; have hfx := frozA hwx; have hzx := hwx.size; (try simp at hzx)); unfold zAt; (try simp [go_sem, BigFrame.eval_const, BigFrame.eval_global, BigFrame.eval_func, ↓IntWalk.iteOmega, *]); (try simp only [zUpon]); (first | exact ⟨rfl, Below.refl _ _⟩ | fail))); (try go_simp))
      (refine wz_do (by decide) (by decide) C0e.es (growsB (by simp)) ?_ ?_; (focus (first | rfl | (go_simp; done))); apply Exists.intro; refine ⟨fun bs hok wx hwx hL => ?_, ?_⟩; (focus ((have hwx : Below _ _ wx := hwx; have hcx := cellA hwx; have hfx := frozA hwx; have hzx := hwx.size; (try simp at hzx)); unfold zAt; (try simp [go_sem, BigFrame.eval_const, BigFrame.eval_global, BigFrame.eval_func, ↓IntWalk.iteOmega, *]); (try simp only [zUpon]); (first | exact ⟨rfl, Below.refl _ _⟩ | fail))); (try go_simp))
      (refine wz_do (by decide) (by decide) C0e.es (growsB (by simp)) ?_ ?_; (focus (first | rfl | (go_simp; done))); apply Exists.intro; refine ⟨fun bs hok wx hwx hL => ?_, ?_⟩; (focus ((have hwx : Below _ _ wx := hwx; have hcx := cellA hwx; have hfx := frozA hwx; have hzx := hwx.size; (try simp at hzx)); unfold zAt; (try simp [go_sem, BigFrame.eval_const, BigFrame.eval_global, BigFrame.eval_func, ↓IntWalk.iteOmega, *]); (try simp only [zUpon]); (first | exact ⟨rfl, Below.refl _ _⟩ | fail))); (try go_simp))
      (refine wz_do (by decide) (by decide) C0e.es (growsB (by simp)) ?_ ?_; (focus (first | rfl | (go_simp; done))); apply Exists.intro; refine ⟨fun bs hok wx hwx hL => ?_, ?_⟩; (focus ((have hwx : Below _ _ wx := hwx; have hcx := cellA hwx; have hfx := frozA hwx; have hzx := hwx.size; (try simp at hzx)); unfold zAt; (try simp [go_sem, BigFrame.eval_const, BigFrame.eval_global, BigFrame.eval_func, ↓IntWalk.iteOmega, *]); (try simp only [zUpon]); (first | exact ⟨rfl, Below.refl _ _⟩ | fail))); (try go_simp))
      (refine wz_do (by decide) (by decide) C0e.es (growsB (by simp)) ?_ ?_; (focus (first | rfl | (go_simp; done))); apply Exists.intro; refine ⟨fun bs hok wx hwx hL => ?_, ?_⟩; (focus ((have hwx : Below _ _ wx := hwx; have hcx := cellA hwx; have hfx := frozA hwx; have hzx := hwx.size; (try simp at hzx)); unfold zAt; (try simp [go_sem, BigFrame.eval_const, BigFrame.eval_global, BigFrame.eval_func, ↓IntWalk.iteOmega, *]); (try simp only [zUpon]); (first | exact ⟨rfl, Below.refl _ _⟩ | fail))); (try go_simp))
      (refine wz_do (by decide) (by decide) C0e.es (growsB (by simp)) ?_ ?_; (focus (first | rfl | (go_simp; done))); apply Exists.intro; refine ⟨fun bs hok wx hwx hL => ?_, ?_⟩; (focus ((have hwx : Below _ _ wx := hwx; have hcx := cellA hwx; have hfx := frozA hwx; have hzx := hwx.size; (try simp at hzx)); unfold zAt; (try simp [go_sem, BigFrame.eval_const, BigFrame.eval_global, BigFrame.eval_func, ↓IntWalk.iteOmega, *]); (try simp only [zUpon]); (first | exact ⟨rfl, Below.refl _ _⟩ | fail))); (try go_simp))
      (refine wz_do (by decide) (by decide) C0e.es (growsB (by simp)) ?_ ?_; (focus (first | rfl | (go_simp; done))); apply Exists.intro; refine ⟨fun bs hok wx hwx hL => ?_, ?_⟩; (focus ((have hwx : Below _ _ wx := hwx; have hcx := cellA hwx; have hfx := frozA hwx; have hzx := hwx.size; (try simp at hzx)); unfold zAt; (try simp [go_sem, BigFrame.eval_const, BigFrame.eval_global, BigFrame.eval_func, ↓IntWalk.iteOmega, *]); (try simp only [zUpon]); (first | exact ⟨rfl, Below.refl _ _⟩ | fail))); (try go_simp))
      (refine wz_do (by decide) (by decide) C0e.es (growsB (by simp)) ?_ ?_; (focus (first | rfl | (go_simp; done))); apply Exists.intro; refine ⟨fun bs hok wx hwx hL => ?_, ?_⟩; (focus ((have hwx : Below _ _ wx := hwx; have hcx := cellA hwx; have hfx := frozA hwx; have hzx := hwx.size; (try simp at hzx)); unfold zAt; (try simp [go_sem, BigFrame.eval_const, BigFrame.eval_global, BigFrame.eval_func, ↓IntWalk.iteOmega, *]); (try simp only [zUpon]); (first | exact ⟨rfl, Below.refl _ _⟩ | fail))); (try go_simp))
      (refine wz_do (by decide) (by decide) C0e.es (growsB (by simp)) ?_ ?_; (focus (first | rfl | (go_simp; done))); apply Exists.intro; refine ⟨fun bs hok wx hwx hL => ?_, ?_⟩; (focus ((have hwx : Below _ _ wx := hwx; have hcx := cellA hwx; have hfx := frozA hwx; have hzx := hwx.size; (try simp at hzx)); unfold zAt; (try simp [go_sem, BigFrame.eval_const, BigFrame.eval_global, BigFrame.eval_func, ↓IntWalk.iteOmega, *]); (try simp only [zUpon]); (first | exact ⟨rfl, Below.refl _ _⟩ | fail))); (try go_simp))
      (refine wz_do (by decide) (by decide) C0e.es (growsB (by simp)) ?_ ?_; (focus (first | rfl | (go_simp; done))); apply Exists.intro; refine ⟨fun bs hok wx hwx hL => ?_, ?_⟩; (focus ((have hwx : Below _ _ wx := hwx; have hcx := cellA hwx; have hfx := frozA hwx; have hzx := hwx.size; (try simp at hzx)); unfold zAt; (try simp [go_sem, BigFrame.eval_const, BigFrame.eval_global, BigFrame.eval_func, ↓IntWalk.iteOmega, *]); (try simp only [zUpon]); (first | exact ⟨rfl, Below.refl _ _⟩ | fail))); (try go_simp))
      refine wz_nil ?_
      intro wq hbq hLq
      clear hLq 
      have hcwq := cellA hbq
      have hfwq := frozA hbq
      have hzwq := hbq.size
      try simp at hzwq
      go_wp2_with fail
      go_roundw
      case rel => exact ⟨k + 1, by omega, by go_num, HBR.out.trans (hbq.mono hwr)⟩
      case measure => simp [intOf]; omega
    · obtain rfl : k = L.length := by omega
      go_wp2_with fail
      go_ret
      exact ⟨rfl, hbr⟩
set_option maxHeartbeats 4000000 in
theorem staysTexts_any (g cap : Nat) (u : Value) (L : List (List UInt8)) (F : List Res) (w : World) (h : Sep w (.row (.slice (some ⟨g, 0, none⟩) (L.length + 1) cap) 9 1 (L.length + 1) ((L ++ [[109, 97, 114, 107]]).map strV) :: F)) (hu : Rd 1 strE w u L) (hn : L.length ≤ 1000000) : Calls Tryd.prog 18 #[.slice (some ⟨g, 0, none⟩) L.length cap, u] w fun e w' => e = .returned (.bool true) ∧ Below w.heap.size w w' := by
  have HS := Lib.hid h
  have HU := Lib.hid hu
  obtain ⟨a2, c2, rfl, hc2⟩ := Rd.len hu
  have hcp := own_cap (h.rowAt 0 rfl)
  have hmk := own_at (h.rowAt 0 rfl) (j := L.length) (u := .string ⟨#[109, 97, 114, 107]⟩) (by simp [strV])
  have hgl := World.block_lt_of_cell? w _ hmk
  simp only at hgl
  obtain ⟨hcp1, hcp2⟩ := hcp
  have hd1 : decide ((L.length : Int) + 1 ≤ (cap : Int)) = true := by simp only [decide_eq_true_eq]; omega
  have HM := Lib.hid hmk
  clear h hu hmk
  go_enter Tryd.func18, Tryd.ntmps18
  go_wp2_with (go_at_call 27; refine (sameTexts_any _ _ L _ (Rd.cut (HS.out.rowAt 0 rfl) (fun _ => rfl) rfl) HU.out hn).mono ?_; rintro e w1 ⟨rfl, hb1⟩; have hmk1 := (World.cell?_of_block (hb1.block g hgl)).trans HM.out; have HB1 := Lib.hid hb1; clear hb1)
  go_ret
  exact ⟨rfl, HB1.out⟩
end Go.Proofs.YtemdhbjcdibpfaaDoor.B1
