/- EmuCuts: what the law's function does, and that its answer is true. Conditions: none. -/
import Derived.Test.YtnjgnbdebkckfaaGreatDoorA2
import Derived.Test.YtnjgnbdebkckfaaGreatDoorA32
import Derived.Lib.Hide
import Derived.Test.YtnjgnbdebkckfaaGreatDoorA1
import Derived.Test.YtnjgnbdebkckfaaGreatDoorProg
import Derived.Deep.AppendLies
set_option linter.unusedVariables false
set_option linter.unusedSimpArgs false
set_option linter.unnecessarySimpa false
namespace Go.Proofs.YtnjgnbdebkckfaaGreatDoor.X1
set_option maxRecDepth 100000
open Go.RowKit K1 K3 K5 K11 K12 K14 K20 K21 K22 K25 K30 K31 M0 C1 G1 G2 G3 G4 G5 G6 G7 G8 G9 G10 E3 E12 E14 E25 ME MF S3 S4 T1 T2 T3 T4 T5 T6 T7 T8 T9 T10 T11 T12 T13 T14 T15 T16 E2 E15 K7 K9 T17 T18 T19 T20 T21 T22 T23 T24 U1 U3 MP
attribute [local go_sem] cell_pastA froz_pastA
theorem enc_at {L : List Ce} {i : Nat} {c : Ce} (hx : L[i]? = some c) (k : Nat) (hk : k < 6) : (L.flatMap ceV)[i * 6 + k]? = (ceV c)[k]? := by
  induction L generalizing i with
  | nil => simp at hx
  | cons d L ih =>
    have hd : (ceV d).length = 6 := rfl
    rw [List.flatMap_cons]
    cases i with
    | zero =>
      simp only [List.getElem?_cons_zero, Option.some.injEq] at hx
      subst hx
      rw [Nat.zero_mul, Nat.zero_add, List.getElem?_append_left (by rw [hd]; exact hk)]
    | succ i =>
      rw [List.getElem?_append_right (by rw [hd]; omega), hd, show (i + 1) * 6 + k - 6 = i * 6 + k by omega]
      exact ih (by simpa using hx)
theorem cell_row {w : World} {g c : Nat} {L : List Ce} {i : Nat} {x : Ce} (h : w.ownsRow 0 58 6 (.slice (some ⟨g, 0, none⟩) L.length c) L.length (L.flatMap ceV)) (hx : L[i]? = some x) (k : Nat) (hk : k < 6) (u : Value) (hu : (ceV x)[k]? = some u) : w.cell? ⟨g, i * 6 + k, none⟩ = some u :=
  K25.own_at h (by rw [enc_at hx k hk]; exact hu)
structure SmI (ga ca gb cb : Nat) (sw sh sx sy : Int) (hid : Bool) (L : List Ce) (w : World) (F : List Res) (i : Value) (wr : World) : Prop where
  out : ∃ j : Nat, j ≤ L.length ∧ i = .int .i64 j ∧ Sep wr (.blk w.heap.size [.int .i64 sw, .int .i64 sh, .slice (some ⟨ga, 0, none⟩) L.length ca, .int .i64 sx, .int .i64 sy, .bool hid] 47 :: .blk (w.heap.size + 1) [.int .i64 sw, .int .i64 sh, .slice (some ⟨gb, 0, none⟩) L.length cb, .int .i64 sx, .int .i64 sy, .bool hid] 47 :: .row (.slice (some ⟨ga, 0, none⟩) L.length ca) 58 6 L.length (L.flatMap ceV) :: .row (.slice (some ⟨gb, 0, none⟩) L.length cb) 58 6 L.length (L.flatMap ceV) :: F)
set_option maxHeartbeats 4000000 in
theorem same_eq (ga ca gb cb : Nat) (sw sh sx sy : Int) (hid : Bool) (L : List Ce) (F : List Res) (w : World) (hs : Sep w (.row (.slice (some ⟨ga, 0, none⟩) L.length ca) 58 6 L.length (L.flatMap ceV) :: .row (.slice (some ⟨gb, 0, none⟩) L.length cb) 58 6 L.length (L.flatMap ceV) :: F)) (hl : L.length ≤ 100000) :
    Calls Tryz.prog 33 #[.agg #[.int .i64 sw, .int .i64 sh, .slice (some ⟨ga, 0, none⟩) L.length ca, .int .i64 sx, .int .i64 sy, .bool hid], .agg #[.int .i64 sw, .int .i64 sh, .slice (some ⟨gb, 0, none⟩) L.length cb, .int .i64 sx, .int .i64 sy, .bool hid]] w fun e w' => e = .returned (.bool true) ∧ Sep w' (.row (.slice (some ⟨ga, 0, none⟩) L.length ca) 58 6 L.length (L.flatMap ceV) :: .row (.slice (some ⟨gb, 0, none⟩) L.length cb) 58 6 L.length (L.flatMap ceV) :: F) := by
  have hs0 : Sep ((w.alloc (.cells #[.int .i64 sw, .int .i64 sh, .slice (some ⟨ga, 0, none⟩) L.length ca, .int .i64 sx, .int .i64 sy, .bool hid] 47)).alloc (.cells #[.int .i64 sw, .int .i64 sh, .slice (some ⟨gb, 0, none⟩) L.length cb, .int .i64 sx, .int .i64 sy, .bool hid] 47)) (.blk w.heap.size [.int .i64 sw, .int .i64 sh, .slice (some ⟨ga, 0, none⟩) L.length ca, .int .i64 sx, .int .i64 sy, .bool hid] 47 :: .blk (w.heap.size + 1) [.int .i64 sw, .int .i64 sh, .slice (some ⟨gb, 0, none⟩) L.length cb, .int .i64 sx, .int .i64 sy, .bool hid] 47 :: .row (.slice (some ⟨ga, 0, none⟩) L.length ca) 58 6 L.length (L.flatMap ceV) :: .row (.slice (some ⟨gb, 0, none⟩) L.length cb) 58 6 L.length (L.flatMap ceV) :: F) := by
    have h1 := (hs.allocT (cs := #[.int .i64 sw, .int .i64 sh, .slice (some ⟨ga, 0, none⟩) L.length ca, .int .i64 sx, .int .i64 sy, .bool hid]) (t := 47)).allocT (cs := #[.int .i64 sw, .int .i64 sh, .slice (some ⟨gb, 0, none⟩) L.length cb, .int .i64 sx, .int .i64 sy, .bool hid]) (t := 47)
    rw [World.size_alloc] at h1
    exact h1.perm (List.Perm.swap _ _ _)
  have HS0 := Lib.hid hs0
  clear hs hs0
  go_enter Tryz.func33, Tryz.ntmps33
  go_wp2_with fail
  go_loopw [5] (fun i wr => SmI ga ca gb cb sw sh sx sy hid L w F i wr) (fun i _ => L.length - (intOf i).toNat)
  case atStart => exact ⟨⟨0, Nat.zero_le _, rfl, HS0.out⟩⟩
  case round =>
    clear HS0
    obtain ⟨⟨j, hj, rfl, hs⟩⟩ := hrel
    by_cases hlt : j < L.length
    · obtain ⟨c, hx⟩ : ∃ c, L[j]? = some c := ⟨_, List.getElem?_eq_getElem hlt⟩
      have HX := Lib.hid hx
      obtain ⟨hga, hgb⟩ := And.intro (K30.row_cells (hs.hereRow (v := .slice (some ⟨ga, 0, none⟩) L.length ca) (t := 58) (s := 6) (n := L.length) (xs := L.flatMap ceV) K32.rm)).2.2.2.1 (K30.row_cells (hs.hereRow (v := .slice (some ⟨gb, 0, none⟩) L.length cb) (t := 58) (s := 6) (n := L.length) (xs := L.flatMap ceV) K32.rm)).2.2.2.1
      clear hx
      (try clear hcA hzA hlA); (try clear hcB hzB hlB); obtain ⟨hcA, hzA, hlA⟩ := hs.here (b := w.heap.size) K32.rm; obtain ⟨hcB, hzB, hlB⟩ := hs.here (b := (w.heap.size + 1)) K32.rm; (try clear hcA0 hcA1 hcA2 hcA3 hcA4 hcA5); have hcA0 := hcA 0; have hcA1 := hcA 1; have hcA2 := hcA 2; have hcA3 := hcA 3; have hcA4 := hcA 4; have hcA5 := hcA 5; clear hcA; simp only [List.getElem?_cons_zero, List.getElem?_cons_succ] at hcA0 hcA1 hcA2 hcA3 hcA4 hcA5; (try clear hcB0 hcB1 hcB2 hcB3 hcB4 hcB5); have hcB0 := hcB 0; have hcB1 := hcB 1; have hcB2 := hcB 2; have hcB3 := hcB 3; have hcB4 := hcB 4; have hcB5 := hcB 5; clear hcB; simp only [List.getElem?_cons_zero, List.getElem?_cons_succ] at hcB0 hcB1 hcB2 hcB3 hcB4 hcB5
      have HS := Lib.hid hs
      clear hs
      go_wp2_with (first | (refine K32.atW 6 (fun xw hs => ?_); (try simp only [World.size_alloc, World.size_setCell] at hs); (try clear hcA hzA hlA); (try clear hcB hzB hlB); obtain ⟨hcA, hzA, hlA⟩ := hs.here (b := w.heap.size) K32.rm; obtain ⟨hcB, hzB, hlB⟩ := hs.here (b := (w.heap.size + 1)) K32.rm; (try clear hcA0 hcA1 hcA2 hcA3 hcA4 hcA5); have hcA0 := hcA 0; have hcA1 := hcA 1; have hcA2 := hcA 2; have hcA3 := hcA 3; have hcA4 := hcA 4; have hcA5 := hcA 5; clear hcA; simp only [List.getElem?_cons_zero, List.getElem?_cons_succ] at hcA0 hcA1 hcA2 hcA3 hcA4 hcA5; (try clear hcB0 hcB1 hcB2 hcB3 hcB4 hcB5); have hcB0 := hcB 0; have hcB1 := hcB 1; have hcB2 := hcB 2; have hcB3 := hcB 3; have hcB4 := hcB 4; have hcB5 := hcB 5; clear hcB; simp only [List.getElem?_cons_zero, List.getElem?_cons_succ] at hcB0 hcB1 hcB2 hcB3 hcB4 hcB5; (try clear hp0 hq0 hp1 hq1 hp2 hq2 hp3 hq3 hp4 hq4 hp5 hq5); have hp0 := cell_row (hs.hereRow (v := .slice (some ⟨ga, 0, none⟩) L.length ca) (t := 58) (s := 6) (n := L.length) (xs := L.flatMap ceV) K32.rm) HX.out 0 (by decide) _ rfl; have hq0 := cell_row (hs.hereRow (v := .slice (some ⟨gb, 0, none⟩) L.length cb) (t := 58) (s := 6) (n := L.length) (xs := L.flatMap ceV) K32.rm) HX.out 0 (by decide) _ rfl; have hp1 := cell_row (hs.hereRow (v := .slice (some ⟨ga, 0, none⟩) L.length ca) (t := 58) (s := 6) (n := L.length) (xs := L.flatMap ceV) K32.rm) HX.out 1 (by decide) _ rfl; have hq1 := cell_row (hs.hereRow (v := .slice (some ⟨gb, 0, none⟩) L.length cb) (t := 58) (s := 6) (n := L.length) (xs := L.flatMap ceV) K32.rm) HX.out 1 (by decide) _ rfl; have hp2 := cell_row (hs.hereRow (v := .slice (some ⟨ga, 0, none⟩) L.length ca) (t := 58) (s := 6) (n := L.length) (xs := L.flatMap ceV) K32.rm) HX.out 2 (by decide) _ rfl; have hq2 := cell_row (hs.hereRow (v := .slice (some ⟨gb, 0, none⟩) L.length cb) (t := 58) (s := 6) (n := L.length) (xs := L.flatMap ceV) K32.rm) HX.out 2 (by decide) _ rfl; have hp3 := cell_row (hs.hereRow (v := .slice (some ⟨ga, 0, none⟩) L.length ca) (t := 58) (s := 6) (n := L.length) (xs := L.flatMap ceV) K32.rm) HX.out 3 (by decide) _ rfl; have hq3 := cell_row (hs.hereRow (v := .slice (some ⟨gb, 0, none⟩) L.length cb) (t := 58) (s := 6) (n := L.length) (xs := L.flatMap ceV) K32.rm) HX.out 3 (by decide) _ rfl; have hp4 := cell_row (hs.hereRow (v := .slice (some ⟨ga, 0, none⟩) L.length ca) (t := 58) (s := 6) (n := L.length) (xs := L.flatMap ceV) K32.rm) HX.out 4 (by decide) _ rfl; have hq4 := cell_row (hs.hereRow (v := .slice (some ⟨gb, 0, none⟩) L.length cb) (t := 58) (s := 6) (n := L.length) (xs := L.flatMap ceV) K32.rm) HX.out 4 (by decide) _ rfl; have hp5 := cell_row (hs.hereRow (v := .slice (some ⟨ga, 0, none⟩) L.length ca) (t := 58) (s := 6) (n := L.length) (xs := L.flatMap ceV) K32.rm) HX.out 5 (by decide) _ rfl; have hq5 := cell_row (hs.hereRow (v := .slice (some ⟨gb, 0, none⟩) L.length cb) (t := 58) (s := 6) (n := L.length) (xs := L.flatMap ceV) K32.rm) HX.out 5 (by decide) _ rfl; rw [Nat.add_zero] at hp0 hq0; (try clear hgA hgB); have hgA := (K30.row_cells (hs.hereRow (v := .slice (some ⟨ga, 0, none⟩) L.length ca) (t := 58) (s := 6) (n := L.length) (xs := L.flatMap ceV) K32.rm)).2.2.1; have hgB := (K30.row_cells (hs.hereRow (v := .slice (some ⟨gb, 0, none⟩) L.length cb) (t := 58) (s := 6) (n := L.length) (xs := L.flatMap ceV) K32.rm)).2.2.1; have HS := Lib.hid hs; clear hs; refine K32.reg0 (w := xw) [] [] 11 ?_; simp only [numbered, List.take_succ_cons, List.take_zero, List.drop_succ_cons, List.drop_zero, List.take_nil, List.drop_nil, Nat.reduceAdd]; (iterate 11 (refine K32.zd ?_; (try go_simp))); refine wz_nil ?_; intro wq hbq hLq; clear hLq ; have hcwq := cellA hbq; have hfwq := frozA hbq; have hzwq := hbq.size; (try simp at hzwq); have hs := HS.out.below hbq; (try clear hcA hzA hlA); (try clear hcB hzB hlB); obtain ⟨hcA, hzA, hlA⟩ := hs.here (b := w.heap.size) K32.rm; obtain ⟨hcB, hzB, hlB⟩ := hs.here (b := (w.heap.size + 1)) K32.rm; (try clear hcA0 hcA1 hcA2 hcA3 hcA4 hcA5); have hcA0 := hcA 0; have hcA1 := hcA 1; have hcA2 := hcA 2; have hcA3 := hcA 3; have hcA4 := hcA 4; have hcA5 := hcA 5; clear hcA; simp only [List.getElem?_cons_zero, List.getElem?_cons_succ] at hcA0 hcA1 hcA2 hcA3 hcA4 hcA5; (try clear hcB0 hcB1 hcB2 hcB3 hcB4 hcB5); have hcB0 := hcB 0; have hcB1 := hcB 1; have hcB2 := hcB 2; have hcB3 := hcB 3; have hcB4 := hcB 4; have hcB5 := hcB 5; clear hcB; simp only [List.getElem?_cons_zero, List.getElem?_cons_succ] at hcB0 hcB1 hcB2 hcB3 hcB4 hcB5; (try clear hp0 hq0 hp1 hq1 hp2 hq2 hp3 hq3 hp4 hq4 hp5 hq5); have hp0 := cell_row (hs.hereRow (v := .slice (some ⟨ga, 0, none⟩) L.length ca) (t := 58) (s := 6) (n := L.length) (xs := L.flatMap ceV) K32.rm) HX.out 0 (by decide) _ rfl; have hq0 := cell_row (hs.hereRow (v := .slice (some ⟨gb, 0, none⟩) L.length cb) (t := 58) (s := 6) (n := L.length) (xs := L.flatMap ceV) K32.rm) HX.out 0 (by decide) _ rfl; have hp1 := cell_row (hs.hereRow (v := .slice (some ⟨ga, 0, none⟩) L.length ca) (t := 58) (s := 6) (n := L.length) (xs := L.flatMap ceV) K32.rm) HX.out 1 (by decide) _ rfl; have hq1 := cell_row (hs.hereRow (v := .slice (some ⟨gb, 0, none⟩) L.length cb) (t := 58) (s := 6) (n := L.length) (xs := L.flatMap ceV) K32.rm) HX.out 1 (by decide) _ rfl; have hp2 := cell_row (hs.hereRow (v := .slice (some ⟨ga, 0, none⟩) L.length ca) (t := 58) (s := 6) (n := L.length) (xs := L.flatMap ceV) K32.rm) HX.out 2 (by decide) _ rfl; have hq2 := cell_row (hs.hereRow (v := .slice (some ⟨gb, 0, none⟩) L.length cb) (t := 58) (s := 6) (n := L.length) (xs := L.flatMap ceV) K32.rm) HX.out 2 (by decide) _ rfl; have hp3 := cell_row (hs.hereRow (v := .slice (some ⟨ga, 0, none⟩) L.length ca) (t := 58) (s := 6) (n := L.length) (xs := L.flatMap ceV) K32.rm) HX.out 3 (by decide) _ rfl; have hq3 := cell_row (hs.hereRow (v := .slice (some ⟨gb, 0, none⟩) L.length cb) (t := 58) (s := 6) (n := L.length) (xs := L.flatMap ceV) K32.rm) HX.out 3 (by decide) _ rfl; have hp4 := cell_row (hs.hereRow (v := .slice (some ⟨ga, 0, none⟩) L.length ca) (t := 58) (s := 6) (n := L.length) (xs := L.flatMap ceV) K32.rm) HX.out 4 (by decide) _ rfl; have hq4 := cell_row (hs.hereRow (v := .slice (some ⟨gb, 0, none⟩) L.length cb) (t := 58) (s := 6) (n := L.length) (xs := L.flatMap ceV) K32.rm) HX.out 4 (by decide) _ rfl; have hp5 := cell_row (hs.hereRow (v := .slice (some ⟨ga, 0, none⟩) L.length ca) (t := 58) (s := 6) (n := L.length) (xs := L.flatMap ceV) K32.rm) HX.out 5 (by decide) _ rfl; have hq5 := cell_row (hs.hereRow (v := .slice (some ⟨gb, 0, none⟩) L.length cb) (t := 58) (s := 6) (n := L.length) (xs := L.flatMap ceV) K32.rm) HX.out 5 (by decide) _ rfl; rw [Nat.add_zero] at hp0 hq0; (try clear hgA hgB); have hgA := (K30.row_cells (hs.hereRow (v := .slice (some ⟨ga, 0, none⟩) L.length ca) (t := 58) (s := 6) (n := L.length) (xs := L.flatMap ceV) K32.rm)).2.2.1; have hgB := (K30.row_cells (hs.hereRow (v := .slice (some ⟨gb, 0, none⟩) L.length cb) (t := 58) (s := 6) (n := L.length) (xs := L.flatMap ceV) K32.rm)).2.2.1; have HS := Lib.hid hs; clear hs hcwq hfwq hzwq hbq))
      go_roundw
      case rel => exact ⟨⟨j + 1, by omega, by go_num, HS.out⟩⟩
      case measure => simp [intOf]; omega
    · obtain rfl : j = L.length := by omega
      (try clear hcA hzA hlA); (try clear hcB hzB hlB); obtain ⟨hcA, hzA, hlA⟩ := hs.here (b := w.heap.size) K32.rm; obtain ⟨hcB, hzB, hlB⟩ := hs.here (b := (w.heap.size + 1)) K32.rm; (try clear hcA0 hcA1 hcA2 hcA3 hcA4 hcA5); have hcA0 := hcA 0; have hcA1 := hcA 1; have hcA2 := hcA 2; have hcA3 := hcA 3; have hcA4 := hcA 4; have hcA5 := hcA 5; clear hcA; simp only [List.getElem?_cons_zero, List.getElem?_cons_succ] at hcA0 hcA1 hcA2 hcA3 hcA4 hcA5; (try clear hcB0 hcB1 hcB2 hcB3 hcB4 hcB5); have hcB0 := hcB 0; have hcB1 := hcB 1; have hcB2 := hcB 2; have hcB3 := hcB 3; have hcB4 := hcB 4; have hcB5 := hcB 5; clear hcB; simp only [List.getElem?_cons_zero, List.getElem?_cons_succ] at hcB0 hcB1 hcB2 hcB3 hcB4 hcB5
      have HS := Lib.hid hs
      clear hs
      go_wp2_with fail
      go_ret
      exact ⟨rfl, HS.out.tail.tail⟩
end Go.Proofs.YtnjgnbdebkckfaaGreatDoor.X1
namespace Go.Proofs.YtnjgnbdebkckfaaGreatDoor.X2
set_option maxRecDepth 100000
open Go.RowKit K1 K3 K5 K11 K12 K14
attribute [local go_sem] cell_pastA froz_pastA
theorem info9 : (Tryz.prog.info? 9).map (fun i => (i.zero, i.size, i.bytes)) = some (some (.string ByteArray.empty), 1, 16) := by kernel_rfl
theorem ext_lo (t : ByteArray) (j : Nat) : (t.extract 0 j).data.toList = t.data.toList.take j := by simp [ByteArray.data_extract]
theorem ext_hi (t : ByteArray) (j : Nat) : (t.extract j t.size).data.toList = t.data.toList.drop j := by
  simp [ByteArray.data_extract]
  rw [List.take_of_length_le]
  simp
def strV (l : List UInt8) : Value := .string ⟨l.toArray⟩
theorem strV_data (t : ByteArray) : strV t.data.toList = .string t := by cases t; simp [strV]
theorem cut_at (x : Int) (n : Nat) (hn : n ≤ 1099511627776) : ∃ j : Nat, j ≤ n ∧ (wrap64 (wrap64 (x.tmod ((n : Int) + 1) + (n : Int)) + 1)).tmod ((n : Int) + 1) = (j : Int) := by
  have h1 := Int.tmod_lt_of_pos x (show (0:Int) < (n : Int) + 1 by omega)
  have h2 := Int.lt_tmod_of_pos x (show (0:Int) < (n : Int) + 1 by omega)
  have e : wrap64 (wrap64 (x.tmod ((n : Int) + 1) + (n : Int)) + 1) = x.tmod ((n : Int) + 1) + (n : Int) + 1 := by unfold wrap64; omega
  rw [e]
  have h3 := Int.tmod_nonneg ((n : Int) + 1) (show 0 ≤ x.tmod ((n : Int) + 1) + (n : Int) + 1 by omega)
  have h4 := Int.tmod_lt_of_pos (x.tmod ((n : Int) + 1) + (n : Int) + 1) (show (0:Int) < (n : Int) + 1 by omega)
  exact ⟨_, by omega, (Int.toNat_of_nonneg h3).symm⟩
set_option maxHeartbeats 4000000 in
theorem cuts_any (s : ByteArray) (ao : Option Addr) (sb off n cap : Nat) (L : Nat → Int) (w : World) (hao : ao = some ⟨sb, off, none⟩ ∨ n = 0) (hn : n ≤ 1000000) (hs : s.size ≤ 1099511627776) (hL : ∀ k, k < n → -9223372036854775808 ≤ L k ∧ L k ≤ 9223372036854775807)
    (hc : ∀ k, k < n → w.cell? ⟨sb, off + k, none⟩ = some (.int .i64 (L k))) (hsb : 0 < n → sb < w.heap.size) :
    Calls Tryz.prog 32 #[.string s, .slice ao n cap] w fun e w' => ∃ (v : Value) (parts : List (List UInt8)), e = .returned v ∧ w'.ownsRow w.heap.size 9 1 v parts.length (parts.map strV) ∧ parts.flatten = s.data.toList ∧ 0 < parts.length ∧ parts.length ≤ n + 1 ∧ Below w.heap.size w w' := by
  have HC := Lib.hid hc
  have HSB := Lib.hid hsb
  have HAO := Lib.hid hao
  have HL := Lib.hid hL
  obtain ⟨i0, hi, hz0, hz1, hz2⟩ := info_parts info9
  have HI := Lib.hid hi
  clear hc hao hL hi hsb
  go_enter Tryz.func32, Tryz.ntmps32
  go_wp2_with fail
  go_loopw [0, 5, 6] (fun a o i wr => ∃ (k : Nat) (t : ByteArray) (parts : List (List UInt8)), k ≤ n ∧ a = .string t ∧ i = .int .i64 k ∧ parts.length = k ∧ parts.flatten ++ t.data.toList = s.data.toList ∧ wr.ownsRow w.heap.size 9 1 o k (parts.map strV) ∧ Below w.heap.size w wr) (fun _ _ i _ => n - (intOf i).toNat)
  case atStart => exact ⟨0, s, [], by omega, rfl, rfl, rfl, rfl, World.ownsRow_nil _ _ _ _, Below.refl _ _⟩
  case round =>
    obtain ⟨k, t, parts, hk, rfl, rfl, hpl, hpf, hown, hb⟩ := hrel
    have hts : t.size ≤ s.size := by
      have := congrArg List.length hpf
      simp at this
      omega
    have HP := Lib.hid (And.intro hpl hpf)
    have HOW := Lib.hid hown
    have HB := Lib.hid hb
    clear hpl hpf hown hb
    by_cases hlt : k < n
    · have hck := HC.out k hlt
      have hsbN := HSB.out (by omega)
      have hxw : w.heap.size ≤ wr.heap.size := HB.out.size
      rw [← HB.out.cell (p := ⟨sb, off + k, none⟩) hsbN] at hck
      obtain rfl : ao = some ⟨sb, off, none⟩ := by rcases HAO.out with h | h; exact h; omega
      obtain ⟨q1, q2⟩ := HL.out k hlt
      generalize L k = x at *
      by_cases ht : 0 < t.size
      · have ht1 : decide ((t.size : Int) > 0) = true := by simp; omega
        obtain ⟨j, hj, hXe⟩ := cut_at x t.size (by omega)
        go_wp2_with (at_builtin; refine wpList_append_lies _ rfl (.tmp 35) (.tmp 39) 28 rfl w.heap.size 9 i0 (.string ByteArray.empty) 1 16 Tryz.underlying28 HI.out hz0 hz1 hz2 rfl (by decide) _ _ _ rfl (own_keep HOW.out (fun k hk => Below.heap_alloc _ _ _ (own_lt HOW.out k hk))) ⟨_, 0, none⟩ 1 1 _ rfl (by rfl) (news1 _ _ _ _ (by first | rfl | simp)) (by simp [Value.oneCell']) (by omega) (by unfold maxLen; omega) (by omega) (by simp; omega) _ rfl ?_; intro g cap w1 hown' hgrow hat hlg)
        have hgb := hgrow
        go_roundw
        case rel =>
          have hb2 : Below w.heap.size w w1 := by
            refine Below.grown (HB.out.alloc hxw _) hgrow (by simp; omega) (fun q hq => ((HOW.out).lt q hq).1)
          obtain ⟨p1, p2⟩ := HP.out
          refine ⟨k + 1, t.extract j t.size, parts ++ [(t.extract 0 j).data.toList], by omega, rfl, by go_num, by simp [p1], ?_, ?_, hb2⟩
          · rw [← p2, ext_lo, ext_hi]
            simp
          · rw [List.map_append, List.map_cons, List.map_nil, strV_data]; exact hown'
        case measure => simp [intOf]; omega
      · have ht1 : decide ((t.size : Int) > 0) = false := decide_eq_false (by omega)
        go_wp2_with (at_builtin; refine wpList_append_lies _ rfl (.tmp 44) (.tmp 46) 28 rfl w.heap.size 9 i0 (.string ByteArray.empty) 1 16 Tryz.underlying28 HI.out hz0 hz1 hz2 rfl (by decide) _ _ _ rfl (own_keep HOW.out (fun k hk => Below.heap_alloc _ _ _ (own_lt HOW.out k hk))) ⟨_, 0, none⟩ 1 1 _ rfl (by rfl) (news1 _ _ _ _ (by first | rfl | simp)) (by simp [Value.oneCell']) (by omega) (by unfold maxLen; omega) (by omega) (by simp; omega) _ rfl ?_; intro g cap w1 hown' hgrow hat hlg)
        go_ret
        obtain ⟨p1, p2⟩ := HP.out
        have hB : Below w.heap.size w w1 := Below.grown (HB.out.alloc hxw _) hgrow (by simp; omega) (fun q hq => ((HOW.out).lt q hq).1)
        have hF : (parts ++ [t.data.toList]).flatten = s.data.toList := by simpa using p2
        have hL : (parts ++ [t.data.toList]).length = parts.length + 1 := by simp
        have hW : w1.ownsRow w.heap.size 9 1 (.slice (some ⟨g, 0, none⟩) (parts.length + 1) cap) (parts ++ [t.data.toList]).length ((parts ++ [t.data.toList]).map strV) := by
          rw [List.map_append, List.map_cons, List.map_nil, strV_data, hL, p1]; exact hown'
        rw [p1] at hW
        first | exact ⟨_, _, rfl, hW, hF, by omega, by omega, hB⟩ | exact ⟨_, rfl, _, hW, hF, by omega, by omega, hB⟩
    · obtain rfl : k = n := by omega
      have hxw : w.heap.size ≤ wr.heap.size := HB.out.size
      go_wp2_with (at_builtin; refine wpList_append_lies _ rfl (.tmp 44) (.tmp 46) 28 rfl w.heap.size 9 i0 (.string ByteArray.empty) 1 16 Tryz.underlying28 HI.out hz0 hz1 hz2 rfl (by decide) _ _ _ rfl (own_keep HOW.out (fun k hk => Below.heap_alloc _ _ _ (own_lt HOW.out k hk))) ⟨_, 0, none⟩ 1 1 _ rfl (by rfl) (news1 _ _ _ _ (by first | rfl | simp)) (by simp [Value.oneCell']) (by omega) (by unfold maxLen; omega) (by omega) (by simp; omega) _ rfl ?_; intro g cap w1 hown' hgrow hat hlg)
      go_ret
      obtain ⟨p1, p2⟩ := HP.out
      have hB : Below w.heap.size w w1 := Below.grown (HB.out.alloc hxw _) hgrow (by simp; omega) (fun q hq => ((HOW.out).lt q hq).1)
      have hF : (parts ++ [t.data.toList]).flatten = s.data.toList := by simpa using p2
      have hL : (parts ++ [t.data.toList]).length = parts.length + 1 := by simp
      have hW : w1.ownsRow w.heap.size 9 1 (.slice (some ⟨g, 0, none⟩) (parts.length + 1) cap) (parts ++ [t.data.toList]).length ((parts ++ [t.data.toList]).map strV) := by
        rw [List.map_append, List.map_cons, List.map_nil, strV_data, hL, p1]; exact hown'
      rw [p1] at hW
      first | exact ⟨_, _, rfl, hW, hF, by omega, by omega, hB⟩ | exact ⟨_, rfl, _, hW, hF, by omega, by omega, hB⟩
end Go.Proofs.YtnjgnbdebkckfaaGreatDoor.X2
namespace Go.Proofs.YtnjgnbdebkckfaaGreatDoor.X3
set_option maxRecDepth 100000
open Go.RowKit K1 K3 K5 K11 K12 K14 K20 K21 K22 K25 K30 K31 M0 C1 G1 G2 G3 G4 G5 G6 G7 G8 G9 G10 E3 E12 E14 E25 ME MF S3 S4 T1 T2 T3 T4 T5 T6 T7 T8 T9 T10 T11 T12 T13 T14 T15 T16 E2 E15 K7 K9 T17 T18 T19 T20 T21 T22 T23 T24 U1 U3 MP X1 E25
attribute [local go_sem] cell_pastA froz_pastA
theorem feedT_app (m : Tm) (a b : List UInt8) : feedT m (a ++ b) = ((feedT m a).1 ++ (feedT (feedT m a).2 b).1, (feedT (feedT m a).2 b).2) := by
  unfold feedT
  simp only [feed_app, acts_app]
theorem feedT_nil (m : Tm) : feedT m [] = ([], m) := rfl
theorem feedT_len (m : Tm) (ok : TmOk m) (s : List UInt8) : (feedT m s).1.length ≤ 24 * s.length := by
  have h1 := actsE_len (feedP m.p s).1 m.t ok.t (feed_ok s ok.p).2
  have h2 := feed_len s m.p
  show (actsE m.t (feedP m.p s).1).1.length ≤ _
  omega
/-- Feed, its reply under a name -/
theorem feed_y (b : Nat) (m : Tm) (v : Value) (l : List (List UInt8)) (F : List Res) (w : World) (q : List UInt8) (z : ByteArray) (m' : Tm) (h : TmAt b m F w) (ok : TmOk m) (hr : ∀ w, Sep w F → Rd 1 strE w v l) (hq : l.flatten = q) (hL : q.length ≤ 10000) (hL2 : l.length ≤ 10000) (hz : z = ⟨(feedT m q).1.toArray⟩) (hm : m' = (feedT m q).2) :
    Calls Tryz.prog 24 #[.pointer (some ⟨b, 0, none⟩), v] w fun e w' => e = .returned (.string z) ∧ TmAt b m' F w' := by
  subst hq hz hm
  exact (feed_m b m v l F w h ok hr hL hL2).mono fun e w' ⟨h⟩ => h
theorem permA (r : Res) (A B C D : List Res) : (r :: (C ++ (B ++ (A ++ D)))).Perm (A ++ (r :: (C ++ (B ++ D)))) := by simpa using List.perm_append_comm_assoc (r :: (C ++ B)) A D
theorem permAB (r : Res) (A B C D : List Res) : (A ++ (r :: (C ++ (B ++ D)))).Perm (B ++ (r :: (C ++ (A ++ D)))) :=
  (permA r A B C D).symm.trans (by simpa using List.perm_append_comm_assoc (r :: C) B (A ++ D))
theorem permBC (r : Res) (A B C D : List Res) : (B ++ (r :: (C ++ (A ++ D)))).Perm (C ++ (r :: (B ++ (A ++ D)))) :=
  ((show (r :: (C ++ (B ++ (A ++ D)))).Perm (B ++ (r :: (C ++ (A ++ D)))) by simpa using List.perm_append_comm_assoc (r :: C) B (A ++ D))).symm.trans (by simpa using List.perm_append_comm_assoc [r] C (B ++ (A ++ D)))
theorem permS1 (r : Res) (C B A D : List Res) : (C ++ (r :: (B ++ (A ++ D)))).Perm (A ++ (C ++ (r :: (B ++ D)))) := by simpa using List.perm_append_comm_assoc (C ++ r :: B) A D
theorem permSB (k r : Res) (A C B D : List Res) : (A ++ (k :: (C ++ (r :: (B ++ D))))).Perm (B ++ (A ++ (k :: (C ++ (r :: D))))) := by simpa using List.perm_append_comm_assoc (A ++ k :: (C ++ [r])) B D
theorem permSC (k : Res) (A B C D : List Res) : (A ++ (k :: (B ++ (C ++ D)))).Perm (C ++ (A ++ (k :: (B ++ D)))) := by simpa using List.perm_append_comm_assoc (A ++ k :: B) C D
theorem permK (A B T : List Res) (k1 k2 : Res) : (A ++ (k2 :: (B ++ (k1 :: T)))).Perm (k1 :: k2 :: (A ++ (B ++ T))) :=
  (List.perm_middle.trans (List.Perm.cons k2 ((List.Perm.append_left A List.perm_middle).trans List.perm_middle))).trans (List.Perm.swap _ _ _)
theorem ext_one (s : ByteArray) (q : List UInt8) (j : Nat) (c : UInt8) (hq : q = s.data.toList) (hx : q[j]? = some c) : s.extract j (j + 1) = ⟨[c].toArray⟩ := by
  subst hq
  apply ByteArray.ext
  apply Array.ext'
  have h : (s.data.toList.drop j).take 1 = [c] := by
    rw [List.take_one, List.head?_drop, hx]; rfl
  simpa [ByteArray.data_extract, List.extract] using h
theorem rde {k : Nat} {F : List Res} (e : ByteArray) (l : List UInt8) (he : e = ⟨l.toArray⟩) : ∀ w, Sep w (.blk k [.string e] 9 :: F) → Rd 1 strE w (.slice (some ⟨k, 0, none⟩) 1 1) [l] := by
  subst he
  exact rd1 l
theorem low_of {L : List Res} {w W : World} (h : Sep w (L ++ [.low W.heap.size W])) : Below W.heap.size W w := h.lowOf (List.mem_append_right _ (List.mem_singleton.2 rfl))
theorem rd_parts {w : World} {g pc : Nat} {parts : List (List UInt8)} (h : w.ownsRow 0 9 1 (.slice (some ⟨g, 0, none⟩) parts.length pc) parts.length (parts.map strW)) : Rd 1 strE w (.slice (some ⟨g, 0, none⟩) parts.length pc) parts := by
  refine Rd.of_own (t := 9) (base := 0) ?_ (fun _ _ => rfl)
  have e : ∀ l : List (List UInt8), l.flatMap strE = l.map strW := by
    intro l
    induction l with
    | nil => rfl
    | cons p l ih => exact congrArg (strW p :: ·) ih
  rw [e]
  exact h
structure C1 (a : Nat) (m0 : Tm) (parts : List (List UInt8)) (R : List Res) (x i : Value) (wr : World) : Prop where
  out : ∃ j : Nat, j ≤ parts.length ∧ i = .int .i64 j ∧ x = .string ⟨(feedT m0 (parts.take j).flatten).1.toArray⟩ ∧ TmAt a (feedT m0 (parts.take j).flatten).2 R wr
structure C3 (c : Nat) (m0 : Tm) (q : List UInt8) (R : List Res) (x i : Value) (wr : World) : Prop where
  out : ∃ j : Nat, j ≤ q.length ∧ i = .int .i64 j ∧ x = .string ⟨(feedT m0 (q.take j)).1.toArray⟩ ∧ TmAt c (feedT m0 (q.take j)).2 R wr
set_option maxHeartbeats 4000000 in
theorem cuts_long (x y : Int) (s : ByteArray) (ao : Option Addr) (n cap : Nat) (W : World) (h : 1500 < s.size ∨ (s.size ≤ 1500 ∧ 40 < n)) (hn : n ≤ 9223372036854775807) (hs : s.size ≤ 9223372036854775807) : Calls Tryz.prog 7 #[.int .i64 x, .int .i64 y, .string s, .slice ao n cap] W fun e w' => e = .returned (.bool true) ∧ Below W.heap.size W w' := by
  rcases h with h | ⟨h, h2⟩
  · go_enter Tryz.func7, Tryz.ntmps7
    go_wp2_with (first | (go_at_call 21; refine (alive_any _).mono ?_; rintro e w1 ⟨rfl, hb1⟩))
    go_ret
    exact ⟨rfl, hb1⟩
  · go_enter Tryz.func7, Tryz.ntmps7
    go_wp2_with (first | (go_at_call 21; refine (alive_any _).mono ?_; rintro e w1 ⟨rfl, hb1⟩))
    go_ret
    exact ⟨rfl, hb1⟩
set_option maxHeartbeats 4000000 in
theorem cuts_any (x y : Int) (s : ByteArray) (ao : Option Addr) (sb off n cap : Nat) (L : Nat → Int) (W : World) (hao : ao = some ⟨sb, off, none⟩ ∨ n = 0) (hn : n ≤ 40) (hs : s.size ≤ 1500) (hL : ∀ k, k < n → -9223372036854775808 ≤ L k ∧ L k ≤ 9223372036854775807)
    (hc : ∀ k, k < n → W.cell? ⟨sb, off + k, none⟩ = some (.int .i64 (L k))) (hsb : 0 < n → sb < W.heap.size) : Calls Tryz.prog 7 #[.int .i64 x, .int .i64 y, .string s, .slice ao n cap] W fun e w' => e = .returned (.bool true) ∧ Below W.heap.size W w' := by
  have HC := Lib.hid hc
  have HSB := Lib.hid hsb
  have HAO := Lib.hid hao
  have HLN := Lib.hid hL
  clear hc hsb hao hL
  go_enter Tryz.func7, Tryz.ntmps7
  go_wp2_with (first | (go_at_call 21; refine (alive_any _).mono ?_; rintro e w1 ⟨rfl, hb1⟩; have HS0 := Lib.hid ((Sep.start W).below hb1)) | (go_at_call 22; refine (newT_any x y _ _ HS0.out).mono ?_; clear HS0; rintro e w2 ⟨a, rfl, ht⟩; obtain ⟨LA, hla, hs⟩ := tm_open ht; have HLA := Lib.hid hla; have HS1 := Lib.hid hs; clear ht hla hs) | (go_at_call 22; refine (newT_any x y _ _ HS1.out).mono ?_; clear HS1; rintro e w3 ⟨b, rfl, ht⟩; obtain ⟨LB, hlb, hs⟩ := tm_open ht; have HLB := Lib.hid hlb; have HS2 := Lib.hid hs; clear ht hlb hs) | (go_at_call 22; refine (newT_any x y _ _ HS2.out).mono ?_; clear HS2; rintro e w4 ⟨c, rfl, ht⟩; obtain ⟨LC, hlc, hs⟩ := tm_open ht; have HLC := Lib.hid hlc; have HS3 := Lib.hid hs; clear ht hlc hs) | (go_at_call 32; have hlow := low_of (L := LC ++ (LB ++ LA)) (by simpa using HS3.out); refine (X2.cuts_any s ao sb off n cap L _ HAO.out (by omega) (by omega) HLN.out (fun k hk => (World.cell?_of_block (hlow.block sb (HSB.out (by omega)))).trans (HC.out k hk)) (fun h0 => Nat.lt_of_lt_of_le (HSB.out h0) hlow.size)).mono ?_; clear hlow; rintro e w5 ⟨v, parts, rfl, hown, hfl, hp0, hpn, hbl⟩; have hs := HS3.out.addRow hbl hown; obtain ⟨g, pc, rfl⟩ := E5.own_some hown hp0; have HFL := Lib.hid hfl; have HS4 := Lib.hid hs; have HLA0 := HLA; clear hown hfl hbl hs HS3))
  obtain ⟨m0, hm0⟩ : ∃ m0, m0 = newT x y := ⟨_, rfl⟩
  have OK0 := Lib.hid (show TmOk m0 from hm0 ▸ newT_ok x y)
  rw [← hm0] at HLA HLB HLC
  obtain ⟨q, hq⟩ : ∃ q, q = s.data.toList := ⟨_, rfl⟩
  have hqs : q.length = s.size := by rw [hq]; simp
  have hfq : parts.flatten = q := by rw [hq]; exact HFL.out
  have HFQ := Lib.hid hfq
  have HQ := Lib.hid hq
  have hta : TmAt a m0 (.row (.slice (some ⟨g, 0, none⟩) parts.length pc) 9 1 parts.length (parts.map strW) :: (LC ++ (LB ++ [.low W.heap.size W]))) w5 := tm_shut HLA.out (HS4.out.perm (permA _ LA LB LC _))
  have hrw := TmAt.rest hta
  have HT0 := Lib.hid hta
  have hLB := HLB
  clear hta hrw HS4 HFL hq
  have hpc := parts.length
  go_loopw [13, 15] (fun xv iv wr => C1 a m0 parts (.row (.slice (some ⟨g, 0, none⟩) parts.length pc) 9 1 parts.length (parts.map strW) :: (LC ++ (LB ++ [.low W.heap.size W]))) xv iv wr) (fun _ i _ => parts.length - (intOf i).toNat)
  case atStart => exact ⟨⟨0, Nat.zero_le _, rfl, rfl, HT0.out⟩⟩
  case round =>
    clear HT0
    obtain ⟨⟨j, hj, rfl, rfl, ht⟩⟩ := hrel
    by_cases hlt : j < parts.length
    · obtain ⟨p, hx⟩ : ∃ p, parts[j]? = some p := ⟨_, List.getElem?_eq_getElem hlt⟩
      have hle := flat_le hx
      rw [HFQ.out] at hle
      have htf := take_flat hx
      obtain ⟨mj, hmj⟩ : ∃ m, m = (feedT m0 (parts.take j).flatten).2 := ⟨_, rfl⟩
      have okj : TmOk mj := hmj ▸ feedT_ok OK0.out _
      obtain ⟨z, hz⟩ : ∃ z : ByteArray, z = ⟨(feedT mj p).1.toArray⟩ := ⟨_, rfl⟩
      obtain ⟨mj', hmj'⟩ : ∃ m, m = (feedT mj p).2 := ⟨_, rfl⟩
      have hfa := feedT_app m0 (parts.take j).flatten p
      rw [← htf, ← hmj] at hfa
      have l1 := feedT_len m0 OK0.out (parts.take j).flatten
      have l2 := feedT_len mj okj p
      obtain ⟨xx, hxx⟩ : ∃ xx : ByteArray, xx = ⟨(feedT m0 (parts.take j).flatten).1.toArray⟩ := ⟨_, rfl⟩
      have hxs : xx.size ≤ 100000 := by rw [hxx]; show (feedT m0 (parts.take j).flatten).1.toArray.size ≤ _; rw [List.size_toArray]; omega
      have hzs : z.size ≤ 100000 := by rw [hz]; show (feedT mj p).1.toArray.size ≤ _; rw [List.size_toArray]; omega
      have hnew : (⟨(feedT m0 (parts.take (j + 1)).flatten).1.toArray⟩ : ByteArray) = xx ++ z := by rw [hfa, hxx, hz]; apply ByteArray.ext; simp
      have hm2 : (feedT m0 (parts.take (j + 1)).flatten).2 = mj' := by rw [hfa, hmj']
      rw [← hxx]
      rw [← hmj] at ht
      have hrow := (TmAt.rest ht).rowOf (v := .slice (some ⟨g, 0, none⟩) parts.length pc) (t := 9) (s := 1) (n := parts.length) (xs := parts.map strW) (by simp)
      have hxj := K25.own_at hrow (j := j) (u := .string ⟨p.toArray⟩) (by rw [List.getElem?_map, hx]; rfl)
      obtain ⟨-, hqr, hgr, -, -⟩ := K30.row_cells hrow
      have hqj := hqr j
      have hpl : p.length ≤ 1500 := by omega
      have HT := Lib.hid ht
      have OKJ := Lib.hid okj
      have HZ := Lib.hid hz
      have HMJ := Lib.hid hmj'
      have HNEW := Lib.hid hnew
      have HM2 := Lib.hid hm2
      clear ht okj hz hmj' hnew hm2 hfa l1 l2 hxx hmj htf hle hrow hqr hx
      go_wp2_with (first | (go_at_call 24; refine (feed_y a mj _ [p] (.blk wr.heap.size [.string ⟨p.toArray⟩] 9 :: (.row (.slice (some ⟨g, 0, none⟩) parts.length pc) 9 1 parts.length (parts.map strW) :: (LC ++ (LB ++ [.low W.heap.size W])))) _ p z mj' (tm_alloc HT.out) OKJ.out (rd1 p) (by simp) (by first | omega | (simp; omega)) (by simp) HZ.out HMJ.out).mono ?_; rintro e w6 ⟨rfl, ht⟩; have HT2 := Lib.hid (tm_sub ht (List.sublist_cons_self _ _)); clear ht))
      go_roundw
      case rel => exact ⟨⟨j + 1, by omega, by go_num, by rw [HNEW.out], by rw [HM2.out]; exact HT2.out⟩⟩
      case measure => simp [intOf]; omega
    · obtain rfl : j = parts.length := by omega
      rw [List.take_length, HFQ.out] at ht
      obtain ⟨mf, hmf⟩ : ∃ m, m = (feedT m0 q).2 := ⟨_, rfl⟩
      obtain ⟨X, hX⟩ : ∃ x : ByteArray, x = ⟨(feedT m0 q).1.toArray⟩ := ⟨_, rfl⟩
      rw [List.take_length, HFQ.out, ← hX]
      rw [← hmf] at ht
      obtain ⟨la, hla, hs1⟩ := tm_open ht
      have htb : TmAt b m0 (.row (.slice (some ⟨g, 0, none⟩) parts.length pc) 9 1 parts.length (parts.map strW) :: (LC ++ (la ++ [.low W.heap.size W]))) wr := tm_shut HLB.out (hs1.perm (permAB _ la LB LC _))
      have HTB := Lib.hid htb
      have HMF := Lib.hid hmf
      have HX := Lib.hid hX
      have HLA2 := Lib.hid hla
      clear ht hs1 hla htb hmf hX
      go_wp2_with (first | (go_at_call 24; refine (feed_y b m0 _ parts (.row (.slice (some ⟨g, 0, none⟩) parts.length pc) 9 1 parts.length (parts.map strW) :: (LC ++ (la ++ [.low W.heap.size W]))) _ q X mf HTB.out OK0.out (fun w' hw' => rd_parts (hw'.rowOf (by simp))) HFQ.out (by omega) (by omega) HX.out HMF.out).mono ?_; rintro e w7 ⟨rfl, ht⟩; have HTB2 := Lib.hid ht; clear ht))
      obtain ⟨lb, hlb, hs2⟩ := tm_open HTB2.out
      have htc : TmAt c m0 (.row (.slice (some ⟨g, 0, none⟩) parts.length pc) 9 1 parts.length (parts.map strW) :: (lb ++ (la ++ [.low W.heap.size W]))) w7 := tm_shut HLC.out (hs2.perm (permBC _ la lb LC _))
      have HTC := Lib.hid htc
      have HLB2 := Lib.hid hlb
      clear hs2 hlb htc HTB HTB2
      go_loopw [14, 17] (fun xv iv wr => C3 c m0 q (.row (.slice (some ⟨g, 0, none⟩) parts.length pc) 9 1 parts.length (parts.map strW) :: (lb ++ (la ++ [.low W.heap.size W]))) xv iv wr) (fun _ i _ => q.length - (intOf i).toNat)
      case atStart => exact ⟨⟨0, Nat.zero_le _, rfl, rfl, HTC.out⟩⟩
      case round =>
        clear HTC
        obtain ⟨⟨j, hj, rfl, rfl, ht⟩⟩ := hrel
        by_cases hlt : j < q.length
        · obtain ⟨ch, hx⟩ : ∃ ch, q[j]? = some ch := ⟨_, List.getElem?_eq_getElem hlt⟩
          obtain ⟨p, hp⟩ : ∃ p : List UInt8, p = [ch] := ⟨_, rfl⟩
          have htf : q.take (j + 1) = q.take j ++ p := by rw [List.take_add_one, hx, hp]; rfl
          obtain ⟨mj, hmj⟩ : ∃ m, m = (feedT m0 (q.take j)).2 := ⟨_, rfl⟩
          have okj : TmOk mj := hmj ▸ feedT_ok OK0.out _
          obtain ⟨z, hz⟩ : ∃ z : ByteArray, z = ⟨(feedT mj p).1.toArray⟩ := ⟨_, rfl⟩
          obtain ⟨mj', hmj'⟩ : ∃ m, m = (feedT mj p).2 := ⟨_, rfl⟩
          have hfa := feedT_app m0 (q.take j) p
          rw [← htf, ← hmj] at hfa
          have l1 := feedT_len m0 OK0.out (q.take j)
          have l2 := feedT_len mj okj p
          have l3 : (q.take j).length ≤ q.length := by rw [List.length_take]; omega
          have hpl : p.length = 1 := by rw [hp]; rfl
          obtain ⟨xx, hxx⟩ : ∃ xx : ByteArray, xx = ⟨(feedT m0 (q.take j)).1.toArray⟩ := ⟨_, rfl⟩
          have hxs : xx.size ≤ 100000 := by rw [hxx]; show (feedT m0 (q.take j)).1.toArray.size ≤ _; rw [List.size_toArray]; omega
          have hzs : z.size ≤ 100000 := by rw [hz]; show (feedT mj p).1.toArray.size ≤ _; rw [List.size_toArray]; omega
          have hnew : (⟨(feedT m0 (q.take (j + 1))).1.toArray⟩ : ByteArray) = xx ++ z := by rw [hfa, hxx, hz]; apply ByteArray.ext; simp
          have hm2 : (feedT m0 (q.take (j + 1))).2 = mj' := by rw [hfa, hmj']
          have hjs : j < s.size := by omega
          obtain ⟨eb, heb⟩ : ∃ eb, s.extract j (j + 1) = eb := ⟨_, rfl⟩
          have hep : eb = ⟨p.toArray⟩ := by rw [← heb, hp]; exact ext_one s q j ch HQ.out hx
          rw [← hxx]
          rw [← hmj] at ht
          have HT := Lib.hid ht
          have OKJ := Lib.hid okj
          have HZ := Lib.hid hz
          have HMJ := Lib.hid hmj'
          have HNEW := Lib.hid hnew
          have HM2 := Lib.hid hm2
          have HEP := Lib.hid hep
          clear ht okj hz hmj' hnew hm2 hfa l1 l2 l3 hxx hmj htf hx hp hep
          go_wp2_with (first | (go_at_call 24; refine (feed_y c mj _ [p] (.blk wr.heap.size [.string eb] 9 :: (.row (.slice (some ⟨g, 0, none⟩) parts.length pc) 9 1 parts.length (parts.map strW) :: (lb ++ (la ++ [.low W.heap.size W])))) _ p z mj' (tm_alloc HT.out) OKJ.out (rde eb p HEP.out) (by simp) (by first | omega | (simp; omega)) (by simp) HZ.out HMJ.out).mono ?_; rintro e w6 ⟨rfl, ht⟩; have HT2 := Lib.hid (tm_sub ht (List.sublist_cons_self _ _)); clear ht))
          go_roundw
          case rel => exact ⟨⟨j + 1, by omega, by go_num, by rw [HNEW.out], by rw [HM2.out]; exact HT2.out⟩⟩
          case measure => simp [intOf]; omega
        · obtain rfl : j = q.length := by omega
          rw [List.take_length, ← HMF.out] at ht
          rw [List.take_length, ← HX.out]
          have OKF := Lib.hid (show TmOk mf from HMF.out ▸ feedT_ok OK0.out q)
          have hpos := (GrOk.pos OKF.out.t.cg).2
          obtain ⟨lc, hlc, hs3⟩ := tm_open ht
          have HLC2 := Lib.hid hlc
          have HS5 := Lib.hid hs3
          clear ht hlc hs3
          go_wp2_with (first | (go_at_call 34; refine (screen_m a mf (lc ++ (.row (.slice (some ⟨g, 0, none⟩) parts.length pc) 9 1 parts.length (parts.map strW) :: (lb ++ [.low W.heap.size W]))) _ (tm_shut HLA2.out (HS5.out.perm (permS1 _ lc lb la _))) OKF.out).mono ?_; clear HS5; rintro e w8 ⟨⟨k1, c1, rfl, ht⟩⟩; obtain ⟨la1, hl', hs⟩ := tm_open ht; have HLA3 := Lib.hid hl'; have HS6 := Lib.hid hs; clear ht hl' hs) | (go_at_call 34; refine (screen_m b mf (la1 ++ (.row (.slice (some ⟨k1, 0, none⟩) mf.t.cg.c.length c1) 58 6 mf.t.cg.c.length (mf.t.cg.c.flatMap ceV) :: (lc ++ [.row (.slice (some ⟨g, 0, none⟩) parts.length pc) 9 1 parts.length (parts.map strW), .low W.heap.size W]))) _ (tm_shut HLB2.out (HS6.out.perm (permSB _ _ la1 lc lb _))) OKF.out).mono ?_; clear HS6; rintro e w8 ⟨⟨k2, c2, rfl, ht⟩⟩; obtain ⟨lb1, hl', hs⟩ := tm_open ht; have HLB3 := Lib.hid hl'; have HS7 := Lib.hid hs; clear ht hl' hs) | (go_at_call 33; refine (same_eq k1 c1 k2 c2 mf.t.cg.w mf.t.cg.h mf.t.m.cu.x mf.t.m.cu.y mf.t.m.hidden mf.t.cg.c _ _ (HS7.out.perm (permK _ _ _ _ _)) (by omega)).mono ?_; clear HS7; rintro e w9 ⟨rfl, hs⟩; have HS8 := Lib.hid hs.tail.tail; clear hs) | (go_at_call 34; refine (screen_m a mf (lb1 ++ (lc ++ [.row (.slice (some ⟨g, 0, none⟩) parts.length pc) 9 1 parts.length (parts.map strW), .low W.heap.size W])) _ (tm_shut HLA3.out (HS8.out.perm (List.perm_append_comm_assoc lb1 la1 _))) OKF.out).mono ?_; clear HS8; rintro e w8 ⟨⟨k3, c3, rfl, ht⟩⟩; obtain ⟨la2, hl', hs⟩ := tm_open ht; have HLA4 := Lib.hid hl'; have HS9 := Lib.hid hs; clear ht hl' hs) | (go_at_call 34; refine (screen_m c mf (la2 ++ (.row (.slice (some ⟨k3, 0, none⟩) mf.t.cg.c.length c3) 58 6 mf.t.cg.c.length (mf.t.cg.c.flatMap ceV) :: (lb1 ++ [.row (.slice (some ⟨g, 0, none⟩) parts.length pc) 9 1 parts.length (parts.map strW), .low W.heap.size W]))) _ (tm_shut HLC2.out (HS9.out.perm (permSC _ la2 lb1 lc _))) OKF.out).mono ?_; clear HS9; rintro e w8 ⟨⟨k4, c4, rfl, ht⟩⟩; obtain ⟨lc1, hl', hs⟩ := tm_open ht; have HLC3 := Lib.hid hl'; have HS10 := Lib.hid hs; clear ht hl' hs) | (go_at_call 33; refine (same_eq k3 c3 k4 c4 mf.t.cg.w mf.t.cg.h mf.t.m.cu.x mf.t.m.cu.y mf.t.m.hidden mf.t.cg.c _ _ (HS10.out.perm (permK _ _ _ _ _)) (by omega)).mono ?_; clear HS10; rintro e w9 ⟨rfl, hs⟩; have HS11 := Lib.hid hs; clear hs))
          go_ret
          exact ⟨rfl, HS11.out.lowOf (by simp)⟩
theorem law_any (x y : Int) (s : ByteArray) (ao : Option Addr) (sb off n cap : Nat) (L : Nat → Int) (W : World) (hao : ao = some ⟨sb, off, none⟩ ∨ n = 0) (hn : n ≤ 9223372036854775807) (hs : s.size ≤ 9223372036854775807) (hL : ∀ k, k < n → -9223372036854775808 ≤ L k ∧ L k ≤ 9223372036854775807)
    (hc : ∀ k, k < n → W.cell? ⟨sb, off + k, none⟩ = some (.int .i64 (L k))) (hsb : 0 < n → sb < W.heap.size) : Calls Tryz.prog 7 #[.int .i64 x, .int .i64 y, .string s, .slice ao n cap] W fun e w' => e = .returned (.bool true) ∧ Below W.heap.size W w' := by
  by_cases h : 1500 < s.size ∨ (s.size ≤ 1500 ∧ 40 < n)
  · exact cuts_long x y s ao n cap W h hn hs
  · exact cuts_any x y s ao sb off n cap L W hao (by omega) (by omega) hL hc hsb
end Go.Proofs.YtnjgnbdebkckfaaGreatDoor.X3
