/- EmuResets: what the law's function does, and that its answer is true. Conditions: none. -/
import Derived.Test.YtnjgnbdebkckfaaGreatDoorA2
import Derived.Test.YtnjgnbdebkckfaaGreatDoorA32
import Derived.Lib.Hide
import Derived.Test.YtnjgnbdebkckfaaGreatDoorA34
import Derived.Test.YtnjgnbdebkckfaaGreatDoorA33
import Derived.Test.YtnjgnbdebkckfaaGreatDoorA21
import Derived.Test.YtnjgnbdebkckfaaGreatDoorA30
import Derived.Test.YtnjgnbdebkckfaaGreatDoorA11
set_option linter.unusedVariables false
set_option linter.unusedSimpArgs false
set_option linter.unnecessarySimpa false
namespace Go.Proofs.YtnjgnbdebkckfaaGreatDoor.X1
set_option maxRecDepth 100000
open Go.RowKit K1 K3 K5 K11 K12 K14 K20 K21 K22 K25 K30 K31 M0 C1 G1 G2 G3 G4 G5 G6 G7 G8 G9 G10 E3 E12 E14 E25 ME MF S3 S4 T1 T2 T3 T4 T5 T6 T7 T8 T9 T10 T11 T12 T13 T14 T15 T16 E2 E15 K7 K9 T17 T18 T19 T20 T21 T22 T23 T24 U1 U3 MP
attribute [local go_sem] cell_pastA froz_pastA
theorem enc_at {L : List Ce} {i : Nat} {c : Ce} (hx : L[i]? = some c) (k : Nat) (hk : k < 6) : (L.flatMap ceV)[i * 6 + k]? = (ceV c)[k]? := by
  induction L generalizing i with
  | nil => simp at hx
  | cons d L ih =>
    have hd : (ceV d).length = 6 := rfl
    rw [List.flatMap_cons]
    cases i with
    | zero =>
      simp only [List.getElem?_cons_zero, Option.some.injEq] at hx
      subst hx
      rw [Nat.zero_mul, Nat.zero_add, List.getElem?_append_left (by rw [hd]; exact hk)]
    | succ i =>
      rw [List.getElem?_append_right (by rw [hd]; omega), hd, show (i + 1) * 6 + k - 6 = i * 6 + k by omega]
      exact ih (by simpa using hx)
theorem cell_row {w : World} {g c : Nat} {L : List Ce} {i : Nat} {x : Ce} (h : w.ownsRow 0 58 6 (.slice (some ⟨g, 0, none⟩) L.length c) L.length (L.flatMap ceV)) (hx : L[i]? = some x) (k : Nat) (hk : k < 6) (u : Value) (hu : (ceV x)[k]? = some u) : w.cell? ⟨g, i * 6 + k, none⟩ = some u :=
  K25.own_at h (by rw [enc_at hx k hk]; exact hu)
structure SmI (ga ca gb cb : Nat) (sw sh sx sy : Int) (hid : Bool) (L : List Ce) (w : World) (F : List Res) (i : Value) (wr : World) : Prop where
  out : ∃ j : Nat, j ≤ L.length ∧ i = .int .i64 j ∧ Sep wr (.blk w.heap.size [.int .i64 sw, .int .i64 sh, .slice (some ⟨ga, 0, none⟩) L.length ca, .int .i64 sx, .int .i64 sy, .bool hid] 47 :: .blk (w.heap.size + 1) [.int .i64 sw, .int .i64 sh, .slice (some ⟨gb, 0, none⟩) L.length cb, .int .i64 sx, .int .i64 sy, .bool hid] 47 :: .row (.slice (some ⟨ga, 0, none⟩) L.length ca) 58 6 L.length (L.flatMap ceV) :: .row (.slice (some ⟨gb, 0, none⟩) L.length cb) 58 6 L.length (L.flatMap ceV) :: F)
set_option maxHeartbeats 4000000 in
theorem same_eq (ga ca gb cb : Nat) (sw sh sx sy : Int) (hid : Bool) (L : List Ce) (F : List Res) (w : World) (hs : Sep w (.row (.slice (some ⟨ga, 0, none⟩) L.length ca) 58 6 L.length (L.flatMap ceV) :: .row (.slice (some ⟨gb, 0, none⟩) L.length cb) 58 6 L.length (L.flatMap ceV) :: F)) (hl : L.length ≤ 100000) :
    Calls Tryz.prog 33 #[.agg #[.int .i64 sw, .int .i64 sh, .slice (some ⟨ga, 0, none⟩) L.length ca, .int .i64 sx, .int .i64 sy, .bool hid], .agg #[.int .i64 sw, .int .i64 sh, .slice (some ⟨gb, 0, none⟩) L.length cb, .int .i64 sx, .int .i64 sy, .bool hid]] w fun e w' => e = .returned (.bool true) ∧ Sep w' (.row (.slice (some ⟨ga, 0, none⟩) L.length ca) 58 6 L.length (L.flatMap ceV) :: .row (.slice (some ⟨gb, 0, none⟩) L.length cb) 58 6 L.length (L.flatMap ceV) :: F) := by
  have hs0 : Sep ((w.alloc (.cells #[.int .i64 sw, .int .i64 sh, .slice (some ⟨ga, 0, none⟩) L.length ca, .int .i64 sx, .int .i64 sy, .bool hid] 47)).alloc (.cells #[.int .i64 sw, .int .i64 sh, .slice (some ⟨gb, 0, none⟩) L.length cb, .int .i64 sx, .int .i64 sy, .bool hid] 47)) (.blk w.heap.size [.int .i64 sw, .int .i64 sh, .slice (some ⟨ga, 0, none⟩) L.length ca, .int .i64 sx, .int .i64 sy, .bool hid] 47 :: .blk (w.heap.size + 1) [.int .i64 sw, .int .i64 sh, .slice (some ⟨gb, 0, none⟩) L.length cb, .int .i64 sx, .int .i64 sy, .bool hid] 47 :: .row (.slice (some ⟨ga, 0, none⟩) L.length ca) 58 6 L.length (L.flatMap ceV) :: .row (.slice (some ⟨gb, 0, none⟩) L.length cb) 58 6 L.length (L.flatMap ceV) :: F) := by
    have h1 := (hs.allocT (cs := #[.int .i64 sw, .int .i64 sh, .slice (some ⟨ga, 0, none⟩) L.length ca, .int .i64 sx, .int .i64 sy, .bool hid]) (t := 47)).allocT (cs := #[.int .i64 sw, .int .i64 sh, .slice (some ⟨gb, 0, none⟩) L.length cb, .int .i64 sx, .int .i64 sy, .bool hid]) (t := 47)
    rw [World.size_alloc] at h1
    exact h1.perm (List.Perm.swap _ _ _)
  have HS0 := Lib.hid hs0
  clear hs hs0
  go_enter Tryz.func33, Tryz.ntmps33
  go_wp2_with fail
  go_loopw [5] (fun i wr => SmI ga ca gb cb sw sh sx sy hid L w F i wr) (fun i _ => L.length - (intOf i).toNat)
  case atStart => exact ⟨⟨0, Nat.zero_le _, rfl, HS0.out⟩⟩
  case round =>
    clear HS0
    obtain ⟨⟨j, hj, rfl, hs⟩⟩ := hrel
    by_cases hlt : j < L.length
    · obtain ⟨c, hx⟩ : ∃ c, L[j]? = some c := ⟨_, List.getElem?_eq_getElem hlt⟩
      have HX := Lib.hid hx
      obtain ⟨hga, hgb⟩ := And.intro (K30.row_cells (hs.hereRow (v := .slice (some ⟨ga, 0, none⟩) L.length ca) (t := 58) (s := 6) (n := L.length) (xs := L.flatMap ceV) K32.rm)).2.2.2.1 (K30.row_cells (hs.hereRow (v := .slice (some ⟨gb, 0, none⟩) L.length cb) (t := 58) (s := 6) (n := L.length) (xs := L.flatMap ceV) K32.rm)).2.2.2.1
      clear hx
      (try clear hcA hzA hlA); (try clear hcB hzB hlB); obtain ⟨hcA, hzA, hlA⟩ := hs.here (b := w.heap.size) K32.rm; obtain ⟨hcB, hzB, hlB⟩ := hs.here (b := (w.heap.size + 1)) K32.rm; (try clear hcA0 hcA1 hcA2 hcA3 hcA4 hcA5); have hcA0 := hcA 0; have hcA1 := hcA 1; have hcA2 := hcA 2; have hcA3 := hcA 3; have hcA4 := hcA 4; have hcA5 := hcA 5; clear hcA; simp only [List.getElem?_cons_zero, List.getElem?_cons_succ] at hcA0 hcA1 hcA2 hcA3 hcA4 hcA5; (try clear hcB0 hcB1 hcB2 hcB3 hcB4 hcB5); have hcB0 := hcB 0; have hcB1 := hcB 1; have hcB2 := hcB 2; have hcB3 := hcB 3; have hcB4 := hcB 4; have hcB5 := hcB 5; clear hcB; simp only [List.getElem?_cons_zero, List.getElem?_cons_succ] at hcB0 hcB1 hcB2 hcB3 hcB4 hcB5
      have HS := Lib.hid hs
      clear hs
      go_wp2_with (first | (refine K32.atW 6 (fun xw hs => ?_); (try simp only [World.size_alloc, World.size_setCell] at hs); (try clear hcA hzA hlA); (try clear hcB hzB hlB); obtain ⟨hcA, hzA, hlA⟩ := hs.here (b := w.heap.size) K32.rm; obtain ⟨hcB, hzB, hlB⟩ := hs.here (b := (w.heap.size + 1)) K32.rm; (try clear hcA0 hcA1 hcA2 hcA3 hcA4 hcA5); have hcA0 := hcA 0; have hcA1 := hcA 1; have hcA2 := hcA 2; have hcA3 := hcA 3; have hcA4 := hcA 4; have hcA5 := hcA 5; clear hcA; simp only [List.getElem?_cons_zero, List.getElem?_cons_succ] at hcA0 hcA1 hcA2 hcA3 hcA4 hcA5; (try clear hcB0 hcB1 hcB2 hcB3 hcB4 hcB5); have hcB0 := hcB 0; have hcB1 := hcB 1; have hcB2 := hcB 2; have hcB3 := hcB 3; have hcB4 := hcB 4; have hcB5 := hcB 5; clear hcB; simp only [List.getElem?_cons_zero, List.getElem?_cons_succ] at hcB0 hcB1 hcB2 hcB3 hcB4 hcB5; (try clear hp0 hq0 hp1 hq1 hp2 hq2 hp3 hq3 hp4 hq4 hp5 hq5); have hp0 := cell_row (hs.hereRow (v := .slice (some ⟨ga, 0, none⟩) L.length ca) (t := 58) (s := 6) (n := L.length) (xs := L.flatMap ceV) K32.rm) HX.out 0 (by decide) _ rfl; have hq0 := cell_row (hs.hereRow (v := .slice (some ⟨gb, 0, none⟩) L.length cb) (t := 58) (s := 6) (n := L.length) (xs := L.flatMap ceV) K32.rm) HX.out 0 (by decide) _ rfl; have hp1 := cell_row (hs.hereRow (v := .slice (some ⟨ga, 0, none⟩) L.length ca) (t := 58) (s := 6) (n := L.length) (xs := L.flatMap ceV) K32.rm) HX.out 1 (by decide) _ rfl; have hq1 := cell_row (hs.hereRow (v := .slice (some ⟨gb, 0, none⟩) L.length cb) (t := 58) (s := 6) (n := L.length) (xs := L.flatMap ceV) K32.rm) HX.out 1 (by decide) _ rfl; have hp2 := cell_row (hs.hereRow (v := .slice (some ⟨ga, 0, none⟩) L.length ca) (t := 58) (s := 6) (n := L.length) (xs := L.flatMap ceV) K32.rm) HX.out 2 (by decide) _ rfl; have hq2 := cell_row (hs.hereRow (v := .slice (some ⟨gb, 0, none⟩) L.length cb) (t := 58) (s := 6) (n := L.length) (xs := L.flatMap ceV) K32.rm) HX.out 2 (by decide) _ rfl; have hp3 := cell_row (hs.hereRow (v := .slice (some ⟨ga, 0, none⟩) L.length ca) (t := 58) (s := 6) (n := L.length) (xs := L.flatMap ceV) K32.rm) HX.out 3 (by decide) _ rfl; have hq3 := cell_row (hs.hereRow (v := .slice (some ⟨gb, 0, none⟩) L.length cb) (t := 58) (s := 6) (n := L.length) (xs := L.flatMap ceV) K32.rm) HX.out 3 (by decide) _ rfl; have hp4 := cell_row (hs.hereRow (v := .slice (some ⟨ga, 0, none⟩) L.length ca) (t := 58) (s := 6) (n := L.length) (xs := L.flatMap ceV) K32.rm) HX.out 4 (by decide) _ rfl; have hq4 := cell_row (hs.hereRow (v := .slice (some ⟨gb, 0, none⟩) L.length cb) (t := 58) (s := 6) (n := L.length) (xs := L.flatMap ceV) K32.rm) HX.out 4 (by decide) _ rfl; have hp5 := cell_row (hs.hereRow (v := .slice (some ⟨ga, 0, none⟩) L.length ca) (t := 58) (s := 6) (n := L.length) (xs := L.flatMap ceV) K32.rm) HX.out 5 (by decide) _ rfl; have hq5 := cell_row (hs.hereRow (v := .slice (some ⟨gb, 0, none⟩) L.length cb) (t := 58) (s := 6) (n := L.length) (xs := L.flatMap ceV) K32.rm) HX.out 5 (by decide) _ rfl; rw [Nat.add_zero] at hp0 hq0; (try clear hgA hgB); have hgA := (K30.row_cells (hs.hereRow (v := .slice (some ⟨ga, 0, none⟩) L.length ca) (t := 58) (s := 6) (n := L.length) (xs := L.flatMap ceV) K32.rm)).2.2.1; have hgB := (K30.row_cells (hs.hereRow (v := .slice (some ⟨gb, 0, none⟩) L.length cb) (t := 58) (s := 6) (n := L.length) (xs := L.flatMap ceV) K32.rm)).2.2.1; have HS := Lib.hid hs; clear hs; refine K32.reg0 (w := xw) [] [] 11 ?_; simp only [numbered, List.take_succ_cons, List.take_zero, List.drop_succ_cons, List.drop_zero, List.take_nil, List.drop_nil, Nat.reduceAdd]; (iterate 11 (refine K32.zd ?_; (try go_simp))); refine wz_nil ?_; intro wq hbq hLq; clear hLq ; have hcwq := cellA hbq; have hfwq := frozA hbq; have hzwq := hbq.size; (try simp at hzwq); have hs := HS.out.below hbq; (try clear hcA hzA hlA); (try clear hcB hzB hlB); obtain ⟨hcA, hzA, hlA⟩ := hs.here (b := w.heap.size) K32.rm; obtain ⟨hcB, hzB, hlB⟩ := hs.here (b := (w.heap.size + 1)) K32.rm; (try clear hcA0 hcA1 hcA2 hcA3 hcA4 hcA5); have hcA0 := hcA 0; have hcA1 := hcA 1; have hcA2 := hcA 2; have hcA3 := hcA 3; have hcA4 := hcA 4; have hcA5 := hcA 5; clear hcA; simp only [List.getElem?_cons_zero, List.getElem?_cons_succ] at hcA0 hcA1 hcA2 hcA3 hcA4 hcA5; (try clear hcB0 hcB1 hcB2 hcB3 hcB4 hcB5); have hcB0 := hcB 0; have hcB1 := hcB 1; have hcB2 := hcB 2; have hcB3 := hcB 3; have hcB4 := hcB 4; have hcB5 := hcB 5; clear hcB; simp only [List.getElem?_cons_zero, List.getElem?_cons_succ] at hcB0 hcB1 hcB2 hcB3 hcB4 hcB5; (try clear hp0 hq0 hp1 hq1 hp2 hq2 hp3 hq3 hp4 hq4 hp5 hq5); have hp0 := cell_row (hs.hereRow (v := .slice (some ⟨ga, 0, none⟩) L.length ca) (t := 58) (s := 6) (n := L.length) (xs := L.flatMap ceV) K32.rm) HX.out 0 (by decide) _ rfl; have hq0 := cell_row (hs.hereRow (v := .slice (some ⟨gb, 0, none⟩) L.length cb) (t := 58) (s := 6) (n := L.length) (xs := L.flatMap ceV) K32.rm) HX.out 0 (by decide) _ rfl; have hp1 := cell_row (hs.hereRow (v := .slice (some ⟨ga, 0, none⟩) L.length ca) (t := 58) (s := 6) (n := L.length) (xs := L.flatMap ceV) K32.rm) HX.out 1 (by decide) _ rfl; have hq1 := cell_row (hs.hereRow (v := .slice (some ⟨gb, 0, none⟩) L.length cb) (t := 58) (s := 6) (n := L.length) (xs := L.flatMap ceV) K32.rm) HX.out 1 (by decide) _ rfl; have hp2 := cell_row (hs.hereRow (v := .slice (some ⟨ga, 0, none⟩) L.length ca) (t := 58) (s := 6) (n := L.length) (xs := L.flatMap ceV) K32.rm) HX.out 2 (by decide) _ rfl; have hq2 := cell_row (hs.hereRow (v := .slice (some ⟨gb, 0, none⟩) L.length cb) (t := 58) (s := 6) (n := L.length) (xs := L.flatMap ceV) K32.rm) HX.out 2 (by decide) _ rfl; have hp3 := cell_row (hs.hereRow (v := .slice (some ⟨ga, 0, none⟩) L.length ca) (t := 58) (s := 6) (n := L.length) (xs := L.flatMap ceV) K32.rm) HX.out 3 (by decide) _ rfl; have hq3 := cell_row (hs.hereRow (v := .slice (some ⟨gb, 0, none⟩) L.length cb) (t := 58) (s := 6) (n := L.length) (xs := L.flatMap ceV) K32.rm) HX.out 3 (by decide) _ rfl; have hp4 := cell_row (hs.hereRow (v := .slice (some ⟨ga, 0, none⟩) L.length ca) (t := 58) (s := 6) (n := L.length) (xs := L.flatMap ceV) K32.rm) HX.out 4 (by decide) _ rfl; have hq4 := cell_row (hs.hereRow (v := .slice (some ⟨gb, 0, none⟩) L.length cb) (t := 58) (s := 6) (n := L.length) (xs := L.flatMap ceV) K32.rm) HX.out 4 (by decide) _ rfl; have hp5 := cell_row (hs.hereRow (v := .slice (some ⟨ga, 0, none⟩) L.length ca) (t := 58) (s := 6) (n := L.length) (xs := L.flatMap ceV) K32.rm) HX.out 5 (by decide) _ rfl; have hq5 := cell_row (hs.hereRow (v := .slice (some ⟨gb, 0, none⟩) L.length cb) (t := 58) (s := 6) (n := L.length) (xs := L.flatMap ceV) K32.rm) HX.out 5 (by decide) _ rfl; rw [Nat.add_zero] at hp0 hq0; (try clear hgA hgB); have hgA := (K30.row_cells (hs.hereRow (v := .slice (some ⟨ga, 0, none⟩) L.length ca) (t := 58) (s := 6) (n := L.length) (xs := L.flatMap ceV) K32.rm)).2.2.1; have hgB := (K30.row_cells (hs.hereRow (v := .slice (some ⟨gb, 0, none⟩) L.length cb) (t := 58) (s := 6) (n := L.length) (xs := L.flatMap ceV) K32.rm)).2.2.1; have HS := Lib.hid hs; clear hs hcwq hfwq hzwq hbq))
      go_roundw
      case rel => exact ⟨⟨j + 1, by omega, by go_num, HS.out⟩⟩
      case measure => simp [intOf]; omega
    · obtain rfl : j = L.length := by omega
      (try clear hcA hzA hlA); (try clear hcB hzB hlB); obtain ⟨hcA, hzA, hlA⟩ := hs.here (b := w.heap.size) K32.rm; obtain ⟨hcB, hzB, hlB⟩ := hs.here (b := (w.heap.size + 1)) K32.rm; (try clear hcA0 hcA1 hcA2 hcA3 hcA4 hcA5); have hcA0 := hcA 0; have hcA1 := hcA 1; have hcA2 := hcA 2; have hcA3 := hcA 3; have hcA4 := hcA 4; have hcA5 := hcA 5; clear hcA; simp only [List.getElem?_cons_zero, List.getElem?_cons_succ] at hcA0 hcA1 hcA2 hcA3 hcA4 hcA5; (try clear hcB0 hcB1 hcB2 hcB3 hcB4 hcB5); have hcB0 := hcB 0; have hcB1 := hcB 1; have hcB2 := hcB 2; have hcB3 := hcB 3; have hcB4 := hcB 4; have hcB5 := hcB 5; clear hcB; simp only [List.getElem?_cons_zero, List.getElem?_cons_succ] at hcB0 hcB1 hcB2 hcB3 hcB4 hcB5
      have HS := Lib.hid hs
      clear hs
      go_wp2_with fail
      go_ret
      exact ⟨rfl, HS.out.tail.tail⟩
end Go.Proofs.YtnjgnbdebkckfaaGreatDoor.X1
namespace Go.Proofs.YtnjgnbdebkckfaaGreatDoor.X4
set_option maxRecDepth 100000
open Go.RowKit K1 K3 K5 K11 K12 K14 K20 K21 K22 K25 K30 K31 M0 M0 ME MF T21 T22 T23 T24 MP Y0 Y1 Y2
attribute [local go_sem] cell_pastA froz_pastA
theorem feedT_of {m : Tm} {q : List UInt8} {A : List Ac} {p : Pg} (h : feedP m.p q = (A, p)) : feedT m q = ((actsE m.t A).1, ⟨(actsE m.t A).2, p⟩) := by
  unfold feedT
  rw [h]
def goTo (t : Te) (x y : Int) : Te := ((t.setY y).setX x).setLate false
/-- the cursor is sent to a place, origin off -/
theorem act_goto (t : Te) (y x : Int) (ho : t.m.cu.origin = false) : actE1 t ⟨4, 0, 72, 0, [y, x], [], []⟩ = goTo t (min (max x 1 - 1) (t.cg.w - 1)) (min (max y 1 - 1) (t.cg.h - 1)) := by
  show (columnE (rowE t (max y 1 - 1)) (max x 1 - 1)).setLate false = _
  unfold rowE
  rw [if_neg (by rw [ho]; decide)]
  rfl
theorem acts2 (t : Te) (a b : Ac) : actsE t [a, b] = (actR t a ++ (actR (actE1 t a) b ++ []), actE1 (actE1 t a) b) := rfl
theorem act_6 (t : Te) : actE1 t ⟨4, 0, 110, 0, [6], [], []⟩ = t := by simp [actE1, csiE, moveE, editE, stateE]
def Q1 (y x : Int) : List UInt8 := [27, 91] ++ (digF y ++ ([59] ++ (digF x ++ [72, 27, 91, 54, 110])))
def Q2 : List UInt8 := [27, 91, 53, 110, 27, 91, 99, 27, 91, 48, 99, 27, 91, 49, 99]
theorem p_one {p : Pg} (g : Gd p) (y x : Int) (hy : 0 ≤ y) (hy2 : y ≤ 9999) (hx : 0 ≤ x) (hx2 : x ≤ 9999) : feedP p (Q1 y x) = ([⟨4, 0, 72, 0, [y, x], [], []⟩, ⟨4, 0, 110, 0, [6], [], []⟩], G0) := by
  obtain ⟨n, rfl⟩ := Int.eq_ofNat_of_zero_le hy
  obtain ⟨k, rfl⟩ := Int.eq_ofNat_of_zero_le hx
  have e : Q1 n k = ([27, 91] ++ (digF n ++ ([59] ++ (digF k ++ [72])))) ++ [27, 91, 54, 110] := by simp [Q1]
  rw [e]
  exact fd_app p _ _ (csi2 g n k (by omega) (by omega) 72 (by decide) (by decide)) (by kernel_rfl)
theorem report_6 (t : Te) (ho : t.m.cu.origin = false) : actR t ⟨4, 0, 110, 0, [6], [], []⟩ = [27, 91] ++ digF (t.m.cu.y + 1) ++ [59] ++ digF (t.m.cu.x + 1) ++ [82] := by
  show [27, 91] ++ digF (repY t + 1) ++ [59] ++ digF (t.m.cu.x + 1) ++ [82] = _
  unfold repY
  rw [if_neg (by rw [ho]; decide)]
theorem one (w h y x : Int) (hy : 0 ≤ y) (hy2 : y ≤ 9999) (hx : 0 ≤ x) (hx2 : x ≤ 9999) :
    feedT (newT w h) (Q1 y x) = ([27, 91] ++ digF (min (max y 1) (endH h)) ++ [59] ++ digF (min (max x 1) (endW w)) ++ [82], ⟨goTo (newE w h) (min (max x 1) (endW w) - 1) (min (max y 1) (endH h) - 1), G0⟩) := by
  rw [feedT_of (p_one gd0 y x hy hy2 hx hx2)]
  rw [acts2]
  have a0 : actR (newT w h).t ⟨4, 0, 72, 0, [y, x], [], []⟩ = [] := by simp [actR, csiR, stateR]
  rw [a0]
  rw [show (newT w h).t = newE w h from rfl, act_goto _ _ _ rfl, act_6]
  have e1 : min (max y 1 - 1) ((newE w h).cg.h - 1) = min (max y 1) (endH h) - 1 := by show min (max y 1 - 1) (endH h - 1) = _; omega
  have e2 : min (max x 1 - 1) ((newE w h).cg.w - 1) = min (max x 1) (endW w) - 1 := by show min (max x 1 - 1) (endW w - 1) = _; omega
  rw [e1, e2, report_6 _ rfl]
  have e3 : (goTo (newE w h) (min (max x 1) (endW w) - 1) (min (max y 1) (endH h) - 1)).m.cu.y + 1 = min (max y 1) (endH h) := by show min (max y 1) (endH h) - 1 + 1 = _; omega
  have e4 : (goTo (newE w h) (min (max x 1) (endW w) - 1) (min (max y 1) (endH h) - 1)).m.cu.x + 1 = min (max x 1) (endW w) := by show min (max x 1) (endW w) - 1 + 1 = _; omega
  rw [e3, e4, List.nil_append, List.append_nil]
theorem two (t : Te) : feedT ⟨t, G0⟩ Q2 = ([27, 91, 48, 110, 27, 91, 63, 49, 59, 50, 99, 27, 91, 63, 49, 59, 50, 99], ⟨t, G0⟩) := by
  rw [feedT_of (m := ⟨t, G0⟩) (A := [⟨4, 0, 110, 0, [5], [], []⟩, ⟨4, 0, 99, 0, [], [], []⟩, ⟨4, 0, 99, 0, [0], [], []⟩, ⟨4, 0, 99, 0, [1], [], []⟩]) (p := G0) (by kernel_rfl)]
  rfl
theorem cat5 (a b : List UInt8) : (⟨([27, 91] ++ a ++ [59] ++ b ++ [82]).toArray⟩ : ByteArray) = ⟨#[27, 91]⟩ ++ ⟨a.toArray⟩ ++ ⟨#[59]⟩ ++ ⟨b.toArray⟩ ++ ⟨#[82]⟩ := by
  apply ByteArray.ext
  simp
theorem dig_size {D : ByteArray} {n : Int} (h : D = ⟨(digF n).toArray⟩) : D.size ≤ 20 := by
  subst h
  exact digN_len 20 n.toNat
set_option maxHeartbeats 4000000 in
theorem law_any (w h x y : Int) (W : World) : Calls Tryz.prog 8 #[.int .i64 w, .int .i64 h, .int .i64 x, .int .i64 y] W fun e w' => e = .returned (.bool true) ∧ Below W.heap.size W w' := by
  have HS := Lib.hid (Sep.start W)
  obtain ⟨D1, hD1⟩ : ∃ D, D = (⟨(digF (min (max y 0) 9999)).toArray⟩ : ByteArray) := ⟨_, rfl⟩
  obtain ⟨D2, hD2⟩ : ∃ D, D = (⟨(digF (min (max x 0) 9999)).toArray⟩ : ByteArray) := ⟨_, rfl⟩
  obtain ⟨E1, hE1⟩ : ∃ D, D = (⟨(digF (min (max (min (max y 0) 9999) 1) (endH h))).toArray⟩ : ByteArray) := ⟨_, rfl⟩
  obtain ⟨E2, hE2⟩ : ∃ D, D = (⟨(digF (min (max (min (max x 0) 9999) 1) (endW w))).toArray⟩ : ByteArray) := ⟨_, rfl⟩
  obtain ⟨m1, hm1⟩ : ∃ m, m = (⟨goTo (newE w h) ((min (max (min (max x 0) 9999) 1) (endW w)) - 1) ((min (max (min (max y 0) 9999) 1) (endH h)) - 1), G0⟩ : Tm) := ⟨_, rfl⟩
  have HF1 := Lib.hid (show feedT (newT w h) (Q1 (min (max y 0) 9999) (min (max x 0) 9999)) = (_, m1) from (one w h (min (max y 0) 9999) (min (max x 0) 9999) (by omega) (by omega) (by omega) (by omega)).trans (by rw [hm1]))
  have HF2 := Lib.hid (show feedT m1 Q2 = (_, m1) from by rw [hm1]; exact two _)
  have OK0 := Lib.hid (newT_ok w h)
  have OK1 := Lib.hid (show TmOk m1 from (show (feedT (newT w h) (Q1 (min (max y 0) 9999) (min (max x 0) 9999))).2 = m1 by rw [HF1.out]) ▸ feedT_ok (newT_ok w h) _)
  have HQ1 := Lib.hid (show ([⟨#[27, 91]⟩, D1, ⟨#[59]⟩, D2, ⟨#[72, 27, 91, 54, 110]⟩] : List ByteArray).flatMap (fun s => s.data.toList) = Q1 (min (max y 0) 9999) (min (max x 0) 9999) from by rw [hD1, hD2]; rfl)
  have HL1 := Lib.hid (show (Q1 (min (max y 0) 9999) (min (max x 0) 9999)).length ≤ 10000 from by have h1 := digN_len 20 (min (max y 0) 9999).toNat; have h2 := digN_len 20 (min (max x 0) 9999).toNat; simp only [Q1, List.length_append]; show 2 + ((digN 20 (min (max y 0) 9999).toNat).length + (1 + ((digN 20 (min (max x 0) 9999).toNat).length + 5))) ≤ _; omega)
  have HZ1 := Lib.hid (show (⟨#[27, 91]⟩ ++ E1 ++ ⟨#[59]⟩ ++ E2 ++ ⟨#[82]⟩ : ByteArray) = ⟨([27, 91] ++ digF (min (max (min (max y 0) 9999) 1) (endH h)) ++ [59] ++ digF (min (max (min (max x 0) 9999) 1) (endW w)) ++ [82]).toArray⟩ from by rw [cat5, hE1, hE2])
  have HX := Lib.hid (show m1.t.m.cu.x = (min (max (min (max x 0) 9999) 1) (endW w)) - 1 from by rw [hm1]; rfl)
  have HY := Lib.hid (show m1.t.m.cu.y = (min (max (min (max y 0) 9999) 1) (endH h)) - 1 from by rw [hm1]; rfl)
  have HD1 := Lib.hid hD1
  have HD2 := Lib.hid hD2
  have HE1 := Lib.hid hE1
  have HE2 := Lib.hid hE2
  have hw2 : 2 ≤ endW w := by unfold endW; omega
  have hw4 : endW w ≤ 40 := by unfold endW; omega
  have hh1 : 1 ≤ endH h := by unfold endH; omega
  have hh2 : endH h ≤ 20 := by unfold endH; omega
  have hs1 := dig_size hE1
  have hs2 := dig_size hE2
  clear hD1 hD2 hE1 hE2 hm1
  go_enter Tryz.func8, Tryz.ntmps8
  go_wp2_with (first | (go_at_call 21; refine K32.ca (fun xw hs => ?_); clear HS; (with_reducible refine (alive_any _).mono ?_); rintro e w1 ⟨rfl, hb⟩; replace hs := hs.below hb; clear hb; have HS := Lib.hid hs; clear hs) | (go_at_call 22; refine K32.ca (fun xw hs => ?_); clear HS; (with_reducible refine (newL w h hs).mono ?_); rintro e w1 ⟨b, LA, rfl, hl, hs⟩; have HLA := Lib.hid hl; clear hl; have HS := Lib.hid hs; clear hs) | (go_at_call 23; refine (ends_any _ _ _).mono ?_; rintro e w1 ⟨rfl, rfl⟩) | (go_at_call 27; refine K32.ca (fun xw hs => ?_); clear HS; (with_reducible refine (digits_i (min (max y 0) 9999) D1 HD1.out (by omega) (by omega)).mono ?_); rintro e w1 ⟨rfl, hb⟩; replace hs := hs.below hb; clear hb; have HS := Lib.hid hs; clear hs) | (go_at_call 27; refine K32.ca (fun xw hs => ?_); clear HS; (with_reducible refine (digits_i (min (max x 0) 9999) D2 HD2.out (by omega) (by omega)).mono ?_); rintro e w1 ⟨rfl, hb⟩; replace hs := hs.below hb; clear hb; have HS := Lib.hid hs; clear hs) | (go_at_call 27; refine K32.ca (fun xw hs => ?_); clear HS; (with_reducible refine (digits_i (min (max (min (max y 0) 9999) 1) (endH h)) E1 HE1.out (by omega) (by omega)).mono ?_); rintro e w1 ⟨rfl, hb⟩; replace hs := hs.below hb; clear hb; (try clear hcS hzS hlS); (try obtain ⟨hcS, hzS, hlS⟩ := hs.here (t := 47) rma); have HS := Lib.hid hs; clear hs) | (go_at_call 27; refine K32.ca (fun xw hs => ?_); clear HS; (with_reducible refine (digits_i (min (max (min (max x 0) 9999) 1) (endW w)) E2 HE2.out (by omega) (by omega)).mono ?_); rintro e w1 ⟨rfl, hb⟩; replace hs := hs.below hb; clear hb; (try clear hcS hzS hlS); (try obtain ⟨hcS, hzS, hlS⟩ := hs.here (t := 47) rma); have HS := Lib.hid hs; clear hs) | (go_at_call 24; refine K32.ca (fun xw hs => ?_); clear HS; have hC := feedL [⟨#[27, 91]⟩, D1, ⟨#[59]⟩, D2, ⟨#[72, 27, 91, 54, 110]⟩] (Q1 (min (max y 0) 9999) (min (max x 0) 9999)) hs HLA.out OK0.out HF1.out HQ1.out HL1.out HZ1.out; refine hC.mono ?_; clear hC; rintro e w1 ⟨LA, rfl, hl, hs⟩; clear HLA; have HLA := Lib.hid hl; clear hl; have HS := Lib.hid hs; clear hs) | (go_at_call 34; refine K32.ca (fun xw hs => ?_); clear HS; have hC := screenL (fun k c => .agg #[.int .i64 m1.t.cg.w, .int .i64 m1.t.cg.h, .slice (some ⟨k, 0, none⟩) m1.t.cg.c.length c, .int .i64 ((min (max (min (max x 0) 9999) 1) (endW w)) - 1), .int .i64 ((min (max (min (max y 0) 9999) 1) (endH h)) - 1), .bool m1.t.m.hidden]) hs HLA.out OK1.out (fun k c => by unfold scrV; rw [HX.out, HY.out]); refine hC.mono ?_; clear hC; rintro e w1 ⟨k, c, LA, rfl, hl, hs⟩; clear HLA; have HLA := Lib.hid hl; clear hl; have HS := Lib.hid hs; clear hs) | (go_at_call 24; refine K32.ca (fun xw hs => ?_); clear HS; have hC := feedL [⟨#[27, 91, 53, 110, 27, 91, 99, 27, 91, 48, 99, 27, 91, 49, 99]⟩] Q2 hs HLA.out OK1.out HF2.out rfl (by decide) rfl; refine hC.mono ?_; clear hC; rintro e w1 ⟨LA, rfl, hl, hs⟩; clear HLA; have HLA := Lib.hid hl; clear hl; have HS := Lib.hid hs; clear hs))
  go_ret
  exact ⟨rfl, HS.out.hereLow (B := W.heap.size) (w0 := W) rma⟩
end Go.Proofs.YtnjgnbdebkckfaaGreatDoor.X4
namespace Go.Proofs.YtnjgnbdebkckfaaGreatDoor.Y3
open Go.RowKit M0 ME MF MP Y0 Y2 T2 T8
/-- what is not cell, place or late -/
structure Kp (t u : Te) : Prop where
  kept : u.m.kept = t.m.kept
  alt : u.m.alt = t.m.alt
  top : u.m.top = t.m.top
  bot : u.m.bottom = t.m.bottom
  wrap : u.m.wrap = t.m.wrap
  ins : u.m.ins = t.m.ins
  hid : u.m.hidden = t.m.hidden
  pen : u.m.cu.pen = t.m.cu.pen
  ori : u.m.cu.origin = t.m.cu.origin
  s0 : u.m.cu.s0 = t.m.cu.s0
  s1 : u.m.cu.s1 = t.m.cu.s1
  s : u.s = t.s
  g : t.m.alt = true → u.g = t.g
  o : t.m.alt = false → u.o = t.o
theorem Kp.refl (t : Te) : Kp t t := ⟨rfl, rfl, rfl, rfl, rfl, rfl, rfl, rfl, rfl, rfl, rfl, rfl, fun _ => rfl, fun _ => rfl⟩
theorem Kp.trans {t u v : Te} (a : Kp t u) (b : Kp u v) : Kp t v := ⟨b.kept.trans a.kept, b.alt.trans a.alt, b.top.trans a.top, b.bot.trans a.bot, b.wrap.trans a.wrap, b.ins.trans a.ins, b.hid.trans a.hid, b.pen.trans a.pen, b.ori.trans a.ori, b.s0.trans a.s0, b.s1.trans a.s1, b.s.trans a.s, fun h => (b.g (a.alt.trans h)).trans (a.g h), fun h => (b.o (a.alt.trans h)).trans (a.o h)⟩
theorem kp_cg (t : Te) (g : Gr) : Kp t (t.setCg g) := by
  cases ha : t.m.alt
  · have e : t.setCg g = { t with g := g } := by unfold Te.setCg; rw [ha]; rfl
    rw [e]
    exact ⟨rfl, rfl, rfl, rfl, rfl, rfl, rfl, rfl, rfl, rfl, rfl, rfl, fun h => absurd (ha.symm.trans h) (by decide), fun _ => rfl⟩
  · have e : t.setCg g = { t with o := g } := by unfold Te.setCg; rw [ha]; rfl
    rw [e]
    exact ⟨rfl, rfl, rfl, rfl, rfl, rfl, rfl, rfl, rfl, rfl, rfl, rfl, fun _ => rfl, fun h => absurd (ha.symm.trans h) (by decide)⟩
theorem kp_x (t : Te) (x : Int) : Kp t (t.setX x) := ⟨rfl, rfl, rfl, rfl, rfl, rfl, rfl, rfl, rfl, rfl, rfl, rfl, fun _ => rfl, fun _ => rfl⟩
theorem kp_y (t : Te) (x : Int) : Kp t (t.setY x) := ⟨rfl, rfl, rfl, rfl, rfl, rfl, rfl, rfl, rfl, rfl, rfl, rfl, fun _ => rfl, fun _ => rfl⟩
theorem kp_l (t : Te) (x : Bool) : Kp t (t.setLate x) := ⟨rfl, rfl, rfl, rfl, rfl, rfl, rfl, rfl, rfl, rfl, rfl, rfl, fun _ => rfl, fun _ => rfl⟩
theorem kp_index (t : Te) : Kp t (indexE t) := by
  unfold indexE
  split
  · exact kp_cg _ _
  · split
    · exact kp_y _ _
    · exact Kp.refl _
theorem kp_print (t : Te) (r : Int) : Kp t (printE t r) := by
  have h1 : Kp t (wrapE t) := by
    unfold wrapE
    split
    · exact (kp_x _ _).trans (kp_index _)
    · exact Kp.refl _
  have h2 : Kp (wrapE t) (insE (wrapE t)) := by
    unfold insE
    split
    · exact kp_cg _ _
    · exact Kp.refl _
  have h3 : ∀ u : Te, Kp u (lastE u) := fun u => by
    unfold lastE
    split
    · exact kp_l _ _
    · exact (kp_l _ _).trans (kp_x _ _)
  exact ((h1.trans h2).trans (kp_cg _ _)).trans (h3 _)
theorem kp_control (t : Te) (b : Int) : Kp t (controlE t b) := by
  unfold controlE
  repeat' split
  · exact (kp_l _ _).trans (kp_x _ _)
  · exact (kp_l _ _).trans (kp_x _ _)
  · exact (kp_l _ _).trans (kp_index _)
  · exact (kp_l _ _).trans (kp_x _ _)
  · exact ⟨rfl, rfl, rfl, rfl, rfl, rfl, rfl, rfl, rfl, rfl, rfl, rfl, fun _ => rfl, fun _ => rfl⟩
  · exact ⟨rfl, rfl, rfl, rfl, rfl, rfl, rfl, rfl, rfl, rfl, rfl, rfl, fun _ => rfl, fun _ => rfl⟩
  · exact Kp.refl _
/-- acts that print, or are a byte below 32 -/
def Sm (a : Ac) : Prop := a.kind = 1 ∨ a.kind = 2
theorem kp_act (t : Te) {a : Ac} (h : Sm a) : Kp t (actE1 t a) ∧ actR t a = [] := by
  unfold actE1 actR
  rcases h with h | h
  · rw [if_pos h, if_neg (by rw [h]; decide)]
    exact ⟨kp_print _ _, rfl⟩
  · rw [if_neg (by rw [h]; decide), if_pos h, if_neg (by rw [h]; decide)]
    exact ⟨kp_control _ _, rfl⟩
theorem kp_acts : ∀ (l : List Ac) (t : Te), (∀ a ∈ l, Sm a) → Kp t (actsE t l).2 ∧ (actsE t l).1 = []
  | [], t, _ => ⟨Kp.refl _, rfl⟩
  | a :: l, t, h => by
    obtain ⟨h1, h2⟩ := kp_act t (h a (by simp))
    obtain ⟨h3, h4⟩ := kp_acts l (actE1 t a) (fun x hx => h x (by simp [hx]))
    refine ⟨h1.trans h3, ?_⟩
    show actR t a ++ (actsE (actE1 t a) l).1 = []
    rw [h2, h4]
    rfl
theorem sm_print (l : List Int) : ∀ a ∈ l.map acPrint, Sm a := by
  intro a ha
  obtain ⟨x, _, rfl⟩ := List.mem_map.1 ha
  exact .inl rfl
/-- a byte that is not 27, on the ground -/
theorem st_ground {p : Pg} (h : p.state = 0) (c : UInt8) (hc : c ≠ 27) : (stepP p c).2.state = 0 ∧ ∀ a ∈ (stepP p c).1, Sm a := by
  have ha : (aheadP p c).2.state = 0 ∧ ∀ a ∈ (aheadP p c).1, Sm a := by
    unfold aheadP
    split
    · exact ⟨h, sm_print _⟩
    · exact ⟨h, fun a ha => by cases ha⟩
  have hb : ∀ q : Pg, q.state = 0 → (bodyP q c).2.state = 0 ∧ ∀ a ∈ (bodyP q c).1, Sm a := by
    intro q hq
    unfold bodyP
    by_cases h24 : c = 24 ∨ c = 26
    · rw [if_pos h24]
      exact ⟨rfl, fun a ha => by cases ha⟩
    · rw [if_neg h24]
      rw [if_neg hc]
      have hw : whatF q c = 2 ∨ whatF q c = 1 ∨ whatF q c = 0 := by
        unfold whatF
        rw [hq]
        have h6 := class_lt c
        have : ∀ k : Fin 6, tableL.getD (0 * 6 + k.1) 0 = 2 ∨ tableL.getD (0 * 6 + k.1) 0 = 1 ∨ tableL.getD (0 * 6 + k.1) 0 = 0 := by decide
        exact this ⟨classF c, h6⟩
      rw [if_neg (show ¬ whatF q c = 9 by omega)]
      unfold actP
      rcases hw with hw | hw | hw
      · rw [hw, if_neg (by decide), if_pos rfl]
        exact ⟨hq, fun a ha => by rw [List.mem_singleton] at ha; subst ha; exact .inr rfl⟩
      · rw [hw, if_pos rfl]
        exact ⟨hq, sm_print _⟩
      · rw [hw]
        exact ⟨hq, fun a ha => by cases ha⟩
  obtain ⟨h1, h2⟩ := hb _ ha.1
  exact ⟨h1, fun a h => (List.mem_append.1 h).elim (ha.2 a) (h2 a)⟩
theorem fd_ground : ∀ (l : List UInt8) {p : Pg}, p.state = 0 → (∀ c ∈ l, c ≠ 27) → (feedP p l).2.state = 0 ∧ ∀ a ∈ (feedP p l).1, Sm a
  | [], p, h, _ => ⟨h, fun a ha => by cases ha⟩
  | c :: l, p, h, hc => by
    obtain ⟨h1, h2⟩ := st_ground h c (hc c (by simp))
    obtain ⟨h3, h4⟩ := fd_ground l h1 (fun x hx => hc x (by simp [hx]))
    exact ⟨h3, fun a ha => (List.mem_append.1 ha).elim (h2 a) (h4 a)⟩
/-- 24 ends whatever there is -/
theorem st_can (p : Pg) (hg : p.state ≠ 0 → p.half = []) : (stepP p 24).2 = G0 ∧ ∀ a ∈ (stepP p 24).1, Sm a := by
  have e : (stepP p 24).2 = beginP (aheadP p 24).2 0 := rfl
  have e2 : (stepP p 24).1 = (aheadP p 24).1 ++ [] := rfl
  rw [e, e2, List.append_nil]
  unfold aheadP
  split
  · exact ⟨rfl, sm_print _⟩
  · rename_i hn
    refine ⟨?_, fun a ha => by cases ha⟩
    have hs : p.state ≠ 0 := fun hs => hn ⟨hs, .inl (by decide)⟩
    have : p.half = [] := hg hs
    show beginP p 0 = G0
    unfold beginP
    rw [this]
    rfl
end Go.Proofs.YtnjgnbdebkckfaaGreatDoor.Y3
namespace Go.Proofs.YtnjgnbdebkckfaaGreatDoor.Y6
open Go.RowKit M0 ME MF MP G1 T20 T21 Y0 Y2 Y3
structure Sz (t u : Te) : Prop where
  w : u.g.w = t.g.w
  h : u.g.h = t.g.h
theorem Sz.refl (t : Te) : Sz t t := ⟨rfl, rfl⟩
theorem Sz.trans {t u v : Te} (a : Sz t u) (b : Sz u v) : Sz t v := ⟨b.w.trans a.w, b.h.trans a.h⟩
theorem sz_cg (t : Te) (g : Gr) (h1 : g.w = t.cg.w) (h2 : g.h = t.cg.h) : Sz t (t.setCg g) := by
  cases ha : t.m.alt
  · have e : t.setCg g = { t with g := g } := by unfold Te.setCg; rw [ha]; rfl
    have e2 : t.cg = t.g := by unfold Te.cg; rw [ha]; rfl
    rw [e]
    exact ⟨h1.trans (by rw [e2]), h2.trans (by rw [e2])⟩
  · have e : t.setCg g = { t with o := g } := by unfold Te.setCg; rw [ha]; rfl
    rw [e]
    exact ⟨rfl, rfl⟩
theorem fill_wh (g : Gr) (a b : Int) (c : Ce) : (fillG g a b c).w = g.w ∧ (fillG g a b c).h = g.h := by unfold fillG; split <;> exact ⟨rfl, rfl⟩
theorem sz_up (t : Te) (a b n : Int) (c : Ce) : Sz t (t.setCg (upG t.cg a b n c)) := sz_cg _ _ rfl rfl
theorem sz_down (t : Te) (a b n : Int) (c : Ce) : Sz t (t.setCg (downG t.cg a b n c)) := sz_cg _ _ rfl rfl
theorem sz_right (t : Te) (a b n : Int) (c : Ce) : Sz t (t.setCg (rightG t.cg a b n c)) := sz_cg _ _ rfl rfl
theorem sz_left (t : Te) (a b n : Int) (c : Ce) : Sz t (t.setCg (leftG t.cg a b n c)) := sz_cg _ _ rfl rfl
theorem sz_put (t : Te) (r : Int) : Sz t (putE t r) := sz_cg _ _ rfl rfl
theorem sz_fill (t : Te) (a b : Int) : Sz t (fillE t a b) := sz_cg _ _ (fill_wh _ _ _ _).1 (fill_wh _ _ _ _).2
theorem sz_index (t : Te) : Sz t (indexE t) := by
  unfold indexE
  repeat' split
  · exact sz_cg _ _ rfl rfl
  · exact ⟨rfl, rfl⟩
  · exact Sz.refl _
theorem sz_reverse (t : Te) : Sz t (reverseE t) := by
  unfold reverseE
  repeat' split
  · exact sz_cg _ _ rfl rfl
  · exact ⟨rfl, rfl⟩
  · exact Sz.refl _
theorem sz_x (t : Te) (x : Int) : Sz t (t.setX x) := ⟨rfl, rfl⟩
theorem sz_l (t : Te) (x : Bool) : Sz t (t.setLate x) := ⟨rfl, rfl⟩
theorem sz_print (t : Te) (r : Int) : Sz t (printE t r) := by
  have h1 : Sz t (wrapE t) := by
    unfold wrapE
    split
    · exact (sz_x _ _).trans (sz_index _)
    · exact Sz.refl _
  have h2 : Sz (wrapE t) (insE (wrapE t)) := by
    unfold insE
    split
    · exact sz_cg _ _ rfl rfl
    · exact Sz.refl _
  have h3 : ∀ u : Te, Sz u (lastE u) := fun u => by
    unfold lastE
    split <;> exact ⟨rfl, rfl⟩
  exact ((h1.trans h2).trans (sz_put _ _)).trans (h3 _)
theorem sz_control (t : Te) (b : Int) : Sz t (controlE t b) := by
  unfold controlE
  repeat' split
  all_goals first | exact ⟨rfl, rfl⟩ | exact (sz_l _ _).trans (sz_index _)
theorem sz_reset {t : Te} (ok : TeOk t) : Sz t (resetE t) := by
  have a := ok.g.w2; have b := ok.g.w40; have c := ok.g.h1; have d := ok.g.h20
  exact ⟨show endW t.g.w = t.g.w by unfold endW; omega, show endH t.g.h = t.g.h by unfold endH; omega⟩
theorem sz_escape {t : Te} (ok : TeOk t) (i : List UInt8) (b : Int) : Sz t (escapeE t i b) := by
  unfold escapeE plainE setE
  repeat' split
  all_goals first | exact ⟨rfl, rfl⟩ | exact sz_reset ok | exact (sz_l _ _).trans (sz_index _) | exact ((sz_l _ _).trans (sz_x _ _)).trans (sz_index _) | exact (sz_l _ _).trans (sz_reverse _) | exact Sz.refl _
theorem sz_move {t u : Te} {b n m : Int} (h : moveE t b n m = some u) : Sz t u := by
  unfold moveE upE downE columnE rowE at h
  repeat' split at h
  all_goals first | (obtain rfl := Option.some.inj h; exact ⟨rfl, rfl⟩) | cases h
theorem sz_erase (t : Te) (how a b : Int) : Sz t (eraseE t how a b) := by
  unfold eraseE
  repeat' split
  all_goals first | exact (sz_fill _ _ _).trans (sz_l _ _) | exact Sz.refl _
theorem sz_rows (t : Te) (i : Bool) (n : Int) : Sz t (rowsE t i n) := by
  unfold rowsE
  split
  · exact Sz.refl _
  · split
    · exact ((sz_down t t.m.cu.y t.m.bottom n t.pen).trans (sz_x _ 0)).trans (sz_l _ false)
    · exact ((sz_up t t.m.cu.y t.m.bottom n t.pen).trans (sz_x _ 0)).trans (sz_l _ false)
theorem sz_some {t u v : Te} (h : some v = some u) (k : Sz t v) : Sz t u := Option.some.inj h ▸ k
theorem sz_edit {t u : Te} {b : Int} {l : List Int} (h : editE t b l = some u) : Sz t u := by
  unfold editE at h
  repeat' split at h
  · exact sz_some h (sz_erase _ _ _ _)
  · exact sz_some h (sz_erase _ _ _ _)
  · exact sz_some h (sz_rows _ _ _)
  · exact sz_some h (sz_rows _ _ _)
  · exact sz_some h ((sz_fill _ _ _).trans (sz_l _ _))
  · exact sz_some h ((sz_right t t.m.cu.x t.m.cu.y (countN l 0) t.pen).trans (sz_l _ _))
  · exact sz_some h ((sz_left t t.m.cu.x t.m.cu.y (countN l 0) t.pen).trans (sz_l _ _))
  · exact sz_some h ((sz_up t t.m.top t.m.bottom (countN l 0) t.pen).trans (sz_l _ _))
  · exact sz_some h ((sz_down t t.m.top t.m.bottom (countN l 0) t.pen).trans (sz_l _ _))
  · cases h
theorem sz_state (t : Te) (b : Int) (l : List Int) : Sz t (stateE t b l) := by
  unfold stateE regionE restoreE
  repeat' split
  all_goals exact ⟨rfl, rfl⟩
theorem sz_swap (t : Te) (on : Bool) : Sz t (swapE t on) := by
  unfold swapE
  repeat' split
  · exact Sz.refl _
  · exact ⟨rfl, rfl⟩
  · exact Sz.trans (u := saveE { t with m := { t.m with late := false, alt := on } }) ⟨rfl, rfl⟩ (sz_cg _ _ (fill_wh _ _ _ _).1 (fill_wh _ _ _ _).2)
theorem sz_priv (t : Te) (n : Int) (on : Bool) : Sz t (privE t n on) := by
  unfold privE
  repeat' split
  all_goals first | exact ⟨rfl, rfl⟩ | exact sz_swap _ _
theorem sz_csi (t : Te) (a : Ac) : Sz t (csiE t a) := by
  unfold csiE
  split
  · exact Sz.refl _
  · split
    · split
      · rename_i h; exact (sz_move h).trans (sz_l _ _)
      · split
        · rename_i h; exact sz_edit h
        · exact sz_state _ _ _
    · split
      · have key : ∀ (l : List Int) (t : Te) (o : Bool), Sz t (l.foldl (fun t n => privE t n o) t) := by
          intro l
          induction l with
          | nil => intro t o; exact Sz.refl _
          | cons n l ih => intro t o; exact (sz_priv t n o).trans (ih _ _)
        exact key _ _ _
      · exact Sz.refl _
theorem sz_act {t : Te} (ok : TeOk t) (a : Ac) : Sz t (actE1 t a) := by
  unfold actE1
  repeat' split
  · exact sz_print _ _
  · exact sz_control _ _
  · exact sz_escape ok _ _
  · exact sz_csi _ _
  · exact Sz.refl _
theorem newE_end (w h : Int) : newE (endW w) (endH h) = newE w h := by
  have e1 : endW (endW w) = endW w := by unfold endW; omega
  have e2 : endH (endH h) = endH h := by unfold endH; omega
  have e : newG (endW w) (endH h) = newG w h := by unfold newG; rw [e1, e2]
  unfold newE
  rw [e]
/-- alike, but for what does not count on the ground -/
def Rl (p q : Pg) : Prop := p = q ∨ (p.state = 0 ∧ ∃ v, q = { p with first := v })
theorem rl_step {p q : Pg} (h : Rl p q) (c : UInt8) : (stepP p c).1 = (stepP q c).1 ∧ Rl (stepP p c).2 (stepP q c).2 := by
  rcases h with rfl | ⟨h0, v, rfl⟩
  · exact ⟨rfl, .inl rfl⟩
  · obtain ⟨s, ha, i, w, f, m, n, u, t⟩ := p
    obtain rfl : s = 0 := h0
    have hb : ∀ ha : List UInt8, (bodyP ⟨0, ha, i, w, f, m, n, u, t⟩ c).1 = (bodyP ⟨0, ha, i, w, v, m, n, u, t⟩ c).1 ∧ Rl (bodyP ⟨0, ha, i, w, f, m, n, u, t⟩ c).2 (bodyP ⟨0, ha, i, w, v, m, n, u, t⟩ c).2 := by
      intro ha
      unfold bodyP
      by_cases h1 : c = 24 ∨ c = 26
      · rw [if_pos h1, if_pos h1]; exact ⟨rfl, .inl rfl⟩
      · rw [if_neg h1, if_neg h1]
        by_cases h2 : c = 27
        · rw [if_pos h2, if_pos h2]; exact ⟨rfl, .inl rfl⟩
        · rw [if_neg h2, if_neg h2]
          have e : whatF ⟨0, ha, i, w, v, m, n, u, t⟩ c = whatF ⟨0, ha, i, w, f, m, n, u, t⟩ c := rfl
          have hw : whatF ⟨0, ha, i, w, f, m, n, u, t⟩ c = 2 ∨ whatF ⟨0, ha, i, w, f, m, n, u, t⟩ c = 1 ∨ whatF ⟨0, ha, i, w, f, m, n, u, t⟩ c = 0 := by
            have h6 := class_lt c
            have : ∀ k : Fin 6, tableL.getD (0 * 6 + k.1) 0 = 2 ∨ tableL.getD (0 * 6 + k.1) 0 = 1 ∨ tableL.getD (0 * 6 + k.1) 0 = 0 := by decide
            exact this ⟨classF c, h6⟩
          rw [e]
          rcases hw with hw | hw | hw
          all_goals
            rw [hw]
            exact ⟨rfl, .inr ⟨rfl, v, rfl⟩⟩
    unfold stepP aheadP
    by_cases h3 : ((0 : Nat) = 0 ∧ (c < 32 ∨ c = 127))
    · rw [if_pos h3, if_pos h3]
      obtain ⟨k1, k2⟩ := hb []
      exact ⟨by simp only [k1], k2⟩
    · rw [if_neg h3, if_neg h3]
      obtain ⟨k1, k2⟩ := hb ha
      exact ⟨by simp only [k1], k2⟩
theorem rl_feed : ∀ (l : List UInt8) {p q : Pg}, Rl p q → (feedP p l).1 = (feedP q l).1
  | [], p, q, h => rfl
  | c :: l, p, q, h => by
    obtain ⟨h1, h2⟩ := rl_step h c
    show (stepP p c).1 ++ (feedP (stepP p c).2 l).1 = (stepP q c).1 ++ (feedP (stepP q c).2 l).1
    rw [h1, rl_feed l h2]
end Go.Proofs.YtnjgnbdebkckfaaGreatDoor.Y6
namespace Go.Proofs.YtnjgnbdebkckfaaGreatDoor.T25
set_option maxRecDepth 100000
open Go.RowKit K1 K3 K5 K11 K12 K14 K20 K21 K22 K25 K30 K31 M0 C1 G1 G2 G3 G4 G5 G6 G7 G8 G9 G10 E3 E12 E14 E25 ME MF S3 S4 T1 T2 T3 T4 T5 T6 T7 T8 T9 T10 T11 T12 T13 T14 T15 T16 E2 E15 K7 K9 T17 T18 T19 T20 T21 T22 T23 T24 U1 U3 MP Y1
attribute [local go_sem] cell_pastA froz_pastA
set_option maxHeartbeats 4000000 in
theorem regionL {b : Nat} {m : Tm} {LA L F : List Res} {w : World} (hs0 : Sep w L) (hA : TmL b m LA) (ok : TmOk m) (hl2 : RmL L LA F := by (repeat (first | (with_reducible exact RmL.here) | (with_reducible apply RmL.past) | (with_reducible apply RmL.there)))) : Calls Tryz.prog 31 #[.pointer (some ⟨b, 0, none⟩)] w fun e w' => ∃ LA', e = .returned (.tuple #[.int .i64 m.t.m.top, .int .i64 m.t.m.bottom]) ∧ TmL b m LA' ∧ Sep w' (LA' ++ F) := by
  have h := tml_at hs0 hA hl2
  clear hs0 hA hl2
  obtain ⟨pb, o, iv, nv, tv, sb, cb, gb, gc, xb, hb, hc, pm, po, h1, h2, h3⟩ := h
  obtain ⟨g, hg⟩ := main_some h1 h2
  have hs : Sep w (.blk b (emQ m.t.m (.pointer (some ⟨pb, 0, none⟩)) pm po (.pointer (some ⟨sb, 0, none⟩)) (.slice none 0 0)) 108 :: gL cb gb gc m.t.cg (gL xb hb hc m.t.og (.blk sb (scells m.t.s) 126 :: pL pb o 102 m.p iv nv tv F))) := h3
  obtain ⟨hcE, hzE, hlE⟩ := hs.here (b := b) K32.rm
  have hcE23 := (hcE 23).trans (emV_23 ..); have hcE25 := (hcE 25).trans (emV_25 ..); have hcE0 := (hcE 0).trans (emV_0 ..); have hcE1 := (hcE 1).trans (emV_1 ..); have hcE30 := (hcE 30).trans (emV_30 ..); have hcE26 := (hcE 26).trans (emV_26 ..); have hcE27 := (hcE 27).trans (emV_27 ..)
  rw [hg] at hcE23
  have HS := Lib.hid hs
  have H1 := Lib.hid h1
  have H2 := Lib.hid h2
  have OK := Lib.hid ok
  clear hs h1 h2 h3 hg ok hcE
  go_enter Tryz.func31, Tryz.ntmps31
  go_wp2_with (first | (go_at_call 48; refine (none_any b none g _ hcE23).mono ?_; rintro e w1 ⟨rfl, hbw⟩; have hs := HS.out.below hbw; (try clear hcE0 hcE1 hcE23 hcE25 hcE26 hcE27 hcE30 hzE hlE); obtain ⟨hcE0, hcE1, hcE23, hcE25, hcE26, hcE27, hcE30, hzE, hlE⟩ := T1.f0_1_23_25_26_27_30 hs K32.rm; have HS := Lib.hid hs; clear hs hbw) | (refine K32.atW 3 (fun xw hs => ?_); (try simp only [emV_sets] at hs); (try clear hcE0 hcE1 hcE23 hcE25 hcE26 hcE27 hcE30 hzE hlE); obtain ⟨hcE0, hcE1, hcE23, hcE25, hcE26, hcE27, hcE30, hzE, hlE⟩ := T1.f0_1_23_25_26_27_30 hs K32.rm; have HS := Lib.hid hs; clear hs; refine K32.reg0 (w := xw) [] [] 10 ?_; simp only [numbered, List.take_succ_cons, List.take_zero, List.drop_succ_cons, List.drop_zero, List.take_nil, List.drop_nil, Nat.reduceAdd]; (iterate 10 (refine K32.zd ?_; (try go_simp))); refine wz_nil ?_; intro wq hbq hLq; clear hLq ; have hcwq := cellA hbq; have hfwq := frozA hbq; have hzwq := hbq.size; (try simp at hzwq); have hs := HS.out.below hbq; (try clear hcE0 hcE1 hcE23 hcE25 hcE26 hcE27 hcE30 hzE hlE); obtain ⟨hcE0, hcE1, hcE23, hcE25, hcE26, hcE27, hcE30, hzE, hlE⟩ := T1.f0_1_23_25_26_27_30 hs K32.rm; have HS := Lib.hid hs; clear hs hcwq hfwq hzwq hbq))
  go_ret2
  obtain ⟨LA', q1, q2⟩ := tm_open (tm_in (m := m) (sb := sb) (cb := cb) (gb := gb) (gc := gc) (xb := xb) (hb := hb) (hc := hc) (pb := pb) (pm := pm) (po := po) (o := o) (iv := iv) (nv := nv) (tv := tv) HS.out H1.out H2.out)
  exact ⟨LA', rfl, q1, q2⟩
set_option maxHeartbeats 4000000 in
theorem altL {b : Nat} {m : Tm} {LA L F : List Res} {w : World} (hs0 : Sep w L) (hA : TmL b m LA) (ok : TmOk m) (hl2 : RmL L LA F := by (repeat (first | (with_reducible exact RmL.here) | (with_reducible apply RmL.past) | (with_reducible apply RmL.there)))) : Calls Tryz.prog 37 #[.pointer (some ⟨b, 0, none⟩)] w fun e w' => ∃ LA', e = .returned (.bool m.t.m.alt) ∧ TmL b m LA' ∧ Sep w' (LA' ++ F) := by
  have h := tml_at hs0 hA hl2
  clear hs0 hA hl2
  obtain ⟨pb, o, iv, nv, tv, sb, cb, gb, gc, xb, hb, hc, pm, po, h1, h2, h3⟩ := h
  obtain ⟨g, hg⟩ := main_some h1 h2
  have hs : Sep w (.blk b (emQ m.t.m (.pointer (some ⟨pb, 0, none⟩)) pm po (.pointer (some ⟨sb, 0, none⟩)) (.slice none 0 0)) 108 :: gL cb gb gc m.t.cg (gL xb hb hc m.t.og (.blk sb (scells m.t.s) 126 :: pL pb o 102 m.p iv nv tv F))) := h3
  obtain ⟨hcE, hzE, hlE⟩ := hs.here (b := b) K32.rm
  have hcE23 := (hcE 23).trans (emV_23 ..); have hcE25 := (hcE 25).trans (emV_25 ..); have hcE0 := (hcE 0).trans (emV_0 ..); have hcE1 := (hcE 1).trans (emV_1 ..); have hcE30 := (hcE 30).trans (emV_30 ..); have hcE26 := (hcE 26).trans (emV_26 ..); have hcE27 := (hcE 27).trans (emV_27 ..)
  rw [hg] at hcE23
  have HS := Lib.hid hs
  have H1 := Lib.hid h1
  have H2 := Lib.hid h2
  have OK := Lib.hid ok
  clear hs h1 h2 h3 hg ok hcE
  go_enter Tryz.func37, Tryz.ntmps37
  go_wp2_with (first | (go_at_call 48; refine (none_any b none g _ hcE23).mono ?_; rintro e w1 ⟨rfl, hbw⟩; have hs := HS.out.below hbw; (try clear hcE0 hcE1 hcE23 hcE25 hcE26 hcE27 hcE30 hzE hlE); obtain ⟨hcE0, hcE1, hcE23, hcE25, hcE26, hcE27, hcE30, hzE, hlE⟩ := T1.f0_1_23_25_26_27_30 hs K32.rm; have HS := Lib.hid hs; clear hs hbw))
  go_ret
  obtain ⟨LA', q1, q2⟩ := tm_open (tm_in (m := m) (sb := sb) (cb := cb) (gb := gb) (gc := gc) (xb := xb) (hb := hb) (hc := hc) (pb := pb) (pm := pm) (po := po) (o := o) (iv := iv) (nv := nv) (tv := tv) HS.out H1.out H2.out)
  exact ⟨LA', rfl, q1, q2⟩
end Go.Proofs.YtnjgnbdebkckfaaGreatDoor.T25
namespace Go.Proofs.YtnjgnbdebkckfaaGreatDoor.T28
set_option maxRecDepth 100000
open Go.RowKit K1 K3 K5 K11 K12 K14 K20 K21 K22 K25 K30 K31 M0 C1 G1 G2 G3 G4 G5 G6 G7 G8 G9 G10 E3 E12 E14 E25 ME MF S3 S4 T1 T2 T3 T4 T5 T6 T7 T8 T9 T10 T11 T12 T13 T14 T15 T16 E2 E15 K7 K9 T17 T18 T19 T20 T21 T22 T23 U1 U3 MP Y1 T25
attribute [local go_sem] cell_pastA froz_pastA
theorem calls_atB {P : Program} {f : FuncId} {args : Array Value} {Q : Ending → World → Prop} {w w0 : World} {B : Nat} {L : List Res} (hb : Below B w0 w) (h : Sep w L) (k : ∀ x, Below B w0 x → Sep x L → Calls P f args x Q) : Calls P f args w Q := k w hb h
theorem wp_atB {P : Program} {c : Code} {Q : Exit → Act → World → Prop} {a : Act} {w w0 : World} {B : Nat} {L : List Res} (hb : Below B w0 w) (h : Sep w L) (k : ∀ x, Below B w0 x → Sep x L → c.wp P Q a x) : c.wp P Q a w := k w hb h
theorem own_mono {w : World} {B B' : Nat} {t : TypeId} {s n : Nat} {v : Value} {xs : List Value} (h : w.ownsRow B t s v n xs) (hB : B' ≤ B) : w.ownsRow B' t s v n xs := by
  obtain ⟨h1, h2⟩ := h
  refine ⟨h1, h2.imp id ?_⟩
  rintro ⟨g, c, cur, e1, e2, e3⟩
  exact ⟨g, c, cur, e1, Nat.le_trans hB e2, e3⟩
theorem own_end {w : World} {L L' : List Res} {B g n c s : Nat} {t : TypeId} {xs : List Value} (h : Sep w L) (hr : Rm L (.row (.slice (some ⟨g, 0, none⟩) n c) t s n xs) L') (hg : B ≤ g) : w.ownsRow B t s (.slice (some ⟨g, 0, none⟩) n c) n xs := by
  obtain ⟨h1, h2⟩ := h.hereRow hr
  refine ⟨h1, h2.imp id ?_⟩
  rintro ⟨g', c', cur, e1, e2, e3⟩
  simp only [Value.slice.injEq, Option.some.injEq, Addr.mk.injEq, and_true, true_and] at e1
  obtain ⟨rfl, rfl⟩ := e1
  exact ⟨g, c, cur, rfl, hg, e3⟩
theorem own_ge {w : World} {B g n c s : Nat} {t : TypeId} {xs : List Value} (h : w.ownsRow B t s (.slice (some ⟨g, 0, none⟩) n c) n xs) : B ≤ g := by
  rcases h.2 with ⟨e, _⟩ | ⟨g', c', cur, e1, e2, e3⟩
  · cases e
  · simp only [Value.slice.injEq, Option.some.injEq, Addr.mk.injEq, and_true, true_and] at e1
    obtain ⟨rfl, rfl⟩ := e1
    exact e2
structure ScQ (m : Tm) (w : World) (e : Ending) (w' : World) : Prop where
  out : ∃ p : Nat × Nat, e = .returned (scrV m.t p.1 p.2) ∧ Below w.heap.size w w' ∧ w'.ownsRow w.heap.size 58 6 (.slice (some ⟨p.1, 0, none⟩) m.t.cg.c.length p.2) m.t.cg.c.length (m.t.cg.c.flatMap ceV)
set_option maxHeartbeats 4000000 in
theorem screen_q (b : Nat) (m : Tm) (F : List Res) (w : World) (h : TmAt b m F w) (ok : TmOk m) : Calls Tryz.prog 34 #[.pointer (some ⟨b, 0, none⟩)] w (ScQ m w) := by
  have HB := Lib.hid (Below.refl w.heap.size w)
  obtain ⟨pb, o, iv, nv, tv, sb, cb, gb, gc, xb, hb, hc, pm, po, h1, h2, h3⟩ := h
  obtain ⟨g, hg⟩ := main_some h1 h2
  have hs : Sep w (.blk b (emQ m.t.m (.pointer (some ⟨pb, 0, none⟩)) pm po (.pointer (some ⟨sb, 0, none⟩)) (.slice none 0 0)) 108 :: gL cb gb gc m.t.cg (gL xb hb hc m.t.og (.blk sb (scells m.t.s) 126 :: pL pb o 102 m.p iv nv tv F))) := h3
  obtain ⟨hcE, hzE, hlE⟩ := hs.here (b := b) K32.rm
  have hcE23 := (hcE 23).trans (emV_23 ..); have hcE25 := (hcE 25).trans (emV_25 ..); have hcE0 := (hcE 0).trans (emV_0 ..); have hcE1 := (hcE 1).trans (emV_1 ..); have hcE30 := (hcE 30).trans (emV_30 ..); have hcE26 := (hcE 26).trans (emV_26 ..); have hcE27 := (hcE 27).trans (emV_27 ..)
  have HG := Lib.hid hg
  have HS := Lib.hid hs
  have H1 := Lib.hid h1
  have H2 := Lib.hid h2
  have OK := Lib.hid ok
  clear hs h1 h2 h3 hg ok hcE
  go_enter Tryz.func34, Tryz.ntmps34
  go_wp2_with (first | (go_at_call 48; (with_reducible apply calls_atB (B := w.heap.size) (w0 := w)); (focus ((first | (with_reducible exact HB.out) | (with_reducible refine Below.alloc HB.out (Nat.le_refl _) _)); done)); exact K32.fnd; intro xw hB hs; (try simp only [emV_sets] at hs); (try clear hcE hzE hlE); (try clear hcW hzW hlW); obtain ⟨hcE, hzE, hlE⟩ := hs.here (b := b) K32.rm; obtain ⟨hcW, hzW, hlW⟩ := hs.here (b := w.heap.size) K32.rm; (try clear hcE23 hcE25 hcE0 hcE1 hcE30); have hcE23 := (hcE 23).trans (emV_23 ..); have hcE25 := (hcE 25).trans (emV_25 ..); have hcE0 := (hcE 0).trans (emV_0 ..); have hcE1 := (hcE 1).trans (emV_1 ..); have hcE30 := (hcE 30).trans (emV_30 ..); clear hcE; (try clear hcW0 hcW1 hcW2 hcW3 hcW4 hcW5); have hcW0 := hcW 0; have hcW1 := hcW 1; have hcW2 := hcW 2; have hcW3 := hcW 3; have hcW4 := hcW 4; have hcW5 := hcW 5; clear hcW; simp only [List.getElem?_cons_zero, List.getElem?_cons_succ] at hcW0 hcW1 hcW2 hcW3 hcW4 hcW5; (try clear hlt); obtain ⟨hc', hlt⟩ := gL_hc (hs.pick2 (r1 := .blk cb (gcells m.t.cg gb gc) 121) (r2 := .row (.slice (some ⟨gb, 0, none⟩) m.t.cg.c.length gc) 58 6 m.t.cg.c.length (m.t.cg.c.flatMap ceV)) K32.rm K32.rm); have HC := Lib.hid hc'; clear hc'; have hcE23g := hcE23; rw [HG.out] at hcE23g; have hC := (none_any b none g xw hcE23g); (with_reducible refine hC.mono ?_); clear hC hcE23g; rintro e w1 ⟨rfl, hb⟩; have hB2 := hB.trans (hb.mono hB.size); clear HB hB; have HB := Lib.hid hB2; clear hB2; have hs := hs.below hb; clear hb; (try clear hcE hzE hlE); (try clear hcW hzW hlW); obtain ⟨hcE, hzE, hlE⟩ := hs.here (b := b) K32.rm; obtain ⟨hcW, hzW, hlW⟩ := hs.here (b := w.heap.size) K32.rm; (try clear hcE23 hcE25 hcE0 hcE1 hcE30); have hcE23 := (hcE 23).trans (emV_23 ..); have hcE25 := (hcE 25).trans (emV_25 ..); have hcE0 := (hcE 0).trans (emV_0 ..); have hcE1 := (hcE 1).trans (emV_1 ..); have hcE30 := (hcE 30).trans (emV_30 ..); clear hcE; (try clear hcW0 hcW1 hcW2 hcW3 hcW4 hcW5); have hcW0 := hcW 0; have hcW1 := hcW 1; have hcW2 := hcW 2; have hcW3 := hcW 3; have hcW4 := hcW 4; have hcW5 := hcW 5; clear hcW; simp only [List.getElem?_cons_zero, List.getElem?_cons_succ] at hcW0 hcW1 hcW2 hcW3 hcW4 hcW5; (try clear hlt); obtain ⟨hc', hlt⟩ := gL_hc (hs.pick2 (r1 := .blk cb (gcells m.t.cg gb gc) 121) (r2 := .row (.slice (some ⟨gb, 0, none⟩) m.t.cg.c.length gc) 58 6 m.t.cg.c.length (m.t.cg.c.flatMap ceV)) K32.rm K32.rm); have HC := Lib.hid hc'; clear hc'; have HS := Lib.hid hs; clear hs) | (go_at_call 51; (with_reducible apply calls_atB (B := w.heap.size) (w0 := w)); (focus ((first | (with_reducible exact HB.out) | (with_reducible refine Below.alloc HB.out (Nat.le_refl _) _)); done)); exact K32.fnd; intro xw hB hs; (try simp only [emV_sets] at hs); (try clear hcE hzE hlE); (try clear hcW hzW hlW); obtain ⟨hcE, hzE, hlE⟩ := hs.here (b := b) K32.rm; obtain ⟨hcW, hzW, hlW⟩ := hs.here (b := w.heap.size) K32.rm; (try clear hcE23 hcE25 hcE0 hcE1 hcE30); have hcE23 := (hcE 23).trans (emV_23 ..); have hcE25 := (hcE 25).trans (emV_25 ..); have hcE0 := (hcE 0).trans (emV_0 ..); have hcE1 := (hcE 1).trans (emV_1 ..); have hcE30 := (hcE 30).trans (emV_30 ..); clear hcE; (try clear hcW0 hcW1 hcW2 hcW3 hcW4 hcW5); have hcW0 := hcW 0; have hcW1 := hcW 1; have hcW2 := hcW 2; have hcW3 := hcW 3; have hcW4 := hcW 4; have hcW5 := hcW 5; clear hcW; simp only [List.getElem?_cons_zero, List.getElem?_cons_succ] at hcW0 hcW1 hcW2 hcW3 hcW4 hcW5; (try clear hlt); obtain ⟨hc', hlt⟩ := gL_hc (hs.pick2 (r1 := .blk cb (gcells m.t.cg gb gc) 121) (r2 := .row (.slice (some ⟨gb, 0, none⟩) m.t.cg.c.length gc) 58 6 m.t.cg.c.length (m.t.cg.c.flatMap ceV)) K32.rm K32.rm); have HC := Lib.hid hc'; clear hc'; have hC := (grid_c b _ m.t.m.alt pm po (some ⟨cb, 0, none⟩) xw (EmAt.of hs K32.rm) (by rfl) (by rfl) (by rfl) H1.out); (with_reducible refine hC.mono ?_); clear hC; rintro e w1 ⟨rfl, hb⟩; have hB2 := hB.trans (hb.mono hB.size); clear HB hB; have HB := Lib.hid hB2; clear hB2; have hs := hs.below hb; clear hb; (try clear hcE hzE hlE); (try clear hcW hzW hlW); obtain ⟨hcE, hzE, hlE⟩ := hs.here (b := b) K32.rm; obtain ⟨hcW, hzW, hlW⟩ := hs.here (b := w.heap.size) K32.rm; (try clear hcE23 hcE25 hcE0 hcE1 hcE30); have hcE23 := (hcE 23).trans (emV_23 ..); have hcE25 := (hcE 25).trans (emV_25 ..); have hcE0 := (hcE 0).trans (emV_0 ..); have hcE1 := (hcE 1).trans (emV_1 ..); have hcE30 := (hcE 30).trans (emV_30 ..); clear hcE; (try clear hcW0 hcW1 hcW2 hcW3 hcW4 hcW5); have hcW0 := hcW 0; have hcW1 := hcW 1; have hcW2 := hcW 2; have hcW3 := hcW 3; have hcW4 := hcW 4; have hcW5 := hcW 5; clear hcW; simp only [List.getElem?_cons_zero, List.getElem?_cons_succ] at hcW0 hcW1 hcW2 hcW3 hcW4 hcW5; (try clear hlt); obtain ⟨hc', hlt⟩ := gL_hc (hs.pick2 (r1 := .blk cb (gcells m.t.cg gb gc) 121) (r2 := .row (.slice (some ⟨gb, 0, none⟩) m.t.cg.c.length gc) 58 6 m.t.cg.c.length (m.t.cg.c.flatMap ceV)) K32.rm K32.rm); have HC := Lib.hid hc'; clear hc'; have HS := Lib.hid hs; clear hs) | (refine K30.atR (id := 4) ?_; (with_reducible apply wp_atB (B := w.heap.size) (w0 := w)); (focus ((first | (with_reducible exact HB.out) | (with_reducible refine Below.alloc HB.out (Nat.le_refl _) _)); done)); exact K32.fnd; intro xw hB hs; (try simp only [emV_sets] at hs); (try clear hcE hzE hlE); (try clear hcW hzW hlW); obtain ⟨hcE, hzE, hlE⟩ := hs.here (b := b) K32.rm; obtain ⟨hcW, hzW, hlW⟩ := hs.here (b := w.heap.size) K32.rm; (try clear hcE23 hcE25 hcE0 hcE1 hcE30); have hcE23 := (hcE 23).trans (emV_23 ..); have hcE25 := (hcE 25).trans (emV_25 ..); have hcE0 := (hcE 0).trans (emV_0 ..); have hcE1 := (hcE 1).trans (emV_1 ..); have hcE30 := (hcE 30).trans (emV_30 ..); clear hcE; (try clear hcW0 hcW1 hcW2 hcW3 hcW4 hcW5); have hcW0 := hcW 0; have hcW1 := hcW 1; have hcW2 := hcW 2; have hcW3 := hcW 3; have hcW4 := hcW 4; have hcW5 := hcW 5; clear hcW; simp only [List.getElem?_cons_zero, List.getElem?_cons_succ] at hcW0 hcW1 hcW2 hcW3 hcW4 hcW5; (try clear hlt); obtain ⟨hc', hlt⟩ := gL_hc (hs.pick2 (r1 := .blk cb (gcells m.t.cg gb gc) 121) (r2 := .row (.slice (some ⟨gb, 0, none⟩) m.t.cg.c.length gc) 58 6 m.t.cg.c.length (m.t.cg.c.flatMap ceV)) K32.rm K32.rm); have HC := Lib.hid hc'; clear hc'; have HS := Lib.hid hs; clear hs; refine K32.reg0 (w := xw) [5] [] 21 ?_; simp only [numbered, List.take_succ_cons, List.take_zero, List.drop_succ_cons, List.drop_zero, List.take_nil, List.drop_nil, Nat.reduceAdd]; (iterate 5 (refine K32.zc ?_; apply Exists.intro; refine ⟨fun bs hok wx hwx hL => ?_, ?_⟩; (focus ((have hwx : Below _ _ wx := hwx; have hcx := cellA hwx; have hfx := frozA hwx; have hzx := hwx.size; (try simp at hzx)); unfold zAt; (try simp [go_sem, K32.ev, ↓IntWalk.iteOmega, *]); (try simp (disch := omega) only [K32.unw]); (try simp only [zUpon]); (first | (refine ⟨rfl, ?_⟩; go_at_call 47; refine (G1.W_any cb gb gc m.t.cg wx ((GrAt.of HS.out K32.rm).low hwx)).mono ?_; rintro e wy ⟨rfl, hby⟩; exact ⟨_, rfl, rfl, hby⟩) | (refine ⟨rfl, ?_⟩; go_at_call 45; refine (G1.H_any cb gb gc m.t.cg wx ((GrAt.of HS.out K32.rm).low hwx)).mono ?_; rintro e wy ⟨rfl, hby⟩; exact ⟨_, rfl, rfl, hby⟩) | exact ⟨rfl, Below.refl _ _⟩))); (try go_simp))); (refine wz_any (fun p : Nat × Nat => .slice (some ⟨p.1, 0, none⟩) m.t.cg.c.length p.2) (fun p w => w.ownsRow xw.heap.size 58 6 (.slice (some ⟨p.1, 0, none⟩) m.t.cg.c.length p.2) m.t.cg.c.length (m.t.cg.c.flatMap ceV)) (0, 0) (by decide) (by decide) ?_ (by intro x y h; simp at h; (try obtain ⟨x1, x2⟩ := x); (try obtain ⟨y1, y2⟩ := y); simp_all) (fun p => own_fr0) ?_ ?_; (focus (first | rfl | (go_simp; done))); (focus (intro bs hok wx hwx hL; (have hwx : Below _ _ wx := hwx; have hcx := cellA hwx; have hfx := frozA hwx; have hzx := hwx.size; (try simp at hzx)); unfold zAt; (try simp [go_sem, K32.ev, ↓IntWalk.iteOmega, *]); (try simp only [zUpon]); refine ⟨rfl, ?_⟩; go_at_call 53; refine (cells_q xw.heap.size cb gb gc m.t.cg wx hwx.size ((GrAt.of HS.out K32.rm).low hwx) OK.out.t.cg (fun j v hj => (World.cell?_of_block (hwx.block gb hlt)).trans (HC.out j v hj)) (Nat.lt_of_lt_of_le hlt hwx.size)).mono ?_; rintro e wy ⟨⟨p, rfl, hby, hown⟩⟩; first | exact ⟨_, rfl, p, rfl, hwx.trans (hby.mono (by first | exact hwx.size | (simp at hzx ⊢; omega))), Fr.of_below hby, hown⟩ | exact ⟨_, rfl, p.1, p.2, rfl, hwx.trans (hby.mono (by first | exact hwx.size | (simp at hzx ⊢; omega))), Fr.of_below hby, hown⟩)); intro p5 F5 hF5; (try go_simp)); (iterate 15 (refine K32.zc ?_; apply Exists.intro; refine ⟨fun bs hok wx hwx hL => ?_, ?_⟩; (focus ((have hwx : Below _ _ wx := hwx; have hcx := cellA hwx; have hfx := frozA hwx; have hzx := hwx.size; (try simp at hzx)); unfold zAt; (try simp [go_sem, K32.ev, ↓IntWalk.iteOmega, *]); (try simp (disch := omega) only [K32.unw]); (try simp only [zUpon]); (first | (refine ⟨rfl, ?_⟩; go_at_call 47; refine (G1.W_any cb gb gc m.t.cg wx ((GrAt.of HS.out K32.rm).low hwx)).mono ?_; rintro e wy ⟨rfl, hby⟩; exact ⟨_, rfl, rfl, hby⟩) | (refine ⟨rfl, ?_⟩; go_at_call 45; refine (G1.H_any cb gb gc m.t.cg wx ((GrAt.of HS.out K32.rm).low hwx)).mono ?_; rintro e wy ⟨rfl, hby⟩; exact ⟨_, rfl, rfl, hby⟩) | exact ⟨rfl, Below.refl _ _⟩))); (try go_simp))); refine wz_nil ?_; intro wq hbq hLq; have hA5 := Lib.hid (hF5 _ (hLq.get 5 (by simp))); clear hLq hF5; have hcwq := cellA hbq; have hfwq := frozA hbq; have hzwq := hbq.size; (try simp at hzwq); have hB2 := hB.trans (hbq.mono hB.size); clear HB; have HB := Lib.hid hB2; clear hB2; have hown := own_mono hA5.out hB.size; have HO := Lib.hid hown; clear hown hB; have hs := HS.out.addRow hbq hA5.out; (try clear hcE hzE hlE); (try clear hcW hzW hlW); obtain ⟨hcE, hzE, hlE⟩ := hs.here (b := b) K32.rm; obtain ⟨hcW, hzW, hlW⟩ := hs.here (b := w.heap.size) K32.rm; (try clear hcE23 hcE25 hcE0 hcE1 hcE30); have hcE23 := (hcE 23).trans (emV_23 ..); have hcE25 := (hcE 25).trans (emV_25 ..); have hcE0 := (hcE 0).trans (emV_0 ..); have hcE1 := (hcE 1).trans (emV_1 ..); have hcE30 := (hcE 30).trans (emV_30 ..); clear hcE; (try clear hcW0 hcW1 hcW2 hcW3 hcW4 hcW5); have hcW0 := hcW 0; have hcW1 := hcW 1; have hcW2 := hcW 2; have hcW3 := hcW 3; have hcW4 := hcW 4; have hcW5 := hcW 5; clear hcW; simp only [List.getElem?_cons_zero, List.getElem?_cons_succ] at hcW0 hcW1 hcW2 hcW3 hcW4 hcW5; (try clear hlt); obtain ⟨hc', hlt⟩ := gL_hc (hs.pick2 (r1 := .blk cb (gcells m.t.cg gb gc) 121) (r2 := .row (.slice (some ⟨gb, 0, none⟩) m.t.cg.c.length gc) 58 6 m.t.cg.c.length (m.t.cg.c.flatMap ceV)) K32.rm K32.rm); have HC := Lib.hid hc'; clear hc'; have HS := Lib.hid hs; clear hs hbq hA5 hcwq hfwq))
  refine bodyPost_ret (v := scrV m.t p5.1 p5.2) (by simp [results, Tryz.results34, go_sem, scrV, ↓IntWalk.iteOmega, *]) rfl ⟨⟨p5, rfl, ?_, ?_⟩⟩
  · (repeat' (first | (with_reducible exact HB.out) | (with_reducible apply Below.setCell) | exact Nat.le_refl _))
  · (with_reducible apply own_end)
    exact K32.fnd
    (repeat (first | exact K30.Rm.here | apply K30.Rm.there))
    exact own_ge HO.out
end Go.Proofs.YtnjgnbdebkckfaaGreatDoor.T28
namespace Go.Proofs.YtnjgnbdebkckfaaGreatDoor.T29
set_option maxRecDepth 100000
open Go.RowKit K1 K3 K5 K11 K12 K14 K20 K21 K22 K25 K30 K31 M0 C1 G1 G2 G3 G4 G5 G6 G7 G8 G9 G10 E3 E12 E14 E25 ME MF S3 S4 T1 T2 T3 T4 T5 T6 T7 T8 T9 T10 T11 T12 T13 T14 T15 T16 E2 E15 K7 K9 T17 T18 T19 T20 T21 T22 T23 T24 U1 U3 MP Y1 T25 T28 X1
attribute [local go_sem] cell_pastA froz_pastA
set_option maxHeartbeats 4000000 in
theorem alt_q {b : Nat} {m : Tm} {LA L F : List Res} {w : World} (hs0 : Sep w L) (hA : TmL b m LA) (ok : TmOk m) (v : Bool) (hv : m.t.m.alt = v) (hl2 : RmL L LA F := by (repeat (first | (with_reducible exact RmL.here) | (with_reducible apply RmL.past) | (with_reducible apply RmL.there)))) : Calls Tryz.prog 37 #[.pointer (some ⟨b, 0, none⟩)] w fun e w' => e = .returned (.bool v) ∧ Below w.heap.size w w' := by
  subst hv
  have HB := Lib.hid (Below.refl w.heap.size w)
  have h := tml_at hs0 hA hl2
  clear hs0 hA hl2
  obtain ⟨pb, o, iv, nv, tv, sb, cb, gb, gc, xb, hb, hc, pm, po, h1, h2, h3⟩ := h
  obtain ⟨g, hg⟩ := main_some h1 h2
  have hs : Sep w (.blk b (emQ m.t.m (.pointer (some ⟨pb, 0, none⟩)) pm po (.pointer (some ⟨sb, 0, none⟩)) (.slice none 0 0)) 108 :: gL cb gb gc m.t.cg (gL xb hb hc m.t.og (.blk sb (scells m.t.s) 126 :: pL pb o 102 m.p iv nv tv F))) := h3
  obtain ⟨hcE, hzE, hlE⟩ := hs.here (b := b) K32.rm
  have hcE23 := (hcE 23).trans (emV_23 ..); have hcE25 := (hcE 25).trans (emV_25 ..); have hcE0 := (hcE 0).trans (emV_0 ..); have hcE1 := (hcE 1).trans (emV_1 ..); have hcE30 := (hcE 30).trans (emV_30 ..); have hcE26 := (hcE 26).trans (emV_26 ..); have hcE27 := (hcE 27).trans (emV_27 ..)
  rw [hg] at hcE23
  have HS := Lib.hid hs
  have H1 := Lib.hid h1
  have H2 := Lib.hid h2
  have OK := Lib.hid ok
  clear hs h1 h2 h3 hg ok hcE
  go_enter Tryz.func37, Tryz.ntmps37
  go_wp2_with (first | (go_at_call 48; refine (none_any b none g _ hcE23).mono ?_; rintro e w1 ⟨rfl, hbw⟩; have hB := HB.out.trans (hbw.mono HB.out.size); clear HB; have HB := Lib.hid hB; clear hB; have hs := HS.out.below hbw; (try clear hcE0 hcE1 hcE23 hcE25 hcE26 hcE27 hcE30 hzE hlE); obtain ⟨hcE0, hcE1, hcE23, hcE25, hcE26, hcE27, hcE30, hzE, hlE⟩ := T1.f0_1_23_25_26_27_30 hs K32.rm; have HS := Lib.hid hs; clear hs hbw))
  go_ret
  exact ⟨rfl, HB.out⟩
structure SmQ (ga ca gb cb : Nat) (sw sh sx sy : Int) (hid : Bool) (L : List Ce) (w : World) (F : List Res) (i : Value) (wr : World) : Prop where
  out : ∃ j : Nat, j ≤ L.length ∧ i = .int .i64 j ∧ Sep wr (.blk w.heap.size [.int .i64 sw, .int .i64 sh, .slice (some ⟨ga, 0, none⟩) L.length ca, .int .i64 sx, .int .i64 sy, .bool hid] 47 :: .blk (w.heap.size + 1) [.int .i64 sw, .int .i64 sh, .slice (some ⟨gb, 0, none⟩) L.length cb, .int .i64 sx, .int .i64 sy, .bool hid] 47 :: .row (.slice (some ⟨ga, 0, none⟩) L.length ca) 58 6 L.length (L.flatMap ceV) :: .row (.slice (some ⟨gb, 0, none⟩) L.length cb) 58 6 L.length (L.flatMap ceV) :: F) ∧ Below w.heap.size w wr
set_option maxHeartbeats 4000000 in
theorem same_q (ga ca gb cb : Nat) (sw sh sx sy : Int) (hid : Bool) (L : List Ce) (F : List Res) (w : World) (hs : Sep w (.row (.slice (some ⟨ga, 0, none⟩) L.length ca) 58 6 L.length (L.flatMap ceV) :: .row (.slice (some ⟨gb, 0, none⟩) L.length cb) 58 6 L.length (L.flatMap ceV) :: F)) (hl : L.length ≤ 100000) :
    Calls Tryz.prog 33 #[.agg #[.int .i64 sw, .int .i64 sh, .slice (some ⟨ga, 0, none⟩) L.length ca, .int .i64 sx, .int .i64 sy, .bool hid], .agg #[.int .i64 sw, .int .i64 sh, .slice (some ⟨gb, 0, none⟩) L.length cb, .int .i64 sx, .int .i64 sy, .bool hid]] w fun e w' => e = .returned (.bool true) ∧ Below w.heap.size w w' := by
  have hs0 : Sep ((w.alloc (.cells #[.int .i64 sw, .int .i64 sh, .slice (some ⟨ga, 0, none⟩) L.length ca, .int .i64 sx, .int .i64 sy, .bool hid] 47)).alloc (.cells #[.int .i64 sw, .int .i64 sh, .slice (some ⟨gb, 0, none⟩) L.length cb, .int .i64 sx, .int .i64 sy, .bool hid] 47)) (.blk w.heap.size [.int .i64 sw, .int .i64 sh, .slice (some ⟨ga, 0, none⟩) L.length ca, .int .i64 sx, .int .i64 sy, .bool hid] 47 :: .blk (w.heap.size + 1) [.int .i64 sw, .int .i64 sh, .slice (some ⟨gb, 0, none⟩) L.length cb, .int .i64 sx, .int .i64 sy, .bool hid] 47 :: .row (.slice (some ⟨ga, 0, none⟩) L.length ca) 58 6 L.length (L.flatMap ceV) :: .row (.slice (some ⟨gb, 0, none⟩) L.length cb) 58 6 L.length (L.flatMap ceV) :: F) := by
    have h1 := (hs.allocT (cs := #[.int .i64 sw, .int .i64 sh, .slice (some ⟨ga, 0, none⟩) L.length ca, .int .i64 sx, .int .i64 sy, .bool hid]) (t := 47)).allocT (cs := #[.int .i64 sw, .int .i64 sh, .slice (some ⟨gb, 0, none⟩) L.length cb, .int .i64 sx, .int .i64 sy, .bool hid]) (t := 47)
    rw [World.size_alloc] at h1
    exact h1.perm (List.Perm.swap _ _ _)
  have HS0 := Lib.hid hs0
  clear hs hs0
  go_enter Tryz.func33, Tryz.ntmps33
  go_wp2_with fail
  go_loopw [5] (fun i wr => SmQ ga ca gb cb sw sh sx sy hid L w F i wr) (fun i _ => L.length - (intOf i).toNat)
  case atStart => exact ⟨⟨0, Nat.zero_le _, rfl, HS0.out, ((Below.refl _ _).alloc (Nat.le_refl _) _).alloc (by simp) _⟩⟩
  case round =>
    clear HS0
    obtain ⟨⟨j, hj, rfl, hs, hbel⟩⟩ := hrel
    by_cases hlt : j < L.length
    · obtain ⟨c, hx⟩ : ∃ c, L[j]? = some c := ⟨_, List.getElem?_eq_getElem hlt⟩
      have HX := Lib.hid hx
      have HB := Lib.hid hbel
      obtain ⟨hga, hgb⟩ := And.intro (K30.row_cells (hs.hereRow (v := .slice (some ⟨ga, 0, none⟩) L.length ca) (t := 58) (s := 6) (n := L.length) (xs := L.flatMap ceV) K32.rm)).2.2.2.1 (K30.row_cells (hs.hereRow (v := .slice (some ⟨gb, 0, none⟩) L.length cb) (t := 58) (s := 6) (n := L.length) (xs := L.flatMap ceV) K32.rm)).2.2.2.1
      clear hx hbel
      (try clear hcA hzA hlA); (try clear hcB hzB hlB); obtain ⟨hcA, hzA, hlA⟩ := hs.here (b := w.heap.size) K32.rm; obtain ⟨hcB, hzB, hlB⟩ := hs.here (b := (w.heap.size + 1)) K32.rm; (try clear hcA0 hcA1 hcA2 hcA3 hcA4 hcA5); have hcA0 := hcA 0; have hcA1 := hcA 1; have hcA2 := hcA 2; have hcA3 := hcA 3; have hcA4 := hcA 4; have hcA5 := hcA 5; clear hcA; simp only [List.getElem?_cons_zero, List.getElem?_cons_succ] at hcA0 hcA1 hcA2 hcA3 hcA4 hcA5; (try clear hcB0 hcB1 hcB2 hcB3 hcB4 hcB5); have hcB0 := hcB 0; have hcB1 := hcB 1; have hcB2 := hcB 2; have hcB3 := hcB 3; have hcB4 := hcB 4; have hcB5 := hcB 5; clear hcB; simp only [List.getElem?_cons_zero, List.getElem?_cons_succ] at hcB0 hcB1 hcB2 hcB3 hcB4 hcB5
      have HS := Lib.hid hs
      clear hs
      go_wp2_with (first | (refine K30.atR (id := 6) ?_; (with_reducible apply wp_atB (B := w.heap.size) (w0 := w)); (focus (exact HB.out)); exact K32.fnd; intro xw hB hs; (try simp only [World.size_alloc, World.size_setCell] at hs); (try clear hcA hzA hlA); (try clear hcB hzB hlB); obtain ⟨hcA, hzA, hlA⟩ := hs.here (b := w.heap.size) K32.rm; obtain ⟨hcB, hzB, hlB⟩ := hs.here (b := (w.heap.size + 1)) K32.rm; (try clear hcA0 hcA1 hcA2 hcA3 hcA4 hcA5); have hcA0 := hcA 0; have hcA1 := hcA 1; have hcA2 := hcA 2; have hcA3 := hcA 3; have hcA4 := hcA 4; have hcA5 := hcA 5; clear hcA; simp only [List.getElem?_cons_zero, List.getElem?_cons_succ] at hcA0 hcA1 hcA2 hcA3 hcA4 hcA5; (try clear hcB0 hcB1 hcB2 hcB3 hcB4 hcB5); have hcB0 := hcB 0; have hcB1 := hcB 1; have hcB2 := hcB 2; have hcB3 := hcB 3; have hcB4 := hcB 4; have hcB5 := hcB 5; clear hcB; simp only [List.getElem?_cons_zero, List.getElem?_cons_succ] at hcB0 hcB1 hcB2 hcB3 hcB4 hcB5; (try clear hp0 hq0 hp1 hq1 hp2 hq2 hp3 hq3 hp4 hq4 hp5 hq5); have hp0 := cell_row (hs.hereRow (v := .slice (some ⟨ga, 0, none⟩) L.length ca) (t := 58) (s := 6) (n := L.length) (xs := L.flatMap ceV) K32.rm) HX.out 0 (by decide) _ rfl; have hq0 := cell_row (hs.hereRow (v := .slice (some ⟨gb, 0, none⟩) L.length cb) (t := 58) (s := 6) (n := L.length) (xs := L.flatMap ceV) K32.rm) HX.out 0 (by decide) _ rfl; have hp1 := cell_row (hs.hereRow (v := .slice (some ⟨ga, 0, none⟩) L.length ca) (t := 58) (s := 6) (n := L.length) (xs := L.flatMap ceV) K32.rm) HX.out 1 (by decide) _ rfl; have hq1 := cell_row (hs.hereRow (v := .slice (some ⟨gb, 0, none⟩) L.length cb) (t := 58) (s := 6) (n := L.length) (xs := L.flatMap ceV) K32.rm) HX.out 1 (by decide) _ rfl; have hp2 := cell_row (hs.hereRow (v := .slice (some ⟨ga, 0, none⟩) L.length ca) (t := 58) (s := 6) (n := L.length) (xs := L.flatMap ceV) K32.rm) HX.out 2 (by decide) _ rfl; have hq2 := cell_row (hs.hereRow (v := .slice (some ⟨gb, 0, none⟩) L.length cb) (t := 58) (s := 6) (n := L.length) (xs := L.flatMap ceV) K32.rm) HX.out 2 (by decide) _ rfl; have hp3 := cell_row (hs.hereRow (v := .slice (some ⟨ga, 0, none⟩) L.length ca) (t := 58) (s := 6) (n := L.length) (xs := L.flatMap ceV) K32.rm) HX.out 3 (by decide) _ rfl; have hq3 := cell_row (hs.hereRow (v := .slice (some ⟨gb, 0, none⟩) L.length cb) (t := 58) (s := 6) (n := L.length) (xs := L.flatMap ceV) K32.rm) HX.out 3 (by decide) _ rfl; have hp4 := cell_row (hs.hereRow (v := .slice (some ⟨ga, 0, none⟩) L.length ca) (t := 58) (s := 6) (n := L.length) (xs := L.flatMap ceV) K32.rm) HX.out 4 (by decide) _ rfl; have hq4 := cell_row (hs.hereRow (v := .slice (some ⟨gb, 0, none⟩) L.length cb) (t := 58) (s := 6) (n := L.length) (xs := L.flatMap ceV) K32.rm) HX.out 4 (by decide) _ rfl; have hp5 := cell_row (hs.hereRow (v := .slice (some ⟨ga, 0, none⟩) L.length ca) (t := 58) (s := 6) (n := L.length) (xs := L.flatMap ceV) K32.rm) HX.out 5 (by decide) _ rfl; have hq5 := cell_row (hs.hereRow (v := .slice (some ⟨gb, 0, none⟩) L.length cb) (t := 58) (s := 6) (n := L.length) (xs := L.flatMap ceV) K32.rm) HX.out 5 (by decide) _ rfl; rw [Nat.add_zero] at hp0 hq0; (try clear hgA hgB); have hgA := (K30.row_cells (hs.hereRow (v := .slice (some ⟨ga, 0, none⟩) L.length ca) (t := 58) (s := 6) (n := L.length) (xs := L.flatMap ceV) K32.rm)).2.2.1; have hgB := (K30.row_cells (hs.hereRow (v := .slice (some ⟨gb, 0, none⟩) L.length cb) (t := 58) (s := 6) (n := L.length) (xs := L.flatMap ceV) K32.rm)).2.2.1; have HS := Lib.hid hs; clear hs; refine K32.reg0 (w := xw) [] [] 11 ?_; simp only [numbered, List.take_succ_cons, List.take_zero, List.drop_succ_cons, List.drop_zero, List.take_nil, List.drop_nil, Nat.reduceAdd]; (iterate 11 (refine K32.zd ?_; (try go_simp))); refine wz_nil ?_; intro wq hbq hLq; clear hLq ; have hcwq := cellA hbq; have hfwq := frozA hbq; have hzwq := hbq.size; (try simp at hzwq); have hB2 := hB.trans (hbq.mono hB.size); clear HB hB; have HB := Lib.hid hB2; clear hB2; have hs := HS.out.below hbq; (try clear hcA hzA hlA); (try clear hcB hzB hlB); obtain ⟨hcA, hzA, hlA⟩ := hs.here (b := w.heap.size) K32.rm; obtain ⟨hcB, hzB, hlB⟩ := hs.here (b := (w.heap.size + 1)) K32.rm; (try clear hcA0 hcA1 hcA2 hcA3 hcA4 hcA5); have hcA0 := hcA 0; have hcA1 := hcA 1; have hcA2 := hcA 2; have hcA3 := hcA 3; have hcA4 := hcA 4; have hcA5 := hcA 5; clear hcA; simp only [List.getElem?_cons_zero, List.getElem?_cons_succ] at hcA0 hcA1 hcA2 hcA3 hcA4 hcA5; (try clear hcB0 hcB1 hcB2 hcB3 hcB4 hcB5); have hcB0 := hcB 0; have hcB1 := hcB 1; have hcB2 := hcB 2; have hcB3 := hcB 3; have hcB4 := hcB 4; have hcB5 := hcB 5; clear hcB; simp only [List.getElem?_cons_zero, List.getElem?_cons_succ] at hcB0 hcB1 hcB2 hcB3 hcB4 hcB5; (try clear hp0 hq0 hp1 hq1 hp2 hq2 hp3 hq3 hp4 hq4 hp5 hq5); have hp0 := cell_row (hs.hereRow (v := .slice (some ⟨ga, 0, none⟩) L.length ca) (t := 58) (s := 6) (n := L.length) (xs := L.flatMap ceV) K32.rm) HX.out 0 (by decide) _ rfl; have hq0 := cell_row (hs.hereRow (v := .slice (some ⟨gb, 0, none⟩) L.length cb) (t := 58) (s := 6) (n := L.length) (xs := L.flatMap ceV) K32.rm) HX.out 0 (by decide) _ rfl; have hp1 := cell_row (hs.hereRow (v := .slice (some ⟨ga, 0, none⟩) L.length ca) (t := 58) (s := 6) (n := L.length) (xs := L.flatMap ceV) K32.rm) HX.out 1 (by decide) _ rfl; have hq1 := cell_row (hs.hereRow (v := .slice (some ⟨gb, 0, none⟩) L.length cb) (t := 58) (s := 6) (n := L.length) (xs := L.flatMap ceV) K32.rm) HX.out 1 (by decide) _ rfl; have hp2 := cell_row (hs.hereRow (v := .slice (some ⟨ga, 0, none⟩) L.length ca) (t := 58) (s := 6) (n := L.length) (xs := L.flatMap ceV) K32.rm) HX.out 2 (by decide) _ rfl; have hq2 := cell_row (hs.hereRow (v := .slice (some ⟨gb, 0, none⟩) L.length cb) (t := 58) (s := 6) (n := L.length) (xs := L.flatMap ceV) K32.rm) HX.out 2 (by decide) _ rfl; have hp3 := cell_row (hs.hereRow (v := .slice (some ⟨ga, 0, none⟩) L.length ca) (t := 58) (s := 6) (n := L.length) (xs := L.flatMap ceV) K32.rm) HX.out 3 (by decide) _ rfl; have hq3 := cell_row (hs.hereRow (v := .slice (some ⟨gb, 0, none⟩) L.length cb) (t := 58) (s := 6) (n := L.length) (xs := L.flatMap ceV) K32.rm) HX.out 3 (by decide) _ rfl; have hp4 := cell_row (hs.hereRow (v := .slice (some ⟨ga, 0, none⟩) L.length ca) (t := 58) (s := 6) (n := L.length) (xs := L.flatMap ceV) K32.rm) HX.out 4 (by decide) _ rfl; have hq4 := cell_row (hs.hereRow (v := .slice (some ⟨gb, 0, none⟩) L.length cb) (t := 58) (s := 6) (n := L.length) (xs := L.flatMap ceV) K32.rm) HX.out 4 (by decide) _ rfl; have hp5 := cell_row (hs.hereRow (v := .slice (some ⟨ga, 0, none⟩) L.length ca) (t := 58) (s := 6) (n := L.length) (xs := L.flatMap ceV) K32.rm) HX.out 5 (by decide) _ rfl; have hq5 := cell_row (hs.hereRow (v := .slice (some ⟨gb, 0, none⟩) L.length cb) (t := 58) (s := 6) (n := L.length) (xs := L.flatMap ceV) K32.rm) HX.out 5 (by decide) _ rfl; rw [Nat.add_zero] at hp0 hq0; (try clear hgA hgB); have hgA := (K30.row_cells (hs.hereRow (v := .slice (some ⟨ga, 0, none⟩) L.length ca) (t := 58) (s := 6) (n := L.length) (xs := L.flatMap ceV) K32.rm)).2.2.1; have hgB := (K30.row_cells (hs.hereRow (v := .slice (some ⟨gb, 0, none⟩) L.length cb) (t := 58) (s := 6) (n := L.length) (xs := L.flatMap ceV) K32.rm)).2.2.1; have HS := Lib.hid hs; clear hs hcwq hfwq hzwq hbq))
      go_roundw
      case rel => exact ⟨⟨j + 1, by omega, by go_num, HS.out, HB.out⟩⟩
      case measure => simp [intOf]; omega
    · obtain rfl : j = L.length := by omega
      have HB := Lib.hid hbel
      (try clear hcA hzA hlA); (try clear hcB hzB hlB); obtain ⟨hcA, hzA, hlA⟩ := hs.here (b := w.heap.size) K32.rm; obtain ⟨hcB, hzB, hlB⟩ := hs.here (b := (w.heap.size + 1)) K32.rm; (try clear hcA0 hcA1 hcA2 hcA3 hcA4 hcA5); have hcA0 := hcA 0; have hcA1 := hcA 1; have hcA2 := hcA 2; have hcA3 := hcA 3; have hcA4 := hcA 4; have hcA5 := hcA 5; clear hcA; simp only [List.getElem?_cons_zero, List.getElem?_cons_succ] at hcA0 hcA1 hcA2 hcA3 hcA4 hcA5; (try clear hcB0 hcB1 hcB2 hcB3 hcB4 hcB5); have hcB0 := hcB 0; have hcB1 := hcB 1; have hcB2 := hcB 2; have hcB3 := hcB 3; have hcB4 := hcB 4; have hcB5 := hcB 5; clear hcB; simp only [List.getElem?_cons_zero, List.getElem?_cons_succ] at hcB0 hcB1 hcB2 hcB3 hcB4 hcB5
      have HS := Lib.hid hs
      clear hs hbel
      go_wp2_with fail
      go_ret
      exact ⟨rfl, HB.out⟩
end Go.Proofs.YtnjgnbdebkckfaaGreatDoor.T29
namespace Go.Proofs.YtnjgnbdebkckfaaGreatDoor.T30
set_option maxRecDepth 100000
open Go.RowKit K1 K3 K5 K11 K12 K14 K20 K21 K22 K25 K30 K31 M0 M0 ME MF T21 T22 T23 T24 MP Y0 Y1 Y2 T25 T28 U3
attribute [local go_sem] cell_pastA froz_pastA
structure StQ (ga ca gb cb n : Nat) (L : List (List UInt8)) (w : World) (F : List Res) (i : Value) (wr : World) : Prop where
  out : ∃ j : Nat, j ≤ n ∧ i = .int .i64 j ∧ Sep wr (.row (.slice (some ⟨ga, 0, none⟩) n ca) 9 1 n (L.map strW) :: .row (.slice (some ⟨gb, 0, none⟩) n cb) 9 1 n (L.map strW) :: F) ∧ Below w.heap.size w wr
set_option maxHeartbeats 4000000 in
theorem texts_q (ga ca gb cb n : Nat) (L : List (List UInt8)) (hL : L.length = n) (F : List Res) (w : World) (hs : Sep w (.row (.slice (some ⟨ga, 0, none⟩) n ca) 9 1 n (L.map strW) :: .row (.slice (some ⟨gb, 0, none⟩) n cb) 9 1 n (L.map strW) :: F)) (hn : n ≤ 1000) :
    Calls Tryz.prog 38 #[.slice (some ⟨ga, 0, none⟩) n ca, .slice (some ⟨gb, 0, none⟩) n cb] w fun e w' => e = .returned (.bool true) ∧ Below w.heap.size w w' := by
  have HS := Lib.hid hs
  clear hs
  go_enter Tryz.func38, Tryz.ntmps38
  go_wp2_with fail
  go_loopw [5] (fun i wr => StQ ga ca gb cb n L w F i wr) (fun i _ => n - (intOf i).toNat)
  case atStart => exact ⟨⟨0, Nat.zero_le _, rfl, HS.out, Below.refl _ _⟩⟩
  case round =>
    clear HS
    obtain ⟨⟨j, hj, rfl, hs, hbel⟩⟩ := hrel
    have HB := Lib.hid hbel
    have HS := Lib.hid hs
    by_cases hlt : j < n
    · obtain ⟨x, hx⟩ : ∃ x, L[j]? = some x := ⟨_, List.getElem?_eq_getElem (by omega)⟩
      obtain ⟨X, hX⟩ : ∃ X : ByteArray, X = ⟨x.toArray⟩ := ⟨_, rfl⟩
      have HX := Lib.hid (show (L.map strW)[j]? = some (.string X) from by rw [List.getElem?_map, hx, hX]; rfl)
      have hca := (K30.row_cells (hs.hereRow (v := .slice (some ⟨ga, 0, none⟩) n ca) rma)).2.2.2.1
      have hcb := (K30.row_cells (hs.hereRow (v := .slice (some ⟨gb, 0, none⟩) n cb) rma)).2.2.2.1
      clear hs hbel hx hX
      go_wp2_with (first | (refine K30.atR (id := 6) ?_; (with_reducible apply wp_atB (B := w.heap.size) (w0 := w)); (focus (exact HB.out)); exact K32.fnd; intro xw hB hs; skip; (try clear hrA hgA); (try clear hrB hgB); obtain ⟨hrR, -, hgA, -, -⟩ := K30.row_cells (hs.hereRow (v := .slice (some ⟨ga, 0, none⟩) n ca) rma); have hrA : xw.cell? ⟨ga, j, none⟩ = some (.string X) := (hrR j (by omega)).trans HX.out; clear hrR; obtain ⟨hrR, -, hgB, -, -⟩ := K30.row_cells (hs.hereRow (v := .slice (some ⟨gb, 0, none⟩) n cb) rma); have hrB : xw.cell? ⟨gb, j, none⟩ = some (.string X) := (hrR j (by omega)).trans HX.out; clear hrR; have HS := Lib.hid hs; clear hs; refine K32.reg0 (w := xw) [] [] 10 ?_; simp only [numbered, List.take_succ_cons, List.take_zero, List.drop_succ_cons, List.drop_zero, List.take_nil, List.drop_nil, Nat.reduceAdd]; (iterate 10 (refine K32.zd ?_; (try go_simp))); refine wz_nil ?_; intro wq hbq hLq; clear hLq ; have hcwq := cellA hbq; have hfwq := frozA hbq; have hzwq := hbq.size; (try simp at hzwq); have hB2 := hB.trans (hbq.mono hB.size); clear HB hB; have HB := Lib.hid hB2; clear hB2; have hs := HS.out.below hbq; have HS := Lib.hid hs; clear hs hbq hrA hgA hrB hgB) | fail)
      go_roundw
      case rel => exact ⟨⟨j + 1, by omega, by go_num, HS.out, HB.out⟩⟩
      case measure => simp [intOf]; omega
    · obtain rfl : j = n := by omega
      clear hs hbel
      go_wp2_with fail
      go_ret
      exact ⟨rfl, HB.out⟩
end Go.Proofs.YtnjgnbdebkckfaaGreatDoor.T30
namespace Go.Proofs.YtnjgnbdebkckfaaGreatDoor.X11
set_option maxRecDepth 100000
open Go.RowKit K1 K3 K5 K11 K12 K14 K20 K21 K22 K25 K30 K31 M0 M0 ME MF T21 T22 T23 T24 MP Y0 Y1 Y2 G10 X4 Y3 Y6 T25 T28 T29 T30
attribute [local go_sem] cell_pastA froz_pastA
theorem sz_acts : ∀ (l : List Ac) (t : Te), TeOk t → (∀ a ∈ l, AcOk a) → Sz t (actsE t l).2
  | [], t, _, _ => Sz.refl _
  | a :: l, t, ok, h => (sz_act ok a).trans (sz_acts l _ (act_ok ok (h a (by simp))) (fun x hx => h x (by simp [hx])))
theorem f_reset (w h : Int) (s : List UInt8) : (feedT (newT w h) (s ++ [24, 27, 99])).2 = ⟨newE w h, G0⟩ := by
  have ok := newT_ok w h
  have hs := feed_ok s ok.p
  have hc := st_can (feedP (newT w h).p s).2 hs.1.gr
  have e1 : feedP (newT w h).p (s ++ [24, 27, 99]) = ((feedP (newT w h).p s).1 ++ (stepP (feedP (newT w h).p s).2 24).1 ++ [⟨3, 0, 99, 0, [], [], []⟩], G0) := by
    rw [show (s ++ [24, 27, 99] : List UInt8) = (s ++ [24]) ++ [27, 99] by simp]
    have e2 : stepP (feedP (newT w h).p s).2 24 = ((stepP (feedP (newT w h).p s).2 24).1, G0) := by
      conv => lhs; rw [show stepP (feedP (newT w h).p s).2 24 = ((stepP (feedP (newT w h).p s).2 24).1, (stepP (feedP (newT w h).p s).2 24).2) from rfl, hc.1]
    exact fd_app _ _ _ (fd_app _ s [24] rfl (fd_one _ _ e2)) (by kernel_rfl)
  rw [feedT_of e1, T19.acts_app]
  have hall : ∀ a ∈ (feedP (newT w h).p s).1 ++ (stepP (feedP (newT w h).p s).2 24).1, AcOk a := by
    intro a ha
    rcases List.mem_append.1 ha with ha | ha
    · exact hs.2 a ha
    · exact (step_ok hs.1 24).2 a ha
  have hz := sz_acts _ (newT w h).t ok.t hall
  show (⟨newE (actsE (newT w h).t _).2.g.w (actsE (newT w h).t _).2.g.h, G0⟩ : Tm) = _
  rw [hz.w, hz.h]
  show (⟨newE (endW w) (endH h), G0⟩ : Tm) = _
  rw [newE_end]
theorem f_same (w h : Int) (s : List UInt8) : (feedT ⟨newE w h, G0⟩ s).1 = (feedT (newT w h) s).1 ∧ (feedT ⟨newE w h, G0⟩ s).2.t = (feedT (newT w h) s).2.t := by
  have e : (feedP G0 s).1 = (feedP Pg.zero s).1 := (rl_feed s (p := Pg.zero) (q := G0) (.inr ⟨rfl, true, rfl⟩)).symm
  unfold feedT
  show (actsE (newE w h) (feedP G0 s).1).1 = (actsE (newE w h) (feedP Pg.zero s).1).1 ∧ (actsE (newE w h) (feedP G0 s).1).2 = (actsE (newE w h) (feedP Pg.zero s).1).2
  rw [e]
  exact ⟨rfl, rfl⟩
theorem textV {b : Nat} {m : Tm} {LA L F : List Res} {w : World} (k : Nat) (xs : List Value) (hs : Sep w L) (hA : TmL b m LA) (ok : TmOk m) (hk : (textE m.t).length = k) (hx : (textE m.t).map U3.strW = xs) (h0 : 0 < k) (h2 : RmL L LA F := by (repeat (first | (with_reducible exact RmL.here) | (with_reducible apply RmL.past) | (with_reducible apply RmL.there)))) :
    Calls Tryz.prog 25 #[.pointer (some ⟨b, 0, none⟩)] w fun e w' => ∃ g cp LA', e = .returned (.slice (some ⟨g, 0, none⟩) k cp) ∧ TmL b m LA' ∧ Sep w' (LA' ++ (.row (.slice (some ⟨g, 0, none⟩) k cp) 9 1 k xs :: F)) := by
  refine (textL hs hA ok h2).mono ?_
  rintro e w' ⟨v, LA', rfl, h3, h4⟩
  rw [hk, hx] at h4
  obtain ⟨g, cp, rfl⟩ := E5.own_some (Sep.rowOf h4 (List.mem_append_right _ (List.mem_cons_self ..))) h0
  exact ⟨g, cp, LA', rfl, h3, h4⟩
theorem scrL {b : Nat} {m : Tm} {LA L F : List Res} {w : World} (V : Nat → Nat → Value) (cc : List Ce) (hs : Sep w L) (hA : TmL b m LA) (ok : TmOk m) (hV : ∀ k c, scrV m.t k c = V k c) (hc : m.t.cg.c = cc) (h2 : RmL L LA F := by (repeat (first | (with_reducible exact RmL.here) | (with_reducible apply RmL.past) | (with_reducible apply RmL.there)))) :
    Calls Tryz.prog 34 #[.pointer (some ⟨b, 0, none⟩)] w fun e w' => ∃ k c LA', e = .returned (V k c) ∧ TmL b m LA' ∧ Sep w' (LA' ++ (.row (.slice (some ⟨k, 0, none⟩) cc.length c) 58 6 cc.length (cc.flatMap ceV) :: F)) := by
  subst hc
  exact screenL V hs hA ok hV h2
set_option maxHeartbeats 4000000 in
theorem resets_any (w h : Int) (a s : ByteArray) (W : World) (ha : a.size ≤ 500) (hs3 : s.size ≤ 300) : Calls Tryz.prog 17 #[.int .i64 w, .int .i64 h, .string a, .string s] W fun e w' => e = .returned (.bool true) ∧ Below W.heap.size W w' := by
  have HS := Lib.hid (Sep.start W)
  obtain ⟨m0, hm0⟩ : ∃ m0, m0 = newT w h := ⟨_, rfl⟩
  have ok0 : TmOk m0 := hm0 ▸ newT_ok w h
  obtain ⟨r1, m1, f1⟩ : ∃ r m, feedT m0 (a.data.toList ++ [24, 27, 99]) = (r, m) := ⟨_, _, rfl⟩
  have e1 : m1 = ⟨newE w h, G0⟩ := by have := f_reset w h a.data.toList; rw [← hm0, f1] at this; exact this
  have ok1 : TmOk m1 := by have := feedT_ok ok0 (a.data.toList ++ [24, 27, 99]); rw [f1] at this; exact this
  obtain ⟨r2, m2, f2⟩ : ∃ r m, feedT m1 s.data.toList = (r, m) := ⟨_, _, rfl⟩
  have ok2 : TmOk m2 := by have := feedT_ok ok1 s.data.toList; rw [f2] at this; exact this
  obtain ⟨r3, m3, f3⟩ : ∃ r m, feedT m0 s.data.toList = (r, m) := ⟨_, _, rfl⟩
  have ok3 : TmOk m3 := by have := feedT_ok ok0 s.data.toList; rw [f3] at this; exact this
  have hsm := f_same w h s.data.toList
  rw [← e1, ← hm0, f2, f3] at hsm
  obtain ⟨rfl, ht⟩ : r2 = r3 ∧ m2.t = m3.t := hsm
  have hV2 : ∀ k c, scrV m2.t k c = .agg #[.int .i64 m2.t.cg.w, .int .i64 m2.t.cg.h, .slice (some ⟨k, 0, none⟩) m2.t.cg.c.length c, .int .i64 m2.t.m.cu.x, .int .i64 m2.t.m.cu.y, .bool m2.t.m.hidden] := fun k c => rfl
  have hV3 : ∀ k c, scrV m3.t k c = .agg #[.int .i64 m2.t.cg.w, .int .i64 m2.t.cg.h, .slice (some ⟨k, 0, none⟩) m2.t.cg.c.length c, .int .i64 m2.t.m.cu.x, .int .i64 m2.t.m.cu.y, .bool m2.t.m.hidden] := fun k c => by rw [← ht]; rfl
  have hC3 : m3.t.cg.c = m2.t.cg.c := by rw [ht]
  obtain ⟨AV, hAV⟩ : ∃ AV, m2.t.m.alt = AV := ⟨_, rfl⟩
  have hAV3 : m3.t.m.alt = AV := by rw [← ht]; exact hAV
  obtain ⟨TX, hTX⟩ : ∃ TX, textE m2.t = TX := ⟨_, rfl⟩
  obtain ⟨TN, hTN⟩ : ∃ TN, TX.length = TN := ⟨_, rfl⟩
  have hgt := ok2.t.cg
  have htn : TN = m2.t.cg.h.toNat := by rw [← hTN, ← hTX, textE_len]
  have hTN0 : 0 < TN := by have := hgt.h1; omega
  have hTN1 : TN ≤ 1000 := by have := hgt.h20; omega
  have hcl := (GrOk.pos hgt).2
  obtain ⟨z1, hz1⟩ : ∃ z : ByteArray, z = ⟨r1.toArray⟩ := ⟨_, rfl⟩
  obtain ⟨z2, hz2⟩ : ∃ z : ByteArray, z = ⟨r2.toArray⟩ := ⟨_, rfl⟩
  have hal : a.data.toList.length = a.size := by simp
  have hsl : s.data.toList.length = s.size := by simp
  have HQ1 := Lib.hid (show ([a, ⟨#[24, 27, 99]⟩] : List ByteArray).flatMap (fun s => s.data.toList) = a.data.toList ++ [24, 27, 99] from by simp)
  have HL1 := Lib.hid (show (a.data.toList ++ [24, 27, 99]).length ≤ 10000 from by rw [List.length_append, hal]; show a.size + 3 ≤ _; omega)
  have HQ3 := Lib.hid (show ([s] : List ByteArray).flatMap (fun s => s.data.toList) = s.data.toList from by simp)
  have HL3 := Lib.hid (show s.data.toList.length ≤ 10000 from by omega)
  have HM0 := Lib.hid hm0; have HF1 := Lib.hid f1; have HF2 := Lib.hid f2; have HF3 := Lib.hid f3; have OK0 := Lib.hid ok0; have OK1 := Lib.hid ok1; have OK2 := Lib.hid ok2; have OK3 := Lib.hid ok3
  have HV2 := Lib.hid hV2; have HV3 := Lib.hid hV3; have HC3 := Lib.hid hC3; have HA2 := Lib.hid hAV; have HA3 := Lib.hid hAV3
  have HZ1 := Lib.hid hz1; have HZ2 := Lib.hid hz2; have HTX := Lib.hid hTN; have HTN := Lib.hid hTN0; have HTN2 := Lib.hid hTN1
  have HU1 := Lib.hid (show (textE m2.t).length = TN from by rw [hTX]; exact hTN)
  have HU2 := Lib.hid (show (textE m2.t).map U3.strW = TX.map U3.strW from by rw [hTX])
  have HY1 := Lib.hid (show (textE m3.t).length = TN from by rw [← ht, hTX]; exact hTN)
  have HY2 := Lib.hid (show (textE m3.t).map U3.strW = TX.map U3.strW from by rw [← ht, hTX])
  have HCL := Lib.hid (show m2.t.cg.c.length ≤ 100000 from by omega)
  clear hm0 ok0 f1 e1 ok1 f2 ok2 f3 ok3 ht hV2 hV3 hC3 hAV hAV3 hTX hTN htn hTN0 hTN1 hcl hz1 hz2 hal hsl hgt
  go_enter Tryz.func17, Tryz.ntmps17
  go_wp2_with (first | (go_at_call 21; refine K32.ca (fun xw hs => ?_); clear HS; (try simp only [World.size_alloc, World.size_setCell] at hs); (with_reducible refine (alive_any _).mono ?_); rintro e w1 ⟨rfl, hb⟩; replace hs := hs.below hb; clear hb; have HS := Lib.hid hs; clear hs) | (go_at_call 22; (fail_if_success (have hh := HLA)); refine K32.ca (fun xw hs => ?_); clear HS; (try simp only [World.size_alloc, World.size_setCell] at hs); (with_reducible refine (newL w h hs).mono ?_); rintro e w1 ⟨b, LA, rfl, hl, hs⟩; rw [← HM0.out] at hl; have HLA := Lib.hid hl; clear hl; have HS := Lib.hid hs; clear hs) | (go_at_call 22; (have hh := HLA; clear hh); refine K32.ca (fun xw hs => ?_); clear HS; (try simp only [World.size_alloc, World.size_setCell] at hs); (with_reducible refine (newL w h hs).mono ?_); rintro e w1 ⟨b2, LB, rfl, hl, hs⟩; rw [← HM0.out] at hl; have HLB := Lib.hid hl; clear hl; have HS := Lib.hid hs; clear hs) | (go_at_call 24; (with_reducible show Calls _ _ #[.pointer (some ⟨b, 0, none⟩), _] _ _); refine K32.ca (fun xw hs => ?_); clear HS; (try simp only [World.size_alloc, World.size_setCell] at hs); have hC := feedL [a, ⟨#[24, 27, 99]⟩] (a.data.toList ++ [24, 27, 99]) hs HLA.out OK0.out HF1.out HQ1.out HL1.out HZ1.out; refine hC.mono ?_; clear hC; rintro e w1 ⟨LA, rfl, hl, hs⟩; clear HLA; have HLA := Lib.hid hl; clear hl; have HS := Lib.hid hs; clear hs) | (go_at_call 24; (with_reducible show Calls _ _ #[.pointer (some ⟨b, 0, none⟩), _] _ _); refine K32.ca (fun xw hs => ?_); clear HS; (try simp only [World.size_alloc, World.size_setCell] at hs); have hC := feedL [s] s.data.toList hs HLA.out OK1.out HF2.out HQ3.out HL3.out HZ2.out; refine hC.mono ?_; clear hC; rintro e w1 ⟨LA, rfl, hl, hs⟩; clear HLA; have HLA := Lib.hid hl; clear hl; have HS := Lib.hid hs; clear hs) | (go_at_call 24; (with_reducible show Calls _ _ #[.pointer (some ⟨b2, 0, none⟩), _] _ _); refine K32.ca (fun xw hs => ?_); clear HS; (try simp only [World.size_alloc, World.size_setCell] at hs); have hC := feedL [s] s.data.toList hs HLB.out OK0.out HF3.out HQ3.out HL3.out HZ2.out; refine hC.mono ?_; clear hC; rintro e w1 ⟨LB, rfl, hl, hs⟩; clear HLB; have HLB := Lib.hid hl; clear hl; have HS := Lib.hid hs; clear hs) | (go_at_call 34; (with_reducible show Calls _ _ #[.pointer (some ⟨b, 0, none⟩)] _ _); refine K32.ca (fun xw hs => ?_); clear HS; (try simp only [World.size_alloc, World.size_setCell] at hs); have hC := screenL (fun k c => .agg #[.int .i64 m2.t.cg.w, .int .i64 m2.t.cg.h, .slice (some ⟨k, 0, none⟩) m2.t.cg.c.length c, .int .i64 m2.t.m.cu.x, .int .i64 m2.t.m.cu.y, .bool m2.t.m.hidden]) hs HLA.out OK2.out HV2.out; refine hC.mono ?_; clear hC; rintro e w1 ⟨k1, c1, LA, rfl, hl, hs⟩; clear HLA; have HLA := Lib.hid hl; clear hl; have HS := Lib.hid hs; clear hs) | (go_at_call 34; (with_reducible show Calls _ _ #[.pointer (some ⟨b2, 0, none⟩)] _ _); refine K32.ca (fun xw hs => ?_); clear HS; (try simp only [World.size_alloc, World.size_setCell] at hs); have hC := scrL (fun k c => .agg #[.int .i64 m2.t.cg.w, .int .i64 m2.t.cg.h, .slice (some ⟨k, 0, none⟩) m2.t.cg.c.length c, .int .i64 m2.t.m.cu.x, .int .i64 m2.t.m.cu.y, .bool m2.t.m.hidden]) m2.t.cg.c hs HLB.out OK3.out HV3.out HC3.out; refine hC.mono ?_; clear hC; rintro e w1 ⟨k2, c2, LB, rfl, hl, hs⟩; clear HLB; have HLB := Lib.hid hl; clear hl; have HS := Lib.hid hs; clear hs) | (go_at_call 33; refine K32.ca (fun xw hs => ?_); clear HS; (try simp only [World.size_alloc, World.size_setCell] at hs); have hC := same_q k1 c1 k2 c2 m2.t.cg.w m2.t.cg.h m2.t.m.cu.x m2.t.m.cu.y m2.t.m.hidden m2.t.cg.c _ _ (hs.pick2 rma rma) HCL.out; refine hC.mono ?_; clear hC; rintro e w1 ⟨rfl, hb⟩; replace hs := hs.below hb; clear hb; have HS := Lib.hid hs; clear hs) | (go_at_call 25; (with_reducible show Calls _ _ #[.pointer (some ⟨b, 0, none⟩)] _ _); refine K32.ca (fun xw hs => ?_); clear HS; (try simp only [World.size_alloc, World.size_setCell] at hs); have hC := textV TN (TX.map U3.strW) hs HLA.out OK2.out HU1.out HU2.out HTN.out; refine hC.mono ?_; clear hC; rintro e w1 ⟨g1, d1, LA, rfl, hl, hs⟩; clear HLA; have HLA := Lib.hid hl; clear hl; have HS := Lib.hid hs; clear hs) | (go_at_call 25; (with_reducible show Calls _ _ #[.pointer (some ⟨b2, 0, none⟩)] _ _); refine K32.ca (fun xw hs => ?_); clear HS; (try simp only [World.size_alloc, World.size_setCell] at hs); have hC := textV TN (TX.map U3.strW) hs HLB.out OK3.out HY1.out HY2.out HTN.out; refine hC.mono ?_; clear hC; rintro e w1 ⟨g2, d2, LB, rfl, hl, hs⟩; clear HLB; have HLB := Lib.hid hl; clear hl; have HS := Lib.hid hs; clear hs) | (go_at_call 38; refine K32.ca (fun xw hs => ?_); clear HS; (try simp only [World.size_alloc, World.size_setCell] at hs); have hC := texts_q g1 d1 g2 d2 TN TX HTX.out _ _ (hs.pick2 (r1 := .row (.slice (some ⟨g1, 0, none⟩) TN d1) 9 1 TN (TX.map U3.strW)) (r2 := .row (.slice (some ⟨g2, 0, none⟩) TN d2) 9 1 TN (TX.map U3.strW)) rma rma) HTN2.out; refine hC.mono ?_; clear hC; rintro e w1 ⟨rfl, hb⟩; replace hs := hs.below hb; clear hb; have HS := Lib.hid hs; clear hs) | (go_at_call 37; (with_reducible show Calls _ _ #[.pointer (some ⟨b, 0, none⟩)] _ _); refine K32.ca (fun xw hs => ?_); clear HS; (try simp only [World.size_alloc, World.size_setCell] at hs); have hC := alt_q hs HLA.out OK2.out AV HA2.out; refine hC.mono ?_; clear hC; rintro e w1 ⟨rfl, hb⟩; replace hs := hs.below hb; clear hb; have HS := Lib.hid hs; clear hs) | (go_at_call 37; (with_reducible show Calls _ _ #[.pointer (some ⟨b2, 0, none⟩)] _ _); refine K32.ca (fun xw hs => ?_); clear HS; (try simp only [World.size_alloc, World.size_setCell] at hs); have hC := alt_q hs HLB.out OK3.out AV HA3.out; refine hC.mono ?_; clear hC; rintro e w1 ⟨rfl, hb⟩; replace hs := hs.below hb; clear hb; have HS := Lib.hid hs; clear hs) | fail)
  go_ret
  exact ⟨rfl, HS.out.hereLow (B := W.heap.size) (w0 := W) rma⟩
theorem resets_long (w h : Int) (a s : ByteArray) (W : World) (hr : 500 < a.size ∨ (a.size ≤ 500 ∧ 300 < s.size)) (h1 : a.size ≤ 9223372036854775807) (h2 : s.size ≤ 9223372036854775807) : Calls Tryz.prog 17 #[.int .i64 w, .int .i64 h, .string a, .string s] W fun e w' => e = .returned (.bool true) ∧ Below W.heap.size W w' := by
  have HS := Lib.hid (Sep.start W)
  rcases hr with hr | ⟨hr, hr2⟩
  all_goals
    go_enter Tryz.func17, Tryz.ntmps17
    go_wp2_with (first | (go_at_call 21; refine K32.ca (fun xw hs => ?_); clear HS; (try simp only [World.size_alloc, World.size_setCell] at hs); (with_reducible refine (alive_any _).mono ?_); rintro e w1 ⟨rfl, hb⟩; replace hs := hs.below hb; clear hb; have HS := Lib.hid hs; clear hs) | fail)
    go_ret
    exact ⟨rfl, HS.out.hereLow (B := W.heap.size) (w0 := W) rma⟩
theorem law_any (w h : Int) (a s : ByteArray) (W : World) (h1 : a.size ≤ 9223372036854775807) (h2 : s.size ≤ 9223372036854775807) : Calls Tryz.prog 17 #[.int .i64 w, .int .i64 h, .string a, .string s] W fun e w' => e = .returned (.bool true) ∧ Below W.heap.size W w' := by
  by_cases hb : a.size ≤ 500 ∧ s.size ≤ 300
  · exact resets_any w h a s W hb.1 hb.2
  · exact resets_long w h a s W (by omega) h1 h2
end Go.Proofs.YtnjgnbdebkckfaaGreatDoor.X11
