/- fill -/
import Derived.Test.YtemdhbjcdibpfaaDoorN3
import Derived.Test.YtemdhbjcdibpfaaDoorN4
namespace Go.Proofs.YtemdhbjcdibpfaaDoor.N5
set_option maxRecDepth 100000
set_option linter.unusedVariables false
set_option linter.unusedSimpArgs false
set_option linter.unnecessarySimpa false
open Go.RowKit K1 K3 K5 K11 K12 K14 N0 N1 N2 N3 N4
attribute [local go_sem] cell_pastA froz_pastA
def tabP : Nat → List Value
  | 0 => [.int .i64 0, .int .i64 0, .int .i64 0, .int .i64 0, .int .i64 0, .int .i64 0, .int .i64 0, .int .i64 0, .int .i64 0, .int .i64 0, .int .i64 0, .int .i64 0, .int .i64 0, .int .i64 0, .int .i64 0, .int .i64 0, .int .i64 0, .int .i64 0, .int .i64 0, .int .i64 0, .int .i64 0, .int .i64 0, .int .i64 0, .int .i64 0, .int .i64 0, .int .i64 0, .int .i64 0, .int .i64 0, .int .i64 0, .int .i64 0]
  | 1 => [.int .i64 1, .int .i64 0, .int .i64 0, .int .i64 0, .int .i64 0, .int .i64 3, .int .i64 0, .int .i64 0, .int .i64 0, .int .i64 0, .int .i64 5, .int .i64 0, .int .i64 0, .int .i64 0, .int .i64 0, .int .i64 7, .int .i64 0, .int .i64 0, .int .i64 0, .int .i64 0, .int .i64 8, .int .i64 0, .int .i64 0, .int .i64 0, .int .i64 0, .int .i64 11, .int .i64 0, .int .i64 0, .int .i64 0, .int .i64 0]
  | 2 => [.int .i64 1, .int .i64 1, .int .i64 0, .int .i64 0, .int .i64 0, .int .i64 3, .int .i64 3, .int .i64 0, .int .i64 0, .int .i64 0, .int .i64 5, .int .i64 5, .int .i64 0, .int .i64 0, .int .i64 0, .int .i64 7, .int .i64 7, .int .i64 0, .int .i64 0, .int .i64 0, .int .i64 8, .int .i64 8, .int .i64 0, .int .i64 0, .int .i64 0, .int .i64 11, .int .i64 11, .int .i64 0, .int .i64 0, .int .i64 0]
  | 3 => [.int .i64 1, .int .i64 1, .int .i64 1, .int .i64 0, .int .i64 0, .int .i64 3, .int .i64 3, .int .i64 3, .int .i64 0, .int .i64 0, .int .i64 5, .int .i64 5, .int .i64 5, .int .i64 0, .int .i64 0, .int .i64 7, .int .i64 7, .int .i64 7, .int .i64 0, .int .i64 0, .int .i64 8, .int .i64 8, .int .i64 8, .int .i64 0, .int .i64 0, .int .i64 11, .int .i64 11, .int .i64 11, .int .i64 0, .int .i64 0]
  | 4 => [.int .i64 1, .int .i64 1, .int .i64 1, .int .i64 1, .int .i64 0, .int .i64 3, .int .i64 3, .int .i64 3, .int .i64 3, .int .i64 0, .int .i64 5, .int .i64 5, .int .i64 5, .int .i64 5, .int .i64 0, .int .i64 7, .int .i64 7, .int .i64 7, .int .i64 7, .int .i64 0, .int .i64 8, .int .i64 8, .int .i64 8, .int .i64 8, .int .i64 0, .int .i64 11, .int .i64 11, .int .i64 11, .int .i64 11, .int .i64 0]
  | _ => [.int .i64 1, .int .i64 1, .int .i64 1, .int .i64 1, .int .i64 1, .int .i64 3, .int .i64 3, .int .i64 3, .int .i64 3, .int .i64 3, .int .i64 5, .int .i64 5, .int .i64 5, .int .i64 5, .int .i64 5, .int .i64 7, .int .i64 7, .int .i64 7, .int .i64 7, .int .i64 7, .int .i64 8, .int .i64 8, .int .i64 8, .int .i64 8, .int .i64 8, .int .i64 11, .int .i64 11, .int .i64 11, .int .i64 11, .int .i64 11]
def cellsX (p0 p1 p2 p3 q0 q1 q2 q3 q4 q5 q6 q7 : Value) (tab : List Value) : Array Value := (([p0, p1, p2, p3] : List Value) ++ tab ++ [q0, q1, q2, q3, q4, q5, q6, q7]).toArray
set_option maxHeartbeats 4000000 in
set_option maxRecDepth 100000 in
theorem fill_any (b : Nat) (p0 p1 p2 p3 q0 q1 q2 q3 q4 q5 q6 q7 : Value) (w : World) (hb : w.heap[b]? = some (.cells (cellsX p0 p1 p2 p3 q0 q1 q2 q3 q4 q5 q6 q7 (tabP 0)) 57 (0, 0))) :
    Calls Tryd.prog 29 #[.pointer (some ⟨b, 0, none⟩)] w fun e w' => e = .returned (.tuple #[]) ∧ w'.heap[b]? = some (.cells (cellsX p0 p1 p2 p3 q0 q1 q2 q3 q4 q5 q6 q7 tabCells) 57 (0, 0)) ∧ Fr w.heap.size [b] w w' := by
  have HB := Lib.hid hb
  clear hb
  go_enter Tryd.func29, Tryd.ntmps29
  go_wp2_with fail
  go_loopw [3] (fun i wr => ∃ k : Nat, k ≤ 5 ∧ i = .int .i64 k ∧ wr.heap[b]? = some (.cells (cellsX p0 p1 p2 p3 q0 q1 q2 q3 q4 q5 q6 q7 (tabP k)) 57 (0, 0)) ∧ Fr w.heap.size [b] w wr) (fun i _ => 5 - (intOf i).toNat)
  case atStart => exact ⟨0, by omega, rfl, HB.out, Fr.refl _ _ _⟩
  case round =>
    obtain ⟨k, hk5, rfl, hb, hF⟩ := hrel
    have hlt := blk_lt hb
    have hfz := froz_blk hb
    have HF := Lib.hid hF
    obtain rfl | rfl | rfl | rfl | rfl | rfl : k = 0 ∨ k = 1 ∨ k = 2 ∨ k = 3 ∨ k = 4 ∨ k = 5 := by omega
    · have hk := cell_blk (show wr.heap[b]? = some (.cells #[p0, p1, p2, p3, .int .i64 0, .int .i64 0, .int .i64 0, .int .i64 0, .int .i64 0, .int .i64 0, .int .i64 0, .int .i64 0, .int .i64 0, .int .i64 0, .int .i64 0, .int .i64 0, .int .i64 0, .int .i64 0, .int .i64 0, .int .i64 0, .int .i64 0, .int .i64 0, .int .i64 0, .int .i64 0, .int .i64 0, .int .i64 0, .int .i64 0, .int .i64 0, .int .i64 0, .int .i64 0, .int .i64 0, .int .i64 0, .int .i64 0, .int .i64 0, q0, q1, q2, q3, q4, q5, q6, q7] 57 (0, 0)) from hb)
      go_wp2_with fail
      go_roundw
      case rel =>
        refine ⟨1, by omega, by go_num, ?_, ?_⟩
        · refine (blk_set (blk_set (blk_set (blk_set (blk_set (blk_set hb)))))).trans ?_
          kernel_rfl
        · have hF := HF.out
          clear hb hk hfz HB
          repeat' (first | with_reducible assumption | with_reducible exact Fr.refl _ _ _ | with_reducible apply Fr.alloc | (with_reducible apply Fr.setCell <;> first | (left; simp; done) | (right; simp; done) | (right; simp; omega) | skip) | with_reducible apply Fr.drew | (refine Fr.trans ?_ (Fr.of_below (Below.mono (by with_reducible assumption) ?_))) | omega | (simp; omega) | (simp; done))
      case measure => simp [intOf]
    · have hk := cell_blk (show wr.heap[b]? = some (.cells #[p0, p1, p2, p3, .int .i64 1, .int .i64 0, .int .i64 0, .int .i64 0, .int .i64 0, .int .i64 3, .int .i64 0, .int .i64 0, .int .i64 0, .int .i64 0, .int .i64 5, .int .i64 0, .int .i64 0, .int .i64 0, .int .i64 0, .int .i64 7, .int .i64 0, .int .i64 0, .int .i64 0, .int .i64 0, .int .i64 8, .int .i64 0, .int .i64 0, .int .i64 0, .int .i64 0, .int .i64 11, .int .i64 0, .int .i64 0, .int .i64 0, .int .i64 0, q0, q1, q2, q3, q4, q5, q6, q7] 57 (0, 0)) from hb)
      go_wp2_with fail
      go_roundw
      case rel =>
        refine ⟨2, by omega, by go_num, ?_, ?_⟩
        · refine (blk_set (blk_set (blk_set (blk_set (blk_set (blk_set hb)))))).trans ?_
          kernel_rfl
        · have hF := HF.out
          clear hb hk hfz HB
          repeat' (first | with_reducible assumption | with_reducible exact Fr.refl _ _ _ | with_reducible apply Fr.alloc | (with_reducible apply Fr.setCell <;> first | (left; simp; done) | (right; simp; done) | (right; simp; omega) | skip) | with_reducible apply Fr.drew | (refine Fr.trans ?_ (Fr.of_below (Below.mono (by with_reducible assumption) ?_))) | omega | (simp; omega) | (simp; done))
      case measure => simp [intOf]
    · have hk := cell_blk (show wr.heap[b]? = some (.cells #[p0, p1, p2, p3, .int .i64 1, .int .i64 1, .int .i64 0, .int .i64 0, .int .i64 0, .int .i64 3, .int .i64 3, .int .i64 0, .int .i64 0, .int .i64 0, .int .i64 5, .int .i64 5, .int .i64 0, .int .i64 0, .int .i64 0, .int .i64 7, .int .i64 7, .int .i64 0, .int .i64 0, .int .i64 0, .int .i64 8, .int .i64 8, .int .i64 0, .int .i64 0, .int .i64 0, .int .i64 11, .int .i64 11, .int .i64 0, .int .i64 0, .int .i64 0, q0, q1, q2, q3, q4, q5, q6, q7] 57 (0, 0)) from hb)
      go_wp2_with fail
      go_roundw
      case rel =>
        refine ⟨3, by omega, by go_num, ?_, ?_⟩
        · refine (blk_set (blk_set (blk_set (blk_set (blk_set (blk_set hb)))))).trans ?_
          kernel_rfl
        · have hF := HF.out
          clear hb hk hfz HB
          repeat' (first | with_reducible assumption | with_reducible exact Fr.refl _ _ _ | with_reducible apply Fr.alloc | (with_reducible apply Fr.setCell <;> first | (left; simp; done) | (right; simp; done) | (right; simp; omega) | skip) | with_reducible apply Fr.drew | (refine Fr.trans ?_ (Fr.of_below (Below.mono (by with_reducible assumption) ?_))) | omega | (simp; omega) | (simp; done))
      case measure => simp [intOf]
    · have hk := cell_blk (show wr.heap[b]? = some (.cells #[p0, p1, p2, p3, .int .i64 1, .int .i64 1, .int .i64 1, .int .i64 0, .int .i64 0, .int .i64 3, .int .i64 3, .int .i64 3, .int .i64 0, .int .i64 0, .int .i64 5, .int .i64 5, .int .i64 5, .int .i64 0, .int .i64 0, .int .i64 7, .int .i64 7, .int .i64 7, .int .i64 0, .int .i64 0, .int .i64 8, .int .i64 8, .int .i64 8, .int .i64 0, .int .i64 0, .int .i64 11, .int .i64 11, .int .i64 11, .int .i64 0, .int .i64 0, q0, q1, q2, q3, q4, q5, q6, q7] 57 (0, 0)) from hb)
      go_wp2_with fail
      go_roundw
      case rel =>
        refine ⟨4, by omega, by go_num, ?_, ?_⟩
        · refine (blk_set (blk_set (blk_set (blk_set (blk_set (blk_set hb)))))).trans ?_
          kernel_rfl
        · have hF := HF.out
          clear hb hk hfz HB
          repeat' (first | with_reducible assumption | with_reducible exact Fr.refl _ _ _ | with_reducible apply Fr.alloc | (with_reducible apply Fr.setCell <;> first | (left; simp; done) | (right; simp; done) | (right; simp; omega) | skip) | with_reducible apply Fr.drew | (refine Fr.trans ?_ (Fr.of_below (Below.mono (by with_reducible assumption) ?_))) | omega | (simp; omega) | (simp; done))
      case measure => simp [intOf]
    · have hk := cell_blk (show wr.heap[b]? = some (.cells #[p0, p1, p2, p3, .int .i64 1, .int .i64 1, .int .i64 1, .int .i64 1, .int .i64 0, .int .i64 3, .int .i64 3, .int .i64 3, .int .i64 3, .int .i64 0, .int .i64 5, .int .i64 5, .int .i64 5, .int .i64 5, .int .i64 0, .int .i64 7, .int .i64 7, .int .i64 7, .int .i64 7, .int .i64 0, .int .i64 8, .int .i64 8, .int .i64 8, .int .i64 8, .int .i64 0, .int .i64 11, .int .i64 11, .int .i64 11, .int .i64 11, .int .i64 0, q0, q1, q2, q3, q4, q5, q6, q7] 57 (0, 0)) from hb)
      go_wp2_with fail
      go_roundw
      case rel =>
        refine ⟨5, by omega, by go_num, ?_, ?_⟩
        · refine (blk_set (blk_set (blk_set (blk_set (blk_set (blk_set hb)))))).trans ?_
          kernel_rfl
        · have hF := HF.out
          clear hb hk hfz HB
          repeat' (first | with_reducible assumption | with_reducible exact Fr.refl _ _ _ | with_reducible apply Fr.alloc | (with_reducible apply Fr.setCell <;> first | (left; simp; done) | (right; simp; done) | (right; simp; omega) | skip) | with_reducible apply Fr.drew | (refine Fr.trans ?_ (Fr.of_below (Below.mono (by with_reducible assumption) ?_))) | omega | (simp; omega) | (simp; done))
      case measure => simp [intOf]
    · have hk := cell_blk (show wr.heap[b]? = some (.cells #[p0, p1, p2, p3, .int .i64 1, .int .i64 1, .int .i64 1, .int .i64 1, .int .i64 1, .int .i64 3, .int .i64 3, .int .i64 3, .int .i64 3, .int .i64 3, .int .i64 5, .int .i64 5, .int .i64 5, .int .i64 5, .int .i64 5, .int .i64 7, .int .i64 7, .int .i64 7, .int .i64 7, .int .i64 7, .int .i64 8, .int .i64 8, .int .i64 8, .int .i64 8, .int .i64 8, .int .i64 11, .int .i64 11, .int .i64 11, .int .i64 11, .int .i64 11, q0, q1, q2, q3, q4, q5, q6, q7] 57 (0, 0)) from hb)
      go_wp2_with fail
      first | go_end0 | refine bodyPost_ret (results_none rfl _ _ _) rfl ?_
      refine ⟨rfl, ?_, ?_⟩
      · refine (blk_set (blk_set (blk_set (blk_set (blk_set (blk_set (blk_set hb))))))).trans ?_
        kernel_rfl
      · have hF := HF.out
        clear hb hk hfz HB
        repeat' (first | with_reducible assumption | with_reducible exact Fr.refl _ _ _ | with_reducible apply Fr.alloc | (with_reducible apply Fr.setCell <;> first | (left; simp; done) | (right; simp; done) | (right; simp; omega) | skip) | with_reducible apply Fr.drew | (refine Fr.trans ?_ (Fr.of_below (Below.mono (by with_reducible assumption) ?_))) | omega | (simp; omega) | (simp; done))
end Go.Proofs.YtemdhbjcdibpfaaDoor.N5
