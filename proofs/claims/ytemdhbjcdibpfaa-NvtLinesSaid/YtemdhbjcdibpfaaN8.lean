/- Whole, Sub, alive -/
import Derived.Test.YtemdhbjcdibpfaaN7
namespace Go.Proofs.Ytemdhbjcdibpfaa.N8
set_option linter.unusedVariables false
set_option linter.unusedSimpArgs false
set_option linter.unnecessarySimpa false
open Go.RowKit K1 K3 K5 K11 K12 K14 N0 N1 N2 N3 N4 N5 N6 N7
attribute [local go_sem] cell_pastA froz_pastA
theorem Rep.cells' {w : World} {b : Nat} {o : Bool} {r : Rd} {sv dv ov : Value} (h : Rep w b o r sv dv ov) :
    w.cell? ⟨b, 34, none⟩ = some (.int .i64 r.st) ∧ w.cell? ⟨b, 38, none⟩ = some sv := by
  have h1 := cell_blk h.blk
  cases o <;> exact ⟨h1 34, h1 38⟩
theorem whole_any (b : Nat) (S : List Nat) (o : Bool) (r : Rd) (w : World) (hO : Rdr w b S o r) :
    Calls Try.prog 9 #[.pointer (some ⟨b, 0, none⟩)] w fun e w' => e = .returned (.bool (decide (r.st = 0))) ∧ w = w' := by
  obtain ⟨sv, dv, ov, rfl, hR⟩ := hO
  obtain ⟨h1, h2⟩ := Rep.cells' hR
  clear hR
  go_enter Try.func9, Try.ntmps9
  go_wp2_with fail
  go_ret
  refine ⟨?_, rfl⟩
  have e : ((r.st : Int) == 0) = decide (r.st = 0) := by rw [Bool.eq_iff_iff]; simp
  rw [← e]
  rfl
theorem sub_any (b : Nat) (S : List Nat) (o : Bool) (r : Rd) (w : World) (hO : Rdr w b S o r) :
    Calls Try.prog 16 #[.pointer (some ⟨b, 0, none⟩)] w fun e w' => e = .returned (.int .i64 r.sub.length) ∧ w = w' := by
  obtain ⟨sv, dv, ov, rfl, hR⟩ := hO
  obtain ⟨h1, h2⟩ := Rep.cells' hR
  obtain ⟨sa, sc, rfl, hsa⟩ := own_slice hR.sub
  clear hR
  go_enter Try.func16, Try.ntmps16
  go_wp2_with fail
  go_ret
  exact ⟨rfl, rfl⟩
def new (bin : Bool) : Rd := ⟨bin, 0, false, 0, 0, [], false, [], []⟩
theorem rdr_new {w : World} {b : Nat} {bin : Bool} (h : w.heap[b]? = some (.cells (cellsR false (new bin) (.slice none 0 0) (.slice none 0 0) (.slice none 0 0)) 42 (0, 0))) : Rdr w b [b] false (new bin) :=
  ⟨_, _, _, by simp [ftR], h, World.ownsRow_nil _ _ _ _, World.ownsRow_nil _ _ _ _, World.ownsRow_nil _ _ _ _, by simp [new], by simp⟩
theorem own_at {w : World} {g n c : Nat} {e : TypeId} {s : Nat} {xs : List Value} (h : w.ownsRow 0 e s (.slice (some ⟨g, 0, none⟩) n c) n xs) {j : Nat} {u : Value} (hu : xs[j]? = some u) : w.cell? ⟨g, j, none⟩ = some u := by
  have := h.cells rfl j u hu
  have hadd : (⟨g, 0, none⟩ : Addr).add j = ⟨g, j, none⟩ := by unfold Addr.add; split <;> simp_all
  rwa [hadd] at this
def LA : Nat → ByteArray := fun k => if k = 0 then ⟨#[97, 13, 0, 98]⟩ else ⟨#[255, 255, 255, 251, 1]⟩
set_option maxHeartbeats 4000000 in
set_option maxRecDepth 100000 in
theorem alive_any (w : World) : Calls Try.prog 7 #[] w fun e w' => e = .returned (.bool true) ∧ Below w.heap.size w w' := by
  go_enter Try.func7, Try.ntmps7
  go_wp2_with fail
  refine (feed_any w.heap.size [w.heap.size] false (new false) _ (w.heap.size + 1) 0 2 2 LA ?_ ?_ ?_ ?_ ?_ ?_ ?_).mono ?_
  · exact rdr_new ((blk_alloc (heap_alloc_new w _)).trans rfl)
  · intro k hk
    obtain rfl | rfl : k = 0 ∨ k = 1 := by omega
    · simp [LA]
    · simp [LA]
  · simp
  · simp
  · decide
  · decide
  · decide
  rintro e w1 ⟨v, S1, rfl, hv, hO1, hM1, hd⟩
  have hout : (flushF (fedN (new false) LA 2)).out = [⟨0, 0, 0, [97, 13, 98, 255]⟩, ⟨2, 251, 1, []⟩] := by kernel_rfl
  have hst : decide ((flushF (fedN (new false) LA 2)).st = 0) = true := by kernel_rfl
  rw [hout] at hv
  obtain ⟨g, cap, rfl, _, hg⟩ := hv.form (by decide)
  have c3 := own_at hv (j := 3) (u := .string ⟨#[97, 13, 98, 255]⟩) rfl
  have c4 := own_at hv (j := 4) (u := .int .i64 2) rfl
  have c5 := own_at hv (j := 5) (u := .int .i64 251) rfl
  have c6 := own_at hv (j := 6) (u := .int .i64 1) rfl
  have HO1 := Lib.hid hO1
  have HM1 := Lib.hid hM1
  clear hO1 hM1 hd hout hv
  go_wp2_with (go_at_call 9; refine (whole_any _ S1 true _ _ HO1.out).mono ?_; rintro e w2 ⟨rfl, rfl⟩)
  go_ret
  refine ⟨?_, ?_⟩
  · simp_all
  · have hb := HM1.out.below (B := w.heap.size) (by simp; omega) (by simp)
    exact Below.trans (by repeat' (first | with_reducible assumption | with_reducible exact Below.refl _ _ | with_reducible apply Below.alloc | with_reducible apply Below.setCell | with_reducible apply Below.drew | (refine Below.trans ?_ (Below.mono (by with_reducible assumption) ?_)) | omega | (simp; omega) | (simp; done))) hb
end Go.Proofs.Ytemdhbjcdibpfaa.N8
