/- the reader among the parts of memory -/
import Derived.Test.YtemdhbjcdibpfaaDoorW12
namespace Go.Proofs.YtemdhbjcdibpfaaDoor.W13
set_option linter.unusedVariables false
set_option linter.unusedSimpArgs false
set_option linter.unnecessarySimpa false
set_option maxRecDepth 100000
open Go.RowKit K1 K3 K5 K11 K12 K14 K20 K21 K22 W0 W1 W2 W3 W4 W5 W6 W7 W8 W9 W12 N0 N1 N2 N3 N4 N5 N6 N7

attribute [local go_sem] cell_pastA froz_pastA
def rdL (b : Nat) (sv dv ov : Value) (o : Bool) (r : Rd) : List Res :=
  [.blk b (cellsR o r sv dv ov).toList 57, .row sv 5 1 r.sub.length (r.sub.map K14.u8), .row dv 5 1 r.data.length (r.data.map K14.u8), .row ov 61 4 r.out.length (r.out.flatMap tokCells)]
theorem has_foot {v : Value} {k : Nat} : k ∈ foot v ↔ v.ownBlock = some k := mem_foot
theorem rdr_of_sep {w : World} {b : Nat} {sv dv ov : Value} {o : Bool} {r : Rd} {F : List Res} (h : Sep w (rdL b sv dv ov o r ++ F)) (hst : r.st < 6) : Rdr w b (ftR b sv dv ov) o r ∧ ∀ k ∈ ftR b sv dv ov, ∀ s ∈ F, ¬ s.has k := by
  have hap := h.apart
  unfold rdL at hap
  simp only [List.cons_append, List.nil_append] at hap
  obtain ⟨p1, hap⟩ := List.pairwise_cons.1 hap
  obtain ⟨p2, hap⟩ := List.pairwise_cons.1 hap
  obtain ⟨p3, hap⟩ := List.pairwise_cons.1 hap
  obtain ⟨p4, hap⟩ := List.pairwise_cons.1 hap
  have n1 : ∀ k ∈ foot sv, k ≠ b := fun k hk e => p1 _ (List.mem_cons_self ..) b rfl (by subst e; exact mem_foot.1 hk)
  have n2 : ∀ k ∈ foot dv, k ≠ b := fun k hk e => p1 (.row dv 5 1 r.data.length (r.data.map K14.u8)) (by simp) b rfl (by subst e; exact mem_foot.1 hk)
  have n3 : ∀ k ∈ foot ov, k ≠ b := fun k hk e => p1 (.row ov 61 4 r.out.length (r.out.flatMap tokCells)) (by simp) b rfl (by subst e; exact mem_foot.1 hk)
  have n4 : ∀ k ∈ foot sv, k ∉ foot dv := fun k hk hk' => p2 (.row dv 5 1 r.data.length (r.data.map K14.u8)) (by simp) k (mem_foot.1 hk) (mem_foot.1 hk')
  have n5 : ∀ k ∈ foot sv, k ∉ foot ov := fun k hk hk' => p2 (.row ov 61 4 r.out.length (r.out.flatMap tokCells)) (by simp) k (mem_foot.1 hk) (mem_foot.1 hk')
  have n6 : ∀ k ∈ foot dv, k ∉ foot ov := fun k hk hk' => p3 (.row ov 61 4 r.out.length (r.out.flatMap tokCells)) (by simp) k (mem_foot.1 hk) (mem_foot.1 hk')
  have hb : w.heap[b]? = some (.cells (cellsR o r sv dv ov).toList.toArray 57 (0, 0)) := h.all (.blk b (cellsR o r sv dv ov).toList 57) (by simp [rdL])
  refine ⟨⟨sv, dv, ov, rfl, by simpa using hb, h.rowAt 1 rfl, h.rowAt 2 rfl, h.rowAt 3 rfl, hst, apart_of n1 n2 n3 n4 n5 n6⟩, fun k hk s hs => ?_⟩
  unfold ftR at hk
  simp only [List.mem_cons, List.mem_append] at hk
  rcases hk with rfl | (hk | hk) | hk
  · exact p1 s (by simp [hs]) k rfl
  · exact p2 s (by simp [hs]) k (mem_foot.1 hk)
  · exact p3 s (by simp [hs]) k (mem_foot.1 hk)
  · exact p4 s (by simp [hs]) k (mem_foot.1 hk)
/-- a reader beside the rest -/
theorem sep_of_rdr {w : World} {b : Nat} {S : List Nat} {o : Bool} {r : Rd} {F : List Res} (h : Rdr w b S o r) (hF : Sep w F) (hd : ∀ k ∈ S, ∀ s ∈ F, ¬ s.has k) : r.st < 6 ∧ ∃ sv dv ov, Sep w (rdL b sv dv ov o r ++ F) := by
  obtain ⟨sv, dv, ov, rfl, hR⟩ := h
  obtain ⟨n1, n2, n3, n4, n5, n6⟩ := hR.ne
  have hm : ∀ k, k ∈ ftR b sv dv ov ↔ k = b ∨ (k ∈ foot sv ∨ k ∈ foot dv) ∨ k ∈ foot ov := fun k => by unfold ftR; simp [or_assoc]
  refine ⟨hR.st, sv, dv, ov, ⟨fun s hs => ?_, ?_⟩⟩
  · unfold rdL at hs
    simp only [List.cons_append, List.nil_append, List.mem_cons] at hs
    rcases hs with rfl | rfl | rfl | rfl | hs
    · simpa [Res.holds] using hR.blk
    · exact hR.sub
    · exact hR.dat
    · exact hR.out
    · exact hF.all s hs
  · unfold rdL
    simp only [List.cons_append, List.nil_append]
    refine List.pairwise_cons.2 ⟨fun s hs k hk hk' => ?_, List.pairwise_cons.2 ⟨fun s hs k hk hk' => ?_, List.pairwise_cons.2 ⟨fun s hs k hk hk' => ?_, List.pairwise_cons.2 ⟨fun s hs k hk hk' => ?_, hF.apart⟩⟩⟩⟩
    · obtain rfl : k = b := hk
      simp only [List.mem_cons] at hs
      rcases hs with rfl | rfl | rfl | hs
      · exact n1 k (mem_foot.2 hk') rfl
      · exact n2 k (mem_foot.2 hk') rfl
      · exact n3 k (mem_foot.2 hk') rfl
      · exact hd k ((hm k).2 (.inl rfl)) s hs hk'
    · simp only [List.mem_cons] at hs
      have hk := mem_foot.2 (show sv.ownBlock = some k from hk)
      rcases hs with rfl | rfl | hs
      · exact n4 k hk (mem_foot.2 hk')
      · exact n5 k hk (mem_foot.2 hk')
      · exact hd k ((hm k).2 (.inr (.inl (.inl hk)))) s hs hk'
    · simp only [List.mem_cons] at hs
      have hk := mem_foot.2 (show dv.ownBlock = some k from hk)
      rcases hs with rfl | hs
      · exact n6 k hk (mem_foot.2 hk')
      · exact hd k ((hm k).2 (.inr (.inl (.inr hk)))) s hs hk'
    · have hk := mem_foot.2 (show ov.ownBlock = some k from hk)
      exact hd k ((hm k).2 (.inr (.inr hk))) s hs hk'
structure FeedP (F : List Res) (b : Nat) (r : Rd) (p : List UInt8) (e : Ending) (w' : World) : Prop where
  out : ∃ v sv dv ov, e = .returned v ∧ (flushF (fedS r p)).st < 6 ∧ Sep w' (.row v 61 4 (flushF (fedS r p)).out.length ((flushF (fedS r p)).out.flatMap tokCells) :: (rdL b sv dv ov true { flushF (fedS r p) with out := [] } ++ F))
/-- one text is fed -/
theorem feed_sepR (b : Nat) (sv dv ov : Value) (o : Bool) (r : Rd) (p : List UInt8) (F : List Res) (w : World) (sb cap : Nat) (h : Sep w (rdL b sv dv ov o r ++ F)) (hst : r.st < 6) (hc : w.cell? ⟨sb, 0, none⟩ = some (.string ⟨p.toArray⟩)) (hsb : sb ∉ ftR b sv dv ov)
    (hT : r.data.length + r.out.length + 2 * p.length ≤ 1000000) (hS : r.sub.length ≤ 40) : Calls Tryd.prog 20 #[.pointer (some ⟨b, 0, none⟩), .slice (some ⟨sb, 0, none⟩) 1 cap] w (FeedP F b r p) := by
  obtain ⟨hO, hdis⟩ := rdr_of_sep h hst
  have hsz : (⟨p.toArray⟩ : ByteArray).size = p.length := by simp [ByteArray.size]
  refine (feed_any b _ o r w sb 0 1 cap (fun _ => ⟨p.toArray⟩) hO (fun k hk => by (obtain rfl : k = 0 := (by omega)); simpa using hc) (World.block_lt_of_cell? w _ hc) hsb (by simp [wgt, tot, hsz]; omega) hS (by decide)).mono ?_
  rintro e w' ⟨v, S', rfl, hv, hO', hM, hd⟩
  have e1 : fedN r (fun _ => ⟨p.toArray⟩) 1 = fedS r p := by simp [fedN]
  rw [e1] at hv hO'
  have hF0 : Sep w F := h.right
  have hF' : Sep w' F := hF0.frame (Leaves.of_fr hM.fr) (fun s hs k hk hm => hdis k hm s hs hk)
  have hnew : ∀ k, k ∈ S' ++ foot v → ∀ s ∈ F, ¬ s.has k := fun k hk s hs hh => by
    rcases hM.sub k hk with h1 | h1
    · exact hdis k h1 s hs hh
    · have := Res.lt (hF0.all s hs) hh; omega
  obtain ⟨hst', sv', dv', ov', hS'⟩ := sep_of_rdr hO' hF' (fun k hk => hnew k (by simp [hk]))
  refine ⟨⟨v, sv', dv', ov', rfl, hst', ⟨fun s hs => ?_, List.pairwise_cons.2 ⟨fun s hs k hk hk' => ?_, hS'.apart⟩⟩⟩⟩
  · rcases List.mem_cons.1 hs with rfl | hs
    · exact hv
    · exact hS'.all s hs
  · have hkv := mem_foot.2 (show v.ownBlock = some k from hk)
    rcases List.mem_append.1 hs with hs | hs
    · -- a part of the reader
      obtain ⟨sv2, dv2, ov2, hSe, hR⟩ := hO'
      have hRb := hR.blk
      have hS2 := rdr_of_sep hS' hst'
      obtain ⟨⟨sv3, dv3, ov3, hSe3, hR3⟩, _⟩ := hS2
      have hc1 := hR.blk.symm.trans hR3.blk
      have hcs : cellsR true { flushF (fedS r p) with out := [] } sv2 dv2 ov2 = cellsR true { flushF (fedS r p) with out := [] } sv3 dv3 ov3 := by simpa using hc1
      have t2 := congrArg (fun a : Array Value => (a[38]?, a[40]?, a[41]?)) hcs
      simp [cellsR, tabCells] at t2
      obtain ⟨rfl, rfl, rfl⟩ := t2
      have hb4 : w'.heap[b]? = some (.cells (cellsR true { flushF (fedS r p) with out := [] } sv' dv' ov').toList.toArray 57 (0, 0)) := hS'.all (.blk b (cellsR true { flushF (fedS r p) with out := [] } sv' dv' ov').toList 57) (by simp [rdL])
      have hc2 := hR.blk.symm.trans hb4
      have hcs2 : cellsR true { flushF (fedS r p) with out := [] } sv2 dv2 ov2 = cellsR true { flushF (fedS r p) with out := [] } sv' dv' ov' := by simpa using hc2
      have t3 := congrArg (fun a : Array Value => (a[38]?, a[40]?, a[41]?)) hcs2
      simp [cellsR, tabCells] at t3
      obtain ⟨rfl, rfl, rfl⟩ := t3
      have hnot := hd k hkv
      rw [hSe] at hnot
      unfold ftR at hnot
      simp only [List.mem_cons, List.mem_append, not_or] at hnot
      unfold rdL at hs
      simp only [List.mem_cons, List.not_mem_nil, or_false] at hs
      rcases hs with rfl | rfl | rfl | rfl
      · exact hnot.1 hk'
      · exact hnot.2.1.1 (mem_foot.2 hk')
      · exact hnot.2.1.2 (mem_foot.2 hk')
      · exact hnot.2.2 (mem_foot.2 hk')
    · exact hnew k (by simp [hkv]) s hs hk'
theorem whole_sep (b : Nat) (sv dv ov : Value) (o : Bool) (r : Rd) (F : List Res) (w : World) (h : Sep w (rdL b sv dv ov o r ++ F)) : Calls Tryd.prog 21 #[.pointer (some ⟨b, 0, none⟩)] w fun e w' => e = .returned (.bool (decide (r.st = 0))) ∧ w = w' := by
  obtain ⟨hc, hf, hl⟩ := h.cellsAt 0 rfl
  have h1 : w.cell? ⟨b, 34, none⟩ = some (.int .i64 r.st) := by rw [hc 34]; cases o <;> rfl
  clear hc hf h
  go_enter Tryd.func21, Tryd.ntmps21
  go_wp2_with fail
  go_ret
  refine ⟨?_, rfl⟩
  have e : ((r.st : Int) == 0) = decide (r.st = 0) := by rw [Bool.eq_iff_iff]; simp
  rw [← e]
  rfl
end Go.Proofs.YtemdhbjcdibpfaaDoor.W13
