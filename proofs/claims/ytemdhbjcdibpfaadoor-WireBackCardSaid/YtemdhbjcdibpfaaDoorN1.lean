/- byte, class -/
import Derived.Test.YtemdhbjcdibpfaaDoorN0
import Derived.Test.YtemdhbjcdibpfaaDoorProg
import Derived.Lib.Hide
namespace Go.Proofs.YtemdhbjcdibpfaaDoor.N1
set_option maxRecDepth 100000
set_option linter.unusedVariables false
set_option linter.unusedSimpArgs false
set_option linter.unnecessarySimpa false
open Go.RowKit K1 K5 K12 K14 N0
theorem info5 : (Tryd.prog.info? 5).map (fun i => (i.zero, i.size, i.bytes)) = some (some (.int .u8 0), 1, 1) := by kernel_rfl
theorem class_any (c : UInt8) (w : World) : Calls Tryd.prog 39 #[u8 c] w fun e w' => e = .returned (.int .i64 (cls c)) ∧ w = w' := by
  unfold u8
  go_enter Tryd.func39, Tryd.ntmps39
  go_wp2
  all_goals
    have hcl := c.toNat_lt
    go_ret
    refine ⟨?_, rfl⟩
    simp only [beq_iff_eq, beq_eq_false_iff_ne, ne_eq] at *
    unfold cls
    (repeat' split) <;> first | rfl | omega
set_option maxHeartbeats 1000000 in
theorem byte_any (b : Nat) (S : List Nat) (r : Rd) (c : UInt8) (w : World) (hO : Rdr w b S true r) (hN : r.data.length < 1099511627776) :
    Calls Tryd.prog 40 #[.pointer (some ⟨b, 0, none⟩), u8 c] w fun e w' => e = .returned (.tuple #[]) ∧ ∃ S', Rdr w' b S' true (byteF r c) ∧ Mut w S w' S' := by
  obtain ⟨sv, dv, ov, rfl, hR⟩ := hO
  have HR := Lib.hid hR
  obtain ⟨c0, c34, c35, c36, c37, c38, c39, c40, c41, cf, hlt⟩ := hR.cells
  clear hR
  obtain ⟨i0, hi, hz0, hz1, hz2⟩ := info_parts info5
  obtain ⟨nsb, ndb, nob, nsd, nso, ndo⟩ := HR.out.ne
  have HD := fun (w1 : World) (hF : Fr w.heap.size [b] w w1) => own_fr HR.out.dat hF (Nat.le_refl _) (by simpa using ndb)
  have HI := Lib.hid hi
  unfold u8
  go_enter Tryd.func40, Tryd.ntmps40
  go_wp2_with (at_builtin; refine wpList_append_lies _ rfl (.tmp 31) (.tmp 33) 54 rfl 0 5 i0 (.int .u8 0) 1 1 Tryd.underlying54 HI.out hz0 hz1 hz2 rfl (by decide) dv _ _ rfl (HD _ (by repeat' (first | with_reducible assumption | with_reducible exact Fr.refl _ _ _ | with_reducible apply Fr.alloc | (with_reducible apply Fr.setCell <;> first | (left; simp; done) | (right; simp; done) | (right; simp; omega) | skip) | with_reducible apply Fr.drew | (refine Fr.trans ?_ (Fr.of_below (Below.mono (by with_reducible assumption) ?_))) | omega | (simp; omega) | (simp; done)))) ⟨_, 0, none⟩ 1 1 [_] rfl rfl (news1 _ _ _ _ (by simp)) (by simp [Value.oneCell']) (by omega) (by unfold maxLen; omega) (by omega) (Nat.zero_le _) _ rfl ?_; intro g cap w1 hown' hgrow hat hlg; have hcg := fun i => hgrow.cell_far ⟨b, i, none⟩ (by simp; omega) (by intro e; exact ndb b (mem_foot.2 e.symm) rfl); have hfg := fun i => hgrow.frozen_far ⟨b, i, none⟩ (by simp; omega) (by intro e; exact ndb b (mem_foot.2 e.symm) rfl))
  · have e : byteF r c = { r with after := false } := by unfold byteF; rw [if_pos ⟨by assumption, by assumption, by simp_all⟩]
    rw [e]
    have hF : Fr w.heap.size [b] w (w.setCell ⟨b, 35, none⟩ (.bool false)) := by repeat' (first | with_reducible assumption | with_reducible exact Fr.refl _ _ _ | with_reducible apply Fr.alloc | (with_reducible apply Fr.setCell <;> first | (left; simp; done) | (right; simp; done) | (right; simp; omega) | skip) | with_reducible apply Fr.drew | (refine Fr.trans ?_ (Fr.of_below (Below.mono (by with_reducible assumption) ?_))) | omega | (simp; omega) | (simp; done))
    refine bodyPost_ret (results_none rfl _ _ _) rfl ⟨rfl, Rdr.gen HR.out (hF.mono (Nat.le_refl _) (by simp [ftR])) ((blk_set HR.out.blk).trans rfl) (own_fr HR.out.sub hF (Nat.le_refl _) (by simpa using nsb)) (HD _ hF) (own_fr HR.out.out hF (Nat.le_refl _) (by simpa using nob)) HR.out.st (fun k h => .inl h) (fun k h => .inl h) (fun k h => .inl h)
      (fun k hk hm => absurd (own_lt HR.out.sub k hm) (by omega)) (fun k hk hm => absurd (own_lt HR.out.sub k hm) (by omega)) (fun k hk hm => absurd (own_lt HR.out.dat k hm) (by omega))⟩
  all_goals
    have e : byteF r c = { r with after := decide (c.toNat = 13), data := r.data ++ [c] } := by unfold byteF; rw [if_neg (by simp_all)]
    rw [e]
    have hb1 := (hgrow.block b (by simp; omega) (fun e => ndb b (mem_foot.2 e.symm) rfl)).trans (blk_alloc (blk_set HR.out.blk))
    have hFa := Fr.app (S' := b :: foot dv) (w := w) (B := w.heap.size) (S := [b]) (by repeat' (first | with_reducible assumption | with_reducible exact Fr.refl _ _ _ | with_reducible apply Fr.alloc | (with_reducible apply Fr.setCell <;> first | (left; simp; done) | (right; simp; done) | (right; simp; omega) | skip) | with_reducible apply Fr.drew | (refine Fr.trans ?_ (Fr.of_below (Below.mono (by with_reducible assumption) ?_))) | omega | (simp; omega) | (simp; done))) hgrow (by simp) (by simp) (by intro k hk; simp [hk])
    have hF2 := hFa.setCell (p := ⟨b, 40, none⟩) (by simp) (.slice (some ⟨g, 0, none⟩) (r.data.length + 1) cap)
    have hgb : g ≠ b := by
      rcases hat with h | h
      · exact fun e => ndb g (mem_foot.2 h) e
      · simp at h; omega
    go_end0
    refine ⟨rfl, Rdr.gen (dv' := .slice (some ⟨g, 0, none⟩) (r.data.length + 1) cap) HR.out (hF2.mono (Nat.le_refl _) (by simp [ftR]; intro k hk; simp [hk])) ((blk_set hb1).trans ?_) (own_fr HR.out.sub hF2 (Nat.le_refl _) (fun k hk => by simp only [List.mem_cons, not_or]; exact ⟨nsb k hk, nsd k hk⟩)) ?_ (own_fr HR.out.out hF2 (Nat.le_refl _) (fun k hk => by simp only [List.mem_cons, not_or]; exact ⟨nob k hk, fun h => ndo k h hk⟩)) HR.out.st (fun k h => .inl h) (foot_app hat (by simp)) (fun k h => .inl h)
      (fun k hk hm => absurd (own_lt HR.out.sub k hm) (by omega)) (fun k hk hm => absurd (own_lt HR.out.sub k hm) (by omega)) (fun k hk _ hm => absurd (own_lt HR.out.out k hm) (by omega))⟩
    · simp_all [cellsR, tabCells] <;> (rw [Bool.eq_iff_iff]; simp; omega)
    · have := own_keep (w' := w1.setCell ⟨b, 40, none⟩ (.slice (some ⟨g, 0, none⟩) (r.data.length + 1) cap)) hown' (fun k hk => by simp at hk; subst hk; exact blk_other hgb)
      simpa [u8, *] using this
end Go.Proofs.YtemdhbjcdibpfaaDoor.N1
