/- what is sent is read as it was: plain -/
import Derived.Test.YtemdhbjcdibpfaaDoorW8
namespace Go.Proofs.YtemdhbjcdibpfaaDoor.W9
set_option linter.unusedVariables false
set_option linter.unusedSimpArgs false
set_option linter.unnecessarySimpa false
set_option maxRecDepth 100000
open Go.RowKit K14 K20 W0 W1 W2 W3 W4 W5 W6 W7 W8 N0

def dstep (x : Dr × List UInt8) (c : UInt8) : Dr × List UInt8 := ((dfeed x.1 c).1, x.2 ++ dtx (dfeed x.1 c).2)
theorem dtx_fold : ∀ (ts m : List Tok), dtx (ts.foldl mrg m) = dtx m ++ dtx ts
  | [], m => by simp [dtx]
  | t :: ts, m => by simp only [List.foldl_cons]; rw [dtx_fold ts (mrg m t), mrg_dtx, List.append_assoc, ← dtx_app]; rfl
theorem all_dstep : ∀ (s : List UInt8) (x : Dr × List Tok), (s.foldl allF x).1 = (s.foldl dstep (x.1, dtx x.2)).1 ∧ dtx (s.foldl allF x).2 = (s.foldl dstep (x.1, dtx x.2)).2
  | [], x => ⟨rfl, rfl⟩
  | c :: s, x => by
    have := all_dstep s (allF x c)
    have e : ((allF x c).1, dtx (allF x c).2) = dstep (x.1, dtx x.2) c := by
      show ((dfeed x.1 c).1, dtx ((dfeed x.1 c).2.foldl mrg x.2)) = _
      rw [dtx_fold]; rfl
    rw [e] at this
    exact this
def gd (bin cr : Bool) : Dr := { dnew bin with cr := cr }
def cd (bin : Bool) : Dr := { dnew bin with cmd := [255] }
theorem step_byte (bin cr : Bool) (x : List UInt8) (c : UInt8) (h1 : c ≠ 255) (h2 : ¬(cr = true ∧ c = 0 ∧ bin = false)) : dstep (gd bin cr, x) c = (gd bin (decide (c = 13)), x ++ [c]) := by
  have h3 : c.toNat ≠ 255 := fun e => h1 (UInt8.toNat_inj.1 e)
  have h4 : ¬(cr = true ∧ c.toNat = 0 ∧ bin = false) := fun ⟨a, b, d⟩ => h2 ⟨a, UInt8.toNat_inj.1 b, d⟩
  have h5 : decide (c.toNat = 13) = decide (c = 13) := by
    have : (c.toNat = 13) ↔ (c = 13) := ⟨fun e => UInt8.toNat_inj.1 e, fun e => by rw [e]; rfl⟩
    simp [this]
  unfold dstep dfeed
  rw [if_neg (by simp [gd, dnew]), if_pos (by simp [gd, dnew]), if_neg h3, if_neg (show ¬((gd bin cr, x).1.cr = true ∧ c.toNat = 0 ∧ (gd bin cr, x).1.bin = false) from h4), h5]
  simp [gd, dtx, D1]
theorem step_drop (x : List UInt8) : dstep (gd false true, x) 0 = (gd false false, x) := by
  unfold dstep dfeed
  simp [gd, dnew, dtx]
theorem step_iac (bin cr : Bool) (x : List UInt8) : dstep (gd bin cr, x) 255 = (cd bin, x) := by
  unfold dstep dfeed
  simp [gd, cd, dnew, dtx]
theorem step_iac2 (bin : Bool) (x : List UInt8) : dstep (cd bin, x) 255 = (gd bin false, x ++ [255]) := by
  unfold dstep dfeed dcmd
  simp [gd, cd, dnew, dtx, D1]
theorem run_data (bin cr0 : Bool) (x : List UInt8) (s : List UInt8) (h0 : bin = false → cr0 = false) : ∀ k, k ≤ s.length → ∃ cr, (drP bin s k).foldl dstep (gd bin cr0, x) = (gd bin cr, x ++ s.take k) ∧ (bin = false → cr = true → s[k]? = some 10)
  | 0, _ => ⟨cr0, by simp [drP], fun h h' => by rw [h0 h] at h'; cases h'⟩
  | k + 1, hk => by
    obtain ⟨cr, h1, h2⟩ := run_data bin cr0 x s h0 k (by omega)
    rw [drP_succ, List.foldl_append, h1]
    have hg : s[k]? = some s[k] := List.getElem?_eq_getElem (by omega)
    have ht : s.take (k + 1) = s.take k ++ [s[k]] := List.take_succ_eq_append_getElem (by omega)
    rw [ht, ← List.append_assoc]
    have hr : ritem bin s k = [s[k]] ++ ((if s[k] = 255 then [255] else []) ++ (if s[k] = 13 ∧ bin = false ∧ s[k + 1]? ≠ some 10 then [0] else [])) := by unfold ritem; rw [hg]
    rw [hr]
    generalize hc : s[k] = c at *
    have hnd : ¬(cr = true ∧ c = 0 ∧ bin = false) := by
      rintro ⟨a, b, e⟩
      have := h2 e a
      rw [hg] at this
      simp only [Option.some.injEq] at this
      rw [b] at this; cases this
    by_cases h255 : c = 255
    · subst h255
      rw [if_pos rfl, if_neg (by simp)]
      refine ⟨false, ?_, fun _ h => by cases h⟩
      simp only [List.append_nil, List.singleton_append, List.foldl_cons, List.foldl_nil]
      rw [step_iac, step_iac2]
    · rw [if_neg h255, List.nil_append]
      by_cases h13 : c = 13 ∧ bin = false ∧ s[k + 1]? ≠ some 10
      · obtain ⟨rfl, rfl, h10⟩ := h13
        rw [if_pos ⟨rfl, rfl, h10⟩]
        refine ⟨false, ?_, fun _ h => by cases h⟩
        simp only [List.singleton_append, List.foldl_cons, List.foldl_nil]
        rw [step_byte _ _ _ _ h255 hnd, decide_eq_true (rfl : (13 : UInt8) = 13), step_drop]
      · rw [if_neg h13]
        refine ⟨decide (c = 13), ?_, fun hb hcr => ?_⟩
        · simp only [List.append_nil, List.foldl_cons, List.foldl_nil]
          rw [step_byte _ _ _ _ h255 hnd]
        · have : c = 13 := by simpa using hcr
          refine Classical.byContradiction fun h10 => h13 ⟨this, hb, h10⟩
theorem run_dat (bin cr0 : Bool) (x : List UInt8) (s : List UInt8) (h0 : bin = false → cr0 = false) : ∃ cr, (datF bin s).foldl dstep (gd bin cr0, x) = (gd bin cr, x ++ s) ∧ (bin = false → cr = false) := by
  obtain ⟨cr, h1, h2⟩ := run_data bin cr0 x s h0 s.length (Nat.le_refl _)
  rw [drP_dat, List.take_length] at h1
  refine ⟨cr, h1, fun hb => ?_⟩
  cases hc : cr
  · rfl
  · have := h2 hb hc
    rw [List.getElem?_eq_none (Nat.le_refl _)] at this; cases this
def sentF (bin : Bool) (L : List (List UInt8)) : List UInt8 := L.flatMap (datF bin)
theorem run_sent (bin : Bool) : ∀ (L : List (List UInt8)) (cr0 : Bool) (x : List UInt8), (bin = false → cr0 = false) → ∃ cr, (sentF bin L).foldl dstep (gd bin cr0, x) = (gd bin cr, x ++ L.flatten) ∧ (bin = false → cr = false)
  | [], cr0, x, h => ⟨cr0, by simp [sentF], h⟩
  | l :: L, cr0, x, h => by
    obtain ⟨cr, h1, h2⟩ := run_dat bin cr0 x l h
    obtain ⟨cr', h3, h4⟩ := run_sent bin L cr (x ++ l) h2
    have e : sentF bin (l :: L) = datF bin l ++ sentF bin L := rfl
    rw [e, List.foldl_append, h1, h3]
    exact ⟨cr', by simp, h4⟩
theorem plain_sent (bin : Bool) (L : List (List UInt8)) : plainD bin (sentF bin L) = L.flatten := by
  unfold plainD
  rw [(all_dstep (sentF bin L) (dnew bin, [])).2]
  obtain ⟨cr, h, _⟩ := run_sent bin L false [] (fun _ => rfl)
  have e : (dnew bin, dtx []) = ((gd bin false, []) : Dr × List UInt8) := rfl
  rw [e, h]; rfl
theorem dbl_ge (l : List UInt8) : l.length ≤ (dbl l).length := by
  induction l with
  | nil => simp
  | cons a l ih => unfold dbl at *; rw [List.flatMap_cons, List.length_append, List.length_cons]; split <;> (simp only [List.length_cons, List.length_nil]; omega)
theorem dat_ge (bin : Bool) (s : List UInt8) : s.length ≤ (datF bin s).length := by
  cases bin
  · have h1 : ∀ k, k ≤ s.length → k ≤ (crP s k).length := by
      intro k
      induction k with
      | zero => intro _; omega
      | succ k ih =>
        intro h
        rw [crP_succ, List.length_append]
        have h2 := ih (by omega)
        have h3 : 1 ≤ (item s k).length := by
          unfold item
          rw [List.getElem?_eq_getElem (by omega)]
          simp only
          split <;> simp
        omega
    have := h1 _ (Nat.le_refl _)
    have := dbl_ge (crP s s.length)
    show _ ≤ (dbl (crP s s.length)).length
    omega
  · exact dbl_ge s
theorem dat_le (bin : Bool) (s : List UInt8) : (datF bin s).length ≤ 2 * s.length := by
  rw [← drP_dat]
  have : ∀ k, (drP bin s k).length ≤ 2 * k := by
    intro k
    induction k with
    | zero => simp [drP]
    | succ k ih =>
      rw [drP_succ, List.length_append]
      have : (ritem bin s k).length ≤ 2 := by
        unfold ritem
        cases s[k]? with
        | none => simp
        | some c =>
          simp only
          by_cases h : c = 255
          · subst h; rw [if_pos rfl, if_neg (by simp)]; simp
          · rw [if_neg h]; split <;> simp
      omega
  exact this _
theorem sent_snoc (bin : Bool) (L : List (List UInt8)) (k : Nat) (h : k < L.length) : sentF bin (L.take (k + 1)) = sentF bin (L.take k) ++ datF bin L[k] := by
  unfold sentF
  rw [List.take_succ_eq_append_getElem h, List.flatMap_append]; simp
theorem flat_snoc (L : List (List UInt8)) (k : Nat) (h : k < L.length) : (L.take (k + 1)).flatten = (L.take k).flatten ++ L[k] := by
  rw [List.take_succ_eq_append_getElem h, List.flatten_append]; simp
end Go.Proofs.YtemdhbjcdibpfaaDoor.W9
