/- what is sent is read as it was, in parts: plain -/
import Derived.Test.YtemdhbjcdibpfaaDoorW9
namespace Go.Proofs.YtemdhbjcdibpfaaDoor.W12
set_option linter.unusedVariables false
set_option linter.unusedSimpArgs false
set_option linter.unnecessarySimpa false
set_option maxRecDepth 100000
open Go.RowKit K14 K20 W0 W1 W2 W3 W4 W5 W6 W7 W8 W9 N0 N7

abbrev X := List UInt8 × List Tok
def estep (x : Dr × X) (c : UInt8) : Dr × X := ((dfeed x.1 c).1, (x.2.1 ++ dtx (dfeed x.1 c).2, x.2.2 ++ ot (dfeed x.1 c).2))
theorem ot_mrg (m : List Tok) (t : Tok) : ot (mrg m t) = ot m ++ ot [t] := by
  rcases List.eq_nil_or_concat m with rfl | ⟨m0, q, rfl⟩
  · rfl
  · rw [List.concat_eq_append]
    by_cases h : t.kind = 0 ∧ q.kind = 0
    · rw [mrg_join _ _ _ h.1 h.2]; simp [ot, h.1, h.2]
    · rw [mrg_apart _ _ _ h, ot_app]
theorem ot_fold : ∀ (ts m : List Tok), ot (ts.foldl mrg m) = ot m ++ ot ts
  | [], m => by simp [ot]
  | t :: ts, m => by simp only [List.foldl_cons]; rw [ot_fold ts (mrg m t), ot_mrg, List.append_assoc, ← ot_app]; rfl
theorem all_estep (X0 : X) : ∀ (s : List UInt8) (d : Dr) (m : List Tok), s.foldl estep (d, (X0.1 ++ dtx m, X0.2 ++ ot m)) = ((s.foldl allF (d, m)).1, (X0.1 ++ dtx (s.foldl allF (d, m)).2, X0.2 ++ ot (s.foldl allF (d, m)).2))
  | [], d, m => rfl
  | c :: s, d, m => by
    have h := all_estep X0 s (allF (d, m) c).1 (allF (d, m) c).2
    have e : estep (d, (X0.1 ++ dtx m, X0.2 ++ ot m)) c = ((allF (d, m) c).1, (X0.1 ++ dtx (allF (d, m) c).2, X0.2 ++ ot (allF (d, m) c).2)) := by
      show ((dfeed d c).1, ((X0.1 ++ dtx m) ++ dtx (dfeed d c).2, (X0.2 ++ ot m) ++ ot (dfeed d c).2)) = ((dfeed d c).1, (X0.1 ++ dtx ((dfeed d c).2.foldl mrg m), X0.2 ++ ot ((dfeed d c).2.foldl mrg m)))
      rw [dtx_fold, ot_fold, List.append_assoc, List.append_assoc]
    rw [List.foldl_cons, e, h]
    rfl
theorem est_byte (bin cr : Bool) (x : X) (c : UInt8) (h1 : c ≠ 255) (h2 : ¬(cr = true ∧ c = 0 ∧ bin = false)) : estep (gd bin cr, x) c = (gd bin (decide (c = 13)), (x.1 ++ [c], x.2)) := by
  have h3 : c.toNat ≠ 255 := fun e => h1 (UInt8.toNat_inj.1 e)
  have h4 : ¬(cr = true ∧ c.toNat = 0 ∧ bin = false) := fun ⟨a, b, d⟩ => h2 ⟨a, UInt8.toNat_inj.1 b, d⟩
  have h5 : decide (c.toNat = 13) = decide (c = 13) := by
    have : (c.toNat = 13) ↔ (c = 13) := ⟨fun e => UInt8.toNat_inj.1 e, fun e => by rw [e]; rfl⟩
    simp [this]
  unfold estep dfeed
  rw [if_neg (by simp [gd, dnew]), if_pos (by simp [gd, dnew]), if_neg h3, if_neg (show ¬((gd bin cr, x).1.cr = true ∧ c.toNat = 0 ∧ (gd bin cr, x).1.bin = false) from h4), h5]
  simp [gd, dtx, D1, ot]
theorem est_drop (x : X) : estep (gd false true, x) 0 = (gd false false, x) := by
  unfold estep dfeed
  simp [gd, dnew, dtx, ot]
theorem est_iac (bin cr : Bool) (x : X) : estep (gd bin cr, x) 255 = (cd bin, x) := by
  unfold estep dfeed
  simp [gd, cd, dnew, dtx, ot]
theorem est_iac2 (bin : Bool) (x : X) : estep (cd bin, x) 255 = (gd bin false, (x.1 ++ [255], x.2)) := by
  unfold estep dfeed dcmd
  simp [gd, cd, dnew, dtx, D1, ot]
theorem erun_data (bin cr0 : Bool) (x : X) (s : List UInt8) (h0 : bin = false → cr0 = false) : ∀ k, k ≤ s.length → ∃ cr, (drP bin s k).foldl estep (gd bin cr0, x) = (gd bin cr, (x.1 ++ s.take k, x.2)) ∧ (bin = false → cr = true → s[k]? = some 10)
  | 0, _ => ⟨cr0, by simp [drP], fun h h' => by rw [h0 h] at h'; cases h'⟩
  | k + 1, hk => by
    obtain ⟨cr, h1, h2⟩ := erun_data bin cr0 x s h0 k (by omega)
    rw [drP_succ, List.foldl_append, h1]
    have hg : s[k]? = some s[k] := List.getElem?_eq_getElem (by omega)
    have ht : s.take (k + 1) = s.take k ++ [s[k]] := List.take_succ_eq_append_getElem (by omega)
    rw [ht, ← List.append_assoc]
    have hr : ritem bin s k = [s[k]] ++ ((if s[k] = 255 then [255] else []) ++ (if s[k] = 13 ∧ bin = false ∧ s[k + 1]? ≠ some 10 then [0] else [])) := by unfold ritem; rw [hg]
    rw [hr]
    generalize hc : s[k] = c at *
    have hnd : ¬(cr = true ∧ c = 0 ∧ bin = false) := by
      rintro ⟨a, b, e⟩
      have := h2 e a
      rw [hg] at this
      simp only [Option.some.injEq] at this
      rw [b] at this; cases this
    by_cases h255 : c = 255
    · subst h255
      rw [if_pos rfl, if_neg (by simp)]
      refine ⟨false, ?_, fun _ h => by cases h⟩
      simp only [List.append_nil, List.singleton_append, List.foldl_cons, List.foldl_nil]
      rw [est_iac, est_iac2]
    · rw [if_neg h255, List.nil_append]
      by_cases h13 : c = 13 ∧ bin = false ∧ s[k + 1]? ≠ some 10
      · obtain ⟨rfl, rfl, h10⟩ := h13
        rw [if_pos ⟨rfl, rfl, h10⟩]
        refine ⟨false, ?_, fun _ h => by cases h⟩
        simp only [List.singleton_append, List.foldl_cons, List.foldl_nil]
        rw [est_byte _ _ _ _ h255 hnd, decide_eq_true (rfl : (13 : UInt8) = 13), est_drop]
      · rw [if_neg h13]
        refine ⟨decide (c = 13), ?_, fun hb hcr => ?_⟩
        · simp only [List.append_nil, List.foldl_cons, List.foldl_nil]
          rw [est_byte _ _ _ _ h255 hnd]
        · have : c = 13 := by simpa using hcr
          refine Classical.byContradiction fun h10 => h13 ⟨this, hb, h10⟩
theorem erun_dat (bin cr0 : Bool) (x : X) (s : List UInt8) (h0 : bin = false → cr0 = false) : ∃ cr, (datF bin s).foldl estep (gd bin cr0, x) = (gd bin cr, (x.1 ++ s, x.2)) := by
  obtain ⟨cr, h1, h2⟩ := erun_data bin cr0 x s h0 s.length (Nat.le_refl _)
  rw [drP_dat, List.take_length] at h1
  exact ⟨cr, h1⟩
theorem erun_opt (bin cr : Bool) (x : X) (o : Nat) (ho : o ≤ 255) : (optB 253 o).foldl estep (gd bin cr, x) = (gd bin false, (x.1, x.2 ++ [⟨2, 253, o, []⟩])) := by
  have e : optB 253 o = [255, 253, UInt8.ofNat o] := rfl
  rw [e]
  simp only [List.foldl_cons, List.foldl_nil]
  rw [est_iac]
  have h1 : estep (cd bin, x) 253 = ({ cd bin with cmd := [255, 253] }, x) := by
    unfold estep dfeed dcmd
    simp [cd, dnew, dtx, ot]
  rw [h1]
  unfold estep dfeed
  simp [cd, gd, dnew, dtx, ot]
  omega
def sd (bin : Bool) (o : Nat) (b : List UInt8) : Dr := { dnew bin with inn := true, opt := o, body := b }
theorem erun_body (bin : Bool) (o : Nat) (x : X) : ∀ (t b : List UInt8), b.length + t.length ≤ 40 → (dbl t).foldl estep (sd bin o b, x) = (sd bin o (b ++ t), x)
  | [], b, _ => by simp [dbl]
  | c :: t, b, h => by
    have ih := erun_body bin o x t (b ++ [c]) (by simp at h ⊢; omega)
    simp only [List.length_cons] at h
    have hb : ¬ 40 ≤ b.length := by omega
    by_cases h1 : c = 255
    · subst h1
      have e : dbl (255 :: t) = 255 :: 255 :: dbl t := by simp [dbl]
      rw [e]
      simp only [List.foldl_cons]
      have s1 : estep (sd bin o b, x) 255 = ({ sd bin o b with iac := true }, x) := by
        unfold estep dfeed dsub
        simp [sd, dnew, dtx, ot]
      have s2 : estep ({ sd bin o b with iac := true }, x) 255 = (sd bin o (b ++ [255]), x) := by
        unfold estep dfeed dsub
        simp [sd, dnew, dtx, ot, hb]
      rw [s1, s2, ih]
      simp
    · have e : dbl (c :: t) = c :: dbl t := by simp [dbl, h1]
      have h3 : c.toNat ≠ 255 := fun e => h1 (UInt8.toNat_inj.1 e)
      rw [e]
      simp only [List.foldl_cons]
      have s1 : estep (sd bin o b, x) c = (sd bin o (b ++ [c]), x) := by
        unfold estep dfeed dsub
        simp [sd, dnew, dtx, ot, h3, hb]
      rw [s1, ih]
      simp
theorem erun_sub (bin : Bool) (x : X) (o : Nat) (t : List UInt8) (ho : o ≤ 255) (ht : t.length ≤ 40) : ∃ d, d.inn = false ∧ d.cmd = [] ∧ (subB o t).foldl estep (gd bin false, x) = (d, (x.1, x.2 ++ [⟨3, 0, o, t⟩])) := by
  refine ⟨{ sd bin o t with inn := false, body := [] }, rfl, rfl, ?_⟩
  unfold subB
  rw [List.foldl_append, List.foldl_append]
  have h1 : [255, 250, UInt8.ofNat o].foldl estep (gd bin false, x) = (sd bin o [], x) := by
    simp only [List.foldl_cons, List.foldl_nil]
    rw [est_iac]
    have h1 : estep (cd bin, x) 250 = ({ cd bin with cmd := [255, 250] }, x) := by
      unfold estep dfeed dcmd
      simp [cd, dnew, dtx, ot]
    rw [h1]
    unfold estep dfeed
    simp [cd, sd, dnew, dtx, ot]
    omega
  rw [h1, erun_body bin o x t [] (by simpa using ht), List.nil_append]
  simp only [List.foldl_cons, List.foldl_nil]
  have s1 : estep (sd bin o t, x) 255 = ({ sd bin o t with iac := true }, x) := by
    unfold estep dfeed dsub
    simp [sd, dnew, dtx, ot]
  rw [s1]
  unfold estep dfeed dsub
  simp [sd, dnew, dtx, ot]
theorem erun_all (bin : Bool) (s : List UInt8) (o : Nat) (t : List UInt8) (ho : o ≤ 255) (ht : t.length ≤ 40) : ∃ d, d.inn = false ∧ d.cmd = [] ∧ (datF bin s ++ optB 253 o ++ subB o t).foldl estep (dnew bin, ([], [])) = (d, (s, [⟨2, 253, o, []⟩, ⟨3, 0, o, t⟩])) := by
  rw [List.foldl_append, List.foldl_append]
  obtain ⟨cr, h1⟩ := erun_dat bin false ([], []) s (fun _ => rfl)
  have e : (dnew bin, (([], []) : X)) = (gd bin false, ([], [])) := rfl
  rw [e, h1, erun_opt _ _ _ _ ho]
  obtain ⟨d, h2, h3, h4⟩ := erun_sub bin ([] ++ s, [] ++ [⟨2, 253, o, []⟩]) o t ho ht
  exact ⟨d, h2, h3, by rw [h4]; rfl⟩
/-- the program's reader beside it, part by part -/
def pstep (y : Rd × X) (p : List UInt8) : Rd × X := ({ flushF (fedS y.1 p) with out := [] }, (y.2.1 ++ dtx (flushF (fedS y.1 p)).out, y.2.2 ++ ot (flushF (fedS y.1 p)).out))
structure J (y : Rd × X) (z : Dr × X) : Prop where
  sim : Sim y.1 z.1
  out : y.1.out = []
  data : y.1.data = []
  same : y.2 = z.2
  sub : y.1.sub.length ≤ 40
theorem sim_flush {r : Rd} {d : Dr} (h : Sim r d) : Sim { flushF r with out := [] } d := by
  have e : ∀ r : Rd, (flushF r).st = r.st ∧ (flushF r).after = r.after ∧ (flushF r).bin = r.bin ∧ (flushF r).cmd = r.cmd ∧ (flushF r).sub = r.sub ∧ (flushF r).opt = r.opt ∧ (flushF r).long = r.long := by
    intro r; unfold flushF; split <;> exact ⟨rfl, rfl, rfl, rfl, rfl, rfl, rfl⟩
  obtain ⟨e1, e2, e3, e4, e5, e6, e7⟩ := e r
  cases h with
  | ground h hi hc ha hb => exact .ground (e1.trans h) hi hc (e2.trans ha) (e3.trans hb)
  | command h hi hc ha ha2 hb => exact .command (e1.trans h) hi hc (e2.trans ha) ha2 (e3.trans hb)
  | option k h hi hc hk hk2 ha ha2 hb => exact .option k (e1.trans h) hi hc hk (e4.trans hk2) (e2.trans ha) ha2 (e3.trans hb)
  | begin k h hi hc hk ha ha2 hb => exact .begin k (e1.trans h) hi hc hk (e2.trans ha) ha2 (e3.trans hb)
  | sub h hi hi2 hc hs ho hl ha ha2 hb => exact .sub (e1.trans h) hi hi2 hc (e5.trans hs) (e6.trans ho) (e7.trans hl) (e2.trans ha) ha2 (e3.trans hb)
  | within h hi hi2 hc hs ho hl ha ha2 hb => exact .within (e1.trans h) hi hi2 hc (e5.trans hs) (e6.trans ho) (e7.trans hl) (e2.trans ha) ha2 (e3.trans hb)
theorem J.step {y : Rd × X} {z : Dr × X} (h : J y z) (p : List UInt8) : J (pstep y p) (p.foldl estep z) := by
  obtain ⟨s1, s2, s3⟩ := sim_fed p y.1 (z.1, []) h.sim (by simp [dd, h.out, h.data, dtx]) (by simp [h.out, ot])
  have e := all_estep z.2 p z.1 []
  have e0 : (z.1, ((z.2.1 ++ dtx [], z.2.2 ++ ot []) : X)) = z := by simp [dtx, ot]
  rw [e0] at e
  rw [e]
  refine ⟨sim_flush s1, rfl, ?_, ?_, ?_⟩
  · show (flushF (fedS y.1 p)).data = []
    exact (flush_bytes _).2
  · show (y.2.1 ++ dtx (flushF (fedS y.1 p)).out, y.2.2 ++ ot (flushF (fedS y.1 p)).out) = _
    rw [dd_flush, ot_flush, s2, s3, h.same]
  · show (flushF (fedS y.1 p)).sub.length ≤ 40
    have : (flushF (fedS y.1 p)).sub = (fedS y.1 p).sub := by unfold flushF; split <;> rfl
    rw [this]
    exact (fedS_le p y.1 h.sub).2
theorem J.new (bin : Bool) : J (rnew bin, ([], [])) (dnew bin, ([], [])) := ⟨.ground rfl rfl rfl rfl rfl, rfl, rfl, rfl, by simp [rnew]⟩
theorem J.parts : ∀ (ps : List (List UInt8)) (y : Rd × X) (z : Dr × X), J y z → J (ps.foldl pstep y) (ps.flatten.foldl estep z)
  | [], y, z, h => h
  | p :: ps, y, z, h => by
    rw [List.flatten_cons, List.foldl_append]
    exact J.parts ps _ _ (h.step p)
theorem J.ground {y : Rd × X} {z : Dr × X} (h : J y z) (h1 : z.1.inn = false) (h2 : z.1.cmd = []) : y.1.st = 0 := by
  cases h.sim with
  | ground h => exact h
  | command _ _ hc => rw [h2] at hc; cases hc
  | option _ _ _ hc => rw [h2] at hc; cases hc
  | begin _ _ _ hc => rw [h2] at hc; cases hc
  | sub _ hi => rw [h1] at hi; cases hi
  | within _ hi => rw [h1] at hi; cases hi
/-- what one part adds -/
theorem part_le (r : Rd) (p : List UInt8) (h1 : r.out = []) (h2 : r.data = []) (h3 : r.sub.length ≤ 40) : tbytes (flushF (fedS r p)).out ≤ 40 * p.length ∧ (flushF (fedS r p)).out.length ≤ 2 * p.length + 1 := by
  have a := tw_fed p r h3
  have b := flush_bytes (fedS r p)
  have c := fedS_le p r h3
  have d := wgt_flush (fedS r p)
  have e : tw r = 0 := by simp [tw, h1, h2, tbytes]
  have f : wgt r = 0 := by simp [wgt, h1, h2]
  rw [b.1]
  unfold tw wgt at *
  omega
end Go.Proofs.YtemdhbjcdibpfaaDoor.W12
