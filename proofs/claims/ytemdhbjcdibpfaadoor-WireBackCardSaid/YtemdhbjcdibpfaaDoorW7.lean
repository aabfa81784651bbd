/- Plain of wire -/
import Derived.Test.YtemdhbjcdibpfaaDoorW6
namespace Go.Proofs.YtemdhbjcdibpfaaDoor.W7
set_option linter.unusedVariables false
set_option linter.unusedSimpArgs false
set_option linter.unnecessarySimpa false
set_option maxRecDepth 100000
open Go.RowKit K1 K3 K5 K11 K12 K14 K20 K21 K22 W0 W1 W2 W3 W4 W5 W6 N0 N1 N2 N3 N4 N5 N6 N7

attribute [local go_sem] cell_pastA froz_pastA
def rnew (bin : Bool) : Rd := ⟨bin, 0, false, 0, 0, [], false, [], []⟩
theorem rdr_new {w : World} {b : Nat} {bin : Bool} (h : w.heap[b]? = some (.cells (cellsR false (rnew bin) (.slice none 0 0) (.slice none 0 0) (.slice none 0 0)) 57 (0, 0))) : Rdr w b [b] false (rnew bin) :=
  ⟨_, _, _, by simp [ftR], h, World.ownsRow_nil _ _ _ _, World.ownsRow_nil _ _ _ _, World.ownsRow_nil _ _ _ _, by simp [rnew], by simp⟩
def plainR (bin : Bool) (s : List UInt8) : List UInt8 := dtx (flushF (fedS (rnew bin) s)).out
/-- Data's bytes, told or not -/
def dd (r : Rd) : List UInt8 := dtx r.out ++ r.data
theorem dd_flush (r : Rd) : dtx (flushF r).out = dd r := by
  unfold flushF dd
  split
  · rename_i h; simp [h]
  · simp only [dtx_app]; simp [dtx]
def ot (l : List Tok) : List Tok := l.filter fun t => decide (t.kind ≠ 0)
theorem ot_app (a b : List Tok) : ot (a ++ b) = ot a ++ ot b := List.filter_append ..
theorem ot_flush (r : Rd) : ot (flushF r).out = ot r.out := by
  unfold flushF
  split
  · rfl
  · simp [ot]
theorem dd_tell (r : Rd) (t : Tok) (h : t.kind ≠ 0) : dd (tellF r t) = dd r ∧ ot (tellF r t).out = ot r.out ++ [t] ∧ (tellF r t).data = [] := by
  have hfd : (flushF r).data = [] := by unfold flushF; split; assumption; rfl
  refine ⟨?_, ?_, ?_⟩
  · have e : dd (tellF r t) = dtx ((flushF r).out ++ [t]) ++ (flushF r).data := rfl
    rw [e, dtx_app, dd_flush, hfd]; simp [dtx, h]
  · have e : ot (tellF r t).out = ot ((flushF r).out ++ [t]) := rfl
    rw [e, ot_app, ot_flush]; simp [ot, h]
  · exact hfd
theorem dd_byte (r : Rd) (c : UInt8) : dd (byteF r c) = dd r ++ (if r.after = true ∧ c.toNat = 0 ∧ r.bin = false then [] else [c]) ∧ ot (byteF r c).out = ot r.out := by
  unfold byteF
  split
  · exact ⟨by simp [dd], rfl⟩
  · exact ⟨by simp [dd], rfl⟩
/-- the reader's state beside the document's -/
inductive Sim (r : Rd) (d : Dr) : Prop
  | ground (h : r.st = 0) (hi : d.inn = false) (hc : d.cmd = []) (ha : r.after = d.cr) (hb : r.bin = d.bin)
  | command (h : r.st = 1) (hi : d.inn = false) (hc : d.cmd = [255]) (ha : r.after = false) (ha2 : d.cr = false) (hb : r.bin = d.bin)
  | option (k : UInt8) (h : r.st = 2) (hi : d.inn = false) (hc : d.cmd = [255, k]) (hk : 251 ≤ k.toNat) (hk2 : r.cmd = k.toNat) (ha : r.after = false) (ha2 : d.cr = false) (hb : r.bin = d.bin)
  | begin (k : UInt8) (h : r.st = 3) (hi : d.inn = false) (hc : d.cmd = [255, k]) (hk : k.toNat = 250) (ha : r.after = false) (ha2 : d.cr = false) (hb : r.bin = d.bin)
  | sub (h : r.st = 4) (hi : d.inn = true) (hi2 : d.iac = false) (hc : d.cmd = []) (hs : r.sub = d.body) (ho : r.opt = d.opt) (hl : r.long = d.long) (ha : r.after = false) (ha2 : d.cr = false) (hb : r.bin = d.bin)
  | within (h : r.st = 5) (hi : d.inn = true) (hi2 : d.iac = true) (hc : d.cmd = []) (hs : r.sub = d.body) (ho : r.opt = d.opt) (hl : r.long = d.long) (ha : r.after = false) (ha2 : d.cr = false) (hb : r.bin = d.bin)
/-- what a step tells -/
structure Tells (r r' : Rd) (ts : List Tok) : Prop where
  data : dd r' = dd r ++ dtx ts
  other : ot r'.out = ot r.out ++ ot ts
theorem cls_cases (c : UInt8) : (c.toNat = 255 ∧ cls c = 0) ∨ (c.toNat = 240 ∧ cls c = 1) ∨ (c.toNat = 250 ∧ cls c = 2) ∨ (251 ≤ c.toNat ∧ c.toNat ≤ 254 ∧ cls c = 3) ∨ (c.toNat < 250 ∧ c.toNat ≠ 240 ∧ cls c = 4) := by
  have h := c.toNat_lt
  unfold cls
  by_cases h1 : c.toNat = 255
  · left; exact ⟨h1, by rw [if_pos h1]⟩
  · by_cases h2 : c.toNat = 240
    · right; left; exact ⟨h2, by rw [if_neg h1, if_pos h2]⟩
    · by_cases h3 : c.toNat = 250
      · right; right; left; exact ⟨h3, by rw [if_neg h1, if_neg h2, if_pos h3]⟩
      · by_cases h4 : 251 ≤ c.toNat
        · right; right; right; left; exact ⟨h4, by omega, by rw [if_neg h1, if_neg h2, if_neg h3, if_pos h4]⟩
        · right; right; right; right; exact ⟨by omega, h2, by rw [if_neg h1, if_neg h2, if_neg h3, if_neg h4]⟩
theorem tells_tell (r r0 : Rd) (t : Tok) (h : t.kind ≠ 0) (h1 : r0.out = r.out) (h2 : r0.data = r.data) : Tells r (tellF r0 t) [t] := by
  obtain ⟨a, b, _⟩ := dd_tell r0 t h
  refine ⟨?_, ?_⟩
  · rw [a]; simp [dd, h1, h2, dtx, h]
  · rw [b, h1]; simp [ot, h]
theorem tells_none (r r0 : Rd) (h1 : r0.out = r.out) (h2 : r0.data = r.data) : Tells r r0 [] := ⟨by simp [dd, h1, h2, dtx], by simp [h1, ot]⟩
theorem eq255 {c : UInt8} (h : c.toNat = 255) : c = 255 := UInt8.toNat_inj.1 h
/-- behind IAC -/
theorem sim_command (r : Rd) (d : Dr) (c : UInt8) (h : r.st = 1) (hi : d.inn = false) (ha : r.after = false) (ha2 : d.cr = false) (hb : r.bin = d.bin) :
    Sim (step0 r (tab 1 (cls c)) c) (dcmd d c).1 ∧ Tells r (step0 r (tab 1 (cls c)) c) (dcmd d c).2 := by
  rcases cls_cases c with ⟨h1, hk⟩ | ⟨h1, hk⟩ | ⟨h1, hk⟩ | ⟨h1, h2, hk⟩ | ⟨h1, h2, hk⟩
  · have e : dcmd d c = ({ d with cmd := [] }, [D1 c]) := if_pos h1
    have e2 : step0 r (tab 1 (cls c)) c = byteF { r with st := 0 } c := by rw [hk]; rfl
    rw [e, e2]
    have e3 : byteF { r with st := 0 } c = { r with st := 0, after := decide (c.toNat = 13), data := r.data ++ [c] } := by unfold byteF; rw [if_neg (fun h => by simp [ha] at h)]
    rw [e3]
    refine ⟨.ground rfl hi rfl ?_ hb, ?_⟩
    · simp only; rw [ha2]; simp; omega
    · exact ⟨by simp [dd, dtx, D1], by simp [ot, D1]⟩
  · have e : dcmd d c = ({ d with cmd := [] }, [⟨1, c.toNat, 0, []⟩]) := by unfold dcmd; rw [if_neg (by omega), if_neg (by omega)]
    have e2 : step0 r (tab 1 (cls c)) c = tellF { r with st := 0 } ⟨1, c.toNat, 0, []⟩ := by rw [hk]; rfl
    rw [e, e2]
    refine ⟨.ground ?_ hi rfl ?_ ?_, tells_tell _ _ _ (by simp) rfl rfl⟩
    · unfold tellF flushF; split <;> rfl
    · rw [show (tellF { r with st := 0 } ⟨1, c.toNat, 0, []⟩).after = r.after by unfold tellF flushF; split <;> rfl]; simp only; rw [ha, ha2]
    · rw [show (tellF { r with st := 0 } ⟨1, c.toNat, 0, []⟩).bin = r.bin by unfold tellF flushF; split <;> rfl]; exact hb
  · have e : dcmd d c = ({ d with cmd := [255, c] }, []) := by unfold dcmd; rw [if_neg (by omega), if_pos (by omega)]
    have e2 : step0 r (tab 1 (cls c)) c = { r with st := 3 } := by rw [hk]; rfl
    rw [e, e2]
    exact ⟨.begin c rfl hi rfl h1 ha ha2 hb, tells_none _ _ rfl rfl⟩
  · have e : dcmd d c = ({ d with cmd := [255, c] }, []) := by unfold dcmd; rw [if_neg (by omega), if_pos (by omega)]
    have e2 : step0 r (tab 1 (cls c)) c = { r with st := 2, cmd := c.toNat } := by rw [hk]; rfl
    rw [e, e2]
    exact ⟨.option c rfl hi rfl h1 rfl ha ha2 hb, tells_none _ _ rfl rfl⟩
  · have e : dcmd d c = ({ d with cmd := [] }, [⟨1, c.toNat, 0, []⟩]) := by unfold dcmd; rw [if_neg (by omega), if_neg (by omega)]
    have e2 : step0 r (tab 1 (cls c)) c = tellF { r with st := 0 } ⟨1, c.toNat, 0, []⟩ := by rw [hk]; rfl
    rw [e, e2]
    refine ⟨.ground ?_ hi rfl ?_ ?_, tells_tell _ _ _ (by simp) rfl rfl⟩
    · unfold tellF flushF; split <;> rfl
    · rw [show (tellF { r with st := 0 } ⟨1, c.toNat, 0, []⟩).after = r.after by unfold tellF flushF; split <;> rfl]; simp only; rw [ha, ha2]
    · rw [show (tellF { r with st := 0 } ⟨1, c.toNat, 0, []⟩).bin = r.bin by unfold tellF flushF; split <;> rfl]; exact hb
theorem tell_st (r : Rd) (t : Tok) : (tellF r t).st = r.st ∧ (tellF r t).after = r.after ∧ (tellF r t).bin = r.bin := by unfold tellF flushF; split <;> exact ⟨rfl, rfl, rfl⟩
theorem sim_step (r : Rd) (d : Dr) (c : UInt8) (h : Sim r d) : Sim (stepF r c) (dfeed d c).1 ∧ Tells r (stepF r c) (dfeed d c).2 := by
  cases h with
  | ground h hi hc ha hb =>
    by_cases h1 : c.toNat = 255
    · have e : dfeed d c = ({ d with cr := false, cmd := [c] }, []) := by unfold dfeed; rw [if_neg (by simp [hi]), if_pos (by simp [hc]), if_pos h1]
      have hk : cls c = 0 := by unfold cls; rw [if_pos h1]
      have e2 : stepF r c = { r with st := 1, after := false } := by unfold stepF; rw [h, hk]; rfl
      rw [e, e2]
      exact ⟨.command rfl hi (by rw [eq255 h1]) rfl rfl hb, tells_none _ _ rfl rfl⟩
    · have ht : tab 0 (cls c) = 1 := by
        rcases cls_cases c with ⟨h2, hk⟩ | ⟨h2, hk⟩ | ⟨h2, hk⟩ | ⟨h2, h3, hk⟩ | ⟨h2, h3, hk⟩
        · exact absurd h2 h1
        all_goals (rw [hk]; rfl)
      have e2 : stepF r c = byteF { r with st := 0 } c := by unfold stepF; rw [h, ht]; rfl
      by_cases h2 : d.cr = true ∧ c.toNat = 0 ∧ d.bin = false
      · have e : dfeed d c = ({ d with cr := false }, []) := by unfold dfeed; rw [if_neg (by simp [hi]), if_pos (by simp [hc]), if_neg h1, if_pos h2]
        have e3 : byteF { r with st := 0 } c = { r with st := 0, after := false } := by unfold byteF; rw [if_pos ⟨ha.trans h2.1, h2.2.1, hb.trans h2.2.2⟩]
        rw [e, e2, e3]
        exact ⟨.ground rfl hi hc rfl hb, tells_none _ _ rfl rfl⟩
      · have e : dfeed d c = ({ d with cr := decide (c.toNat = 13) }, [D1 c]) := by unfold dfeed; rw [if_neg (by simp [hi]), if_pos (by simp [hc]), if_neg h1, if_neg h2]
        have e3 : byteF { r with st := 0 } c = { r with st := 0, after := decide (c.toNat = 13), data := r.data ++ [c] } := by
          unfold byteF; rw [if_neg]
          rintro ⟨p, q, s⟩
          exact h2 ⟨ha.symm.trans p, q, hb.symm.trans s⟩
        rw [e, e2, e3]
        exact ⟨.ground rfl hi hc rfl hb, by simp [dd, dtx, D1], by simp [ot, D1]⟩
  | command h hi hc ha ha2 hb =>
    have e : dfeed d c = dcmd d c := by unfold dfeed; rw [if_neg (by simp [hi]), if_neg (by simp [hc]), if_neg (by simp [hc])]
    have e2 : stepF r c = step0 r (tab 1 (cls c)) c := by unfold stepF; rw [h, if_neg (by rcases cls_cases c with ⟨_, hk⟩ | ⟨_, hk⟩ | ⟨_, hk⟩ | ⟨_, _, hk⟩ | ⟨_, _, hk⟩ <;> (rw [hk]; decide))]
    rw [e, e2]
    exact sim_command r d c h hi ha ha2 hb
  | option k h hi hc hk hk2 ha ha2 hb =>
    have e : dfeed d c = ({ d with cmd := [] }, [⟨2, k.toNat, c.toNat, []⟩]) := by unfold dfeed; rw [if_neg (by simp [hi]), if_neg (by simp [hc]), if_pos (by simp [hc]), if_neg (by simp [hc]; omega)]; simp [hc]
    have ht : tab 2 (cls c) = 5 := by rcases cls_cases c with ⟨_, hk⟩ | ⟨_, hk⟩ | ⟨_, hk⟩ | ⟨_, _, hk⟩ | ⟨_, _, hk⟩ <;> (rw [hk]; rfl)
    have e2 : stepF r c = tellF { r with st := 0 } ⟨2, k.toNat, c.toNat, []⟩ := by unfold stepF; rw [h, ht, ← hk2]; rfl
    rw [e, e2]
    obtain ⟨p, q, s⟩ := tell_st { r with st := 0 } ⟨2, k.toNat, c.toNat, []⟩
    exact ⟨.ground p hi rfl (by rw [q]; simp only; rw [ha, ha2]) (by rw [s]; exact hb), tells_tell _ _ _ (by simp) rfl rfl⟩
  | begin k h hi hc hk ha ha2 hb =>
    have e : dfeed d c = ({ d with cmd := [], inn := true, opt := c.toNat, body := [], long := false, iac := false }, []) := by unfold dfeed; rw [if_neg (by simp [hi]), if_neg (by simp [hc]), if_pos (by simp [hc]), if_pos (by simp [hc, hk])]
    have ht : tab 3 (cls c) = 7 := by rcases cls_cases c with ⟨_, hk⟩ | ⟨_, hk⟩ | ⟨_, hk⟩ | ⟨_, _, hk⟩ | ⟨_, _, hk⟩ <;> (rw [hk]; rfl)
    have e2 : stepF r c = { r with st := 4, opt := c.toNat, sub := [], long := false } := by unfold stepF; rw [h, ht]; rfl
    rw [e, e2]
    exact ⟨.sub rfl rfl rfl rfl rfl rfl rfl ha ha2 hb, tells_none _ _ rfl rfl⟩
  | sub h hi hi2 hc hs ho hl ha ha2 hb =>
    have e : dfeed d c = dsub d c := by unfold dfeed; rw [if_pos hi]
    rw [e]
    by_cases h1 : c.toNat = 255
    · have hk : cls c = 0 := by unfold cls; rw [if_pos h1]
      have e1 : dsub d c = ({ d with iac := true }, []) := if_pos ⟨hi2, h1⟩
      have e2 : stepF r c = { r with st := 5 } := by unfold stepF; rw [h, hk]; rfl
      rw [e1, e2]
      exact ⟨.within rfl hi rfl hc hs ho hl ha ha2 hb, tells_none _ _ rfl rfl⟩
    · have ht : tab 4 (cls c) = 8 := by
        rcases cls_cases c with ⟨h2, hk⟩ | ⟨h2, hk⟩ | ⟨h2, hk⟩ | ⟨h2, h3, hk⟩ | ⟨h2, h3, hk⟩
        · exact absurd h2 h1
        all_goals (rw [hk]; rfl)
      have e2 : stepF r c = step0 r 8 c := by unfold stepF; rw [h, ht]; rfl
      rw [e2]
      by_cases h2 : 40 ≤ d.body.length
      · have e1 : dsub d c = ({ d with iac := false, long := true }, []) := by unfold dsub; rw [if_neg (fun h => h1 h.2), if_neg (by simp [hi2]), if_pos h2]
        have e3 : step0 r 8 c = { r with st := 4, long := true } := if_neg (by rw [hs]; omega)
        rw [e1, e3]
        exact ⟨.sub rfl hi rfl hc hs ho rfl ha ha2 hb, tells_none _ _ rfl rfl⟩
      · have e1 : dsub d c = ({ d with iac := false, body := d.body ++ [c] }, []) := by unfold dsub; rw [if_neg (fun h => h1 h.2), if_neg (by simp [hi2]), if_neg h2]
        have e3 : step0 r 8 c = { r with st := 4, sub := r.sub ++ [c] } := if_pos (by rw [hs]; omega)
        rw [e1, e3]
        exact ⟨.sub rfl hi rfl hc (by simp only; rw [hs]) ho hl ha ha2 hb, tells_none _ _ rfl rfl⟩
  | within h hi hi2 hc hs ho hl ha ha2 hb =>
    have e : dfeed d c = dsub d c := by unfold dfeed; rw [if_pos hi]
    rw [e]
    by_cases h1 : c.toNat = 255
    · have hk : cls c = 0 := by unfold cls; rw [if_pos h1]
      have e2 : stepF r c = step0 r 8 c := by unfold stepF; rw [h, hk]; rfl
      rw [e2]
      by_cases h2 : 40 ≤ d.body.length
      · have e1 : dsub d c = ({ d with iac := false, long := true }, []) := by unfold dsub; rw [if_neg (by simp [hi2]), if_neg (fun h => h.2 h1), if_pos h2]
        have e3 : step0 r 8 c = { r with st := 4, long := true } := if_neg (by rw [hs]; omega)
        rw [e1, e3]
        exact ⟨.sub rfl hi rfl hc hs ho rfl ha ha2 hb, tells_none _ _ rfl rfl⟩
      · have e1 : dsub d c = ({ d with iac := false, body := d.body ++ [c] }, []) := by unfold dsub; rw [if_neg (by simp [hi2]), if_neg (fun h => h.2 h1), if_neg h2]
        have e3 : step0 r 8 c = { r with st := 4, sub := r.sub ++ [c] } := if_pos (by rw [hs]; omega)
        rw [e1, e3]
        exact ⟨.sub rfl hi rfl hc (by simp only; rw [hs]) ho hl ha ha2 hb, tells_none _ _ rfl rfl⟩
    · by_cases h2 : c.toNat = 240
      · have hk : cls c = 1 := by unfold cls; rw [if_neg h1, if_pos h2]
        have e2 : stepF r c = step0 r 10 c := by unfold stepF; rw [h, hk]; rfl
        rw [e2]
        cases hlg : d.long
        · have e1 : dsub d c = ({ d with inn := false, body := [], iac := false, long := false }, [⟨3, 0, d.opt, d.body⟩]) := by unfold dsub; rw [if_neg (by simp [hi2]), if_pos ⟨hi2, h1⟩, if_neg (by simp [h2]), if_neg (by simp [hlg])]
          have e3 : step0 r 10 c = { tellF { r with st := 0 } ⟨3, 0, d.opt, d.body⟩ with sub := [] } := by
            show ({ (if r.long then { r with st := 0 } else tellF { r with st := 0 } ⟨3, 0, r.opt, r.sub⟩) with sub := [] } : Rd) = _
            rw [if_neg (by rw [hl, hlg]; simp), hs, ho]
          rw [e1, e3]
          obtain ⟨p, q, s⟩ := tell_st { r with st := 0 } ⟨3, 0, d.opt, d.body⟩
          have htl := tells_tell r { r with st := 0 } ⟨3, 0, d.opt, d.body⟩ (by simp) rfl rfl
          exact ⟨.ground p rfl hc (by simp only; rw [q]; simp only; rw [ha, ha2]) (by simp only; rw [s]; exact hb), ⟨htl.data, htl.other⟩⟩
        · have e1 : dsub d c = ({ d with inn := false, body := [], iac := false, long := false }, []) := by unfold dsub; rw [if_neg (by simp [hi2]), if_pos ⟨hi2, h1⟩, if_neg (by simp [h2]), if_pos hlg]
          have e3 : step0 r 10 c = { r with st := 0, sub := [] } := by
            show ({ (if r.long then { r with st := 0 } else tellF { r with st := 0 } ⟨3, 0, r.opt, r.sub⟩) with sub := [] } : Rd) = _
            rw [if_pos (by rw [hl, hlg])]
          rw [e1, e3]
          exact ⟨.ground rfl rfl hc (by simp only; rw [ha, ha2]) hb, tells_none _ _ rfl rfl⟩
      · have ht : tab 5 (cls c) = 11 := by
          rcases cls_cases c with ⟨h3, hk⟩ | ⟨h3, hk⟩ | ⟨h3, hk⟩ | ⟨h3, h4, hk⟩ | ⟨h3, h4, hk⟩
          · exact absurd h3 h1
          · exact absurd h3 h2
          all_goals (rw [hk]; rfl)
        have e1 : dsub d c = dcmd { d with inn := false, body := [], iac := false, long := false } c := by unfold dsub; rw [if_neg (by simp [hi2]), if_pos ⟨hi2, h1⟩, if_pos h2]
        have e2 : stepF r c = step0 { r with st := 1, sub := [] } (tab 1 (cls c)) c := by unfold stepF; rw [h, if_pos ht]
        rw [e1, e2]
        obtain ⟨p, q⟩ := sim_command { r with st := 1, sub := [] } { d with inn := false, body := [], iac := false, long := false } c rfl rfl ha ha2 hb
        exact ⟨p, q.data, q.other⟩
/-- all of it -/
theorem sim_fed : ∀ (s : List UInt8) (r : Rd) (x : Dr × List Tok), Sim r x.1 → dd r = dtx x.2 → ot r.out = ot x.2 → Sim (fedS r s) (s.foldl allF x).1 ∧ dd (fedS r s) = dtx (s.foldl allF x).2 ∧ ot (fedS r s).out = ot (s.foldl allF x).2
  | [], r, x, h1, h2, h3 => ⟨h1, h2, h3⟩
  | c :: s, r, x, h1, h2, h3 => by
    obtain ⟨p, q⟩ := sim_step r x.1 c h1
    have hm : ∀ (ts m : List Tok), dtx (ts.foldl mrg m) = dtx m ++ dtx ts ∧ ot (ts.foldl mrg m) = ot m ++ ot ts := by
      intro ts
      induction ts with
      | nil => intro m; simp [dtx, ot]
      | cons t ts ih =>
        intro m
        obtain ⟨i1, i2⟩ := ih (mrg m t)
        simp only [List.foldl_cons]
        rw [i1, i2, mrg_dtx]
        have h4 : ot (mrg m t) = ot m ++ ot [t] := by
          rcases List.eq_nil_or_concat m with rfl | ⟨m0, q, rfl⟩
          · rfl
          · rw [List.concat_eq_append]
            by_cases h : t.kind = 0 ∧ q.kind = 0
            · rw [mrg_join _ _ _ h.1 h.2]; simp [ot, h.1, h.2]
            · rw [mrg_apart _ _ _ h, ot_app]
        rw [h4]
        exact ⟨by rw [List.append_assoc, ← dtx_app]; rfl, by rw [List.append_assoc, ← ot_app]; rfl⟩
    obtain ⟨m1, m2⟩ := hm (dfeed x.1 c).2 x.2
    exact sim_fed s (stepF r c) (allF x c) p (by rw [q.data, h2]; exact m1.symm) (by rw [q.other, h3]; exact m2.symm)
theorem plain_eq (bin : Bool) (s : List UInt8) : plainR bin s = plainD bin s := by
  obtain ⟨_, h, _⟩ := sim_fed s (rnew bin) (dnew bin, []) (.ground rfl rfl rfl rfl rfl) rfl rfl
  unfold plainR plainD
  rw [dd_flush, h]
end Go.Proofs.YtemdhbjcdibpfaaDoor.W7
