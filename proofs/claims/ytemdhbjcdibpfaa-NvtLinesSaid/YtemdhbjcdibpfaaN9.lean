/- a Sub that is broken: plain -/
import Derived.Test.YtemdhbjcdibpfaaN8
namespace Go.Proofs.Ytemdhbjcdibpfaa.N9
set_option linter.unusedVariables false
set_option linter.unusedSimpArgs false
set_option linter.unnecessarySimpa false
open N0 N7 N8
theorem byte_ol (r : Rd) (c : UInt8) (o : Int) (l : Bool) : byteF { r with opt := o, long := l } c = { byteF r c with opt := o, long := l } := by unfold byteF; split <;> rfl
theorem flush_ol (r : Rd) (o : Int) (l : Bool) : flushF { r with opt := o, long := l } = { flushF r with opt := o, long := l } := by unfold flushF; split <;> rfl
theorem tell_ol (r : Rd) (t : Tok) (o : Int) (l : Bool) : tellF { r with opt := o, long := l } t = { tellF r t with opt := o, long := l } := by unfold tellF; rw [flush_ol]
theorem byte_st (r : Rd) (c : UInt8) : (byteF r c).st = r.st := by unfold byteF; split <;> rfl
theorem flush_st (r : Rd) : (flushF r).st = r.st := by unfold flushF; split <;> rfl
theorem tell_st (r : Rd) (t : Tok) : (tellF r t).st = r.st := flush_st r
/-- alike but for what a Sub has -/
def Eqv (r q : Rd) : Prop := ∃ o l, q = { r with opt := o, long := l } ∧ (r.st = 4 ∨ r.st = 5 → o = r.opt ∧ l = r.long)
theorem Eqv.refl (r : Rd) : Eqv r r := ⟨r.opt, r.long, rfl, fun _ => ⟨rfl, rfl⟩⟩
theorem step0_eqv (r : Rd) (o : Int) (l : Bool) (a : Nat) (c : UInt8) (h8 : a ≠ 8) (h9 : a ≠ 9) (h10 : a ≠ 10) : Eqv (step0 r a c) (step0 { r with opt := o, long := l } a c) := by
  unfold step0
  split
  · exact ⟨o, l, byte_ol { r with st := 0 } c o l, by rw [byte_st]; simp⟩
  · exact ⟨o, l, rfl, by simp⟩
  · exact ⟨o, l, tell_ol { r with st := 0 } ⟨1, c.toNat, 0, []⟩ o l, by rw [tell_st]; simp⟩
  · exact ⟨o, l, rfl, by simp⟩
  · exact ⟨o, l, tell_ol { r with st := 0 } ⟨2, r.cmd, c.toNat, []⟩ o l, by rw [tell_st]; simp⟩
  · exact ⟨o, l, rfl, by simp⟩
  · exact Eqv.refl _
  · exact absurd rfl h8
  · exact absurd rfl h9
  · exact absurd rfl h10
  · exact ⟨o, l, rfl, by simp⟩
theorem tab1 (k : Nat) : tab 1 k ≠ 8 ∧ tab 1 k ≠ 9 ∧ tab 1 k ≠ 10 := by unfold tab; split <;> simp_all
theorem tab_low (s k : Nat) (h4 : s ≠ 4) (h5 : s ≠ 5) : tab s k ≠ 8 ∧ tab s k ≠ 9 ∧ tab s k ≠ 10 := by unfold tab; split <;> simp_all
theorem step_eqv {r q : Rd} (h : Eqv r q) (c : UInt8) : Eqv (stepF r c) (stepF q c) := by
  obtain ⟨o, l, rfl, hol⟩ := h
  by_cases hs : r.st = 4 ∨ r.st = 5
  · obtain ⟨rfl, rfl⟩ := hol hs
    exact Eqv.refl _
  · rw [not_or] at hs
    unfold stepF
    simp only
    split
    · obtain ⟨h1, h2, h3⟩ := tab1 (cls c)
      exact step0_eqv { r with st := 1, sub := [] } o l _ c h1 h2 h3
    · obtain ⟨h1, h2, h3⟩ := tab_low r.st (cls c) hs.1 hs.2
      exact step0_eqv r o l _ c h1 h2 h3
theorem fed_eqv : ∀ (t : List UInt8) {r q : Rd}, Eqv r q → Eqv (fedS r t) (fedS q t)
  | [], _, _, h => h
  | c :: t, r, q, h => fed_eqv t (step_eqv h c)
theorem eqv_end {r q : Rd} (h : Eqv r q) : (flushF r).out = (flushF q).out ∧ (flushF r).st = (flushF q).st ∧ (flushF r).sub = (flushF q).sub := by
  obtain ⟨o, l, rfl, _⟩ := h
  have e := flush_ol r o l
  exact ⟨by rw [e], by rw [e], by rw [e]⟩
/-- within a Sub, without 255 -/
theorem in_sub : ∀ (t : List UInt8) (r : Rd), r.st = 4 → (∀ c ∈ t, c.toNat ≠ 255) → ∃ s l, fedS r t = { r with sub := s, long := l }
  | [], r, h, _ => ⟨r.sub, r.long, rfl⟩
  | c :: t, r, h, hc => by
    have h1 : c.toNat ≠ 255 := hc c (by simp)
    have hk : tab r.st (cls c) = 8 := by
      rw [h]
      unfold cls
      rw [if_neg h1]
      (repeat' split) <;> rfl
    have e : ∃ s l, stepF r c = { r with sub := s, long := l } := by
      unfold stepF
      rw [hk, if_neg (by decide)]
      unfold step0
      simp only
      split
      · exact ⟨_, r.long, by rw [← h]⟩
      · exact ⟨r.sub, _, by rw [← h]⟩
    obtain ⟨s, l, e⟩ := e
    obtain ⟨s', l', e'⟩ := in_sub t { r with sub := s, long := l } h (fun x hx => hc x (by simp [hx]))
    exact ⟨s', l', by show fedS (stepF r c) t = _; rw [e, e']⟩
theorem fedS_app (r : Rd) (a b : List UInt8) : fedS r (a ++ b) = fedS (fedS r a) b := by simp [fedS]
theorem given (body more : List UInt8) (c o : UInt8) (hb : ∀ x ∈ body, x.toNat ≠ 255) (h1 : 241 ≤ c.toNat) (h2 : c.toNat ≤ 254) :
    Eqv (fedS (fedS (fedS (new false) [255, 250, 5]) body) (255 :: c :: o :: more)) (fedS (new false) (255 :: c :: o :: more)) := by
  have e0 : fedS (new false) [255, 250, 5] = ⟨false, 4, false, 0, 5, [], false, [], []⟩ := rfl
  rw [e0]
  obtain ⟨s, l, e1⟩ := in_sub body ⟨false, 4, false, 0, 5, [], false, [], []⟩ rfl hb
  rw [e1]
  have e2 : ∀ (r : Rd) (t : List UInt8), fedS r (255 :: c :: t) = fedS (stepF (stepF r 255) c) t := fun _ _ => rfl
  rw [e2, e2]
  have f1 : stepF { (⟨false, 4, false, 0, 5, [], false, [], []⟩ : Rd) with sub := s, long := l } 255 = ⟨false, 5, false, 0, 5, s, l, [], []⟩ := rfl
  have f2 : stepF (new false) 255 = ⟨false, 1, false, 0, 0, [], false, [], []⟩ := rfl
  rw [f1, f2]
  refine fed_eqv _ ?_
  have hk : cls c = 2 ∨ cls c = 3 ∨ cls c = 4 := by unfold cls; (repeat' split) <;> omega
  have g1 : stepF ⟨false, 5, false, 0, 5, s, l, [], []⟩ c = step0 ⟨false, 1, false, 0, 5, [], l, [], []⟩ (tab 1 (cls c)) c := by
    unfold stepF
    rw [if_pos (by rcases hk with h | h | h <;> rw [h] <;> rfl)]
  have g2 : stepF ⟨false, 1, false, 0, 0, [], false, [], []⟩ c = step0 ⟨false, 1, false, 0, 0, [], false, [], []⟩ (tab 1 (cls c)) c := by
    unfold stepF
    rw [if_neg (by rcases hk with h | h | h <;> rw [h] <;> decide)]
  rw [g1, g2]
  obtain ⟨k1, k2, k3⟩ := tab1 (cls c)
  exact step0_eqv ⟨false, 1, false, 0, 5, [], l, [], []⟩ 0 false _ c k1 k2 k3
end Go.Proofs.Ytemdhbjcdibpfaa.N9
