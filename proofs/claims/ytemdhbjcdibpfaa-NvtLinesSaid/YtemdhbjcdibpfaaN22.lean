/- the document's Plain; lines, plain -/
import Derived.Test.YtemdhbjcdibpfaaN21
namespace Go.Proofs.Ytemdhbjcdibpfaa.N22
set_option linter.unusedVariables false
set_option linter.unusedSimpArgs false
set_option linter.unnecessarySimpa false
open Go.RowKit K1 K3 K5 K11 K12 K14 N0 N1 N2 N7 N8 N9 N10 N11 N13 N14 N20 N21
attribute [local go_sem] cell_pastA froz_pastA
set_option maxHeartbeats 4000000 in
theorem plain_ground (bin : Bool) (s : ByteArray) (w : World) (hs : s.size ≤ 1000000) (hc : ∀ k, (h : k < s.size) → (s[k]).toNat ≠ 255) :
    Calls Try.prog 10 #[.bool bin, .string s] w fun e w' => e = .returned (.string ⟨(filt bin (false, []) s.data.toList).2.toArray⟩) ∧ Below w.heap.size w w' := by
  have HC := Lib.hid hc
  clear hc
  obtain ⟨acc, hx⟩ : ∃ x, x = (filt bin (false, []) s.data.toList).2 := ⟨_, rfl⟩
  rw [← hx]
  go_enter Try.func10, Try.ntmps10
  go_wp2_with fail
  refine (all_ground w.heap.size bin false s _ ((blk_new rfl).trans (by kernel_rfl)) hs HC.out).mono ?_
  rintro e w1 ⟨v, rfl, hv, hF⟩
  have hal := filt_len bin s.data.toList (false, [])
  simp at hal
  rw [← hx] at hv hal
  have hB : Below w.heap.size w w1 := ((Below.refl _ w).alloc (Nat.le_refl _) _).trans (hF.below_of (by simp) (by simp))
  have HB := Lib.hid hB
  have hv := own_base hv
  clear hx hF hB
  by_cases hac : acc = []
  · subst hac
    have e : outG [] = [] := rfl
    rw [e] at hv
    obtain ⟨oa, oc, rfl, -⟩ := own_slice hv
    clear hv
    go_wp2_with fail
    go_loopw [7, 8] (fun o i wr => o = .string ⟨#[]⟩ ∧ i = .int .i64 0 ∧ wr = w1) (fun _ _ _ => 0)
    case atStart => exact ⟨rfl, rfl, rfl⟩
    case round =>
      obtain ⟨rfl, rfl, rfl⟩ := hrel
      go_wp2_with fail
      go_ret
      exact ⟨rfl, HB.out⟩
  · have e : outG acc = [⟨0, 0, 0, acc⟩] := if_neg hac
    rw [e] at hv
    obtain ⟨g, cp, rfl, -, hg⟩ := hv.form (by simp)
    have a0 := own_at hv (j := 0) (u := .int .i64 0) rfl
    have a3 := own_at hv (j := 3) (u := .string ⟨acc.toArray⟩) rfl
    clear hv
    go_wp2_with fail
    go_loopw [7, 8] (fun o i wr => wr = w1 ∧ ((o = .string ⟨#[]⟩ ∧ i = .int .i64 0) ∨ (o = .string ⟨acc.toArray⟩ ∧ i = .int .i64 1))) (fun _ i _ => 1 - (intOf i).toNat)
    case atStart => exact ⟨rfl, .inl ⟨rfl, rfl⟩⟩
    case round =>
      obtain ⟨rfl, ⟨rfl, rfl⟩ | ⟨rfl, rfl⟩⟩ := hrel
      · go_wp2_with fail
        go_roundw
        case rel =>
          refine ⟨trivial, .inr ⟨?_, rfl⟩⟩
          congr 1
        case measure => simp [intOf]
      · go_wp2_with fail
        go_ret
        exact ⟨rfl, HB.out⟩
/-- a line's end -/
def ends (i : Nat) : List UInt8 := if i % 3 = 0 then [13, 10] else if i % 3 = 1 then [13, 0] else [13]
def wends (bin : Bool) (i : Nat) : List UInt8 := if bin = true ∨ i % 3 ≠ 1 then ends i else [13]
def sent (P : Nat → List UInt8) : Nat → List UInt8
  | 0 => []
  | k + 1 => sent P k ++ P k ++ ends k
def want (bin : Bool) (P : Nat → List UInt8) : Nat → List UInt8
  | 0 => []
  | k + 1 => want bin P k ++ P k ++ wends bin k
def Pr (c : UInt8) : Prop := 32 ≤ c.toNat ∧ c.toNat ≤ 126
theorem filt_app (bin : Bool) (x : Bool × List UInt8) (a b : List UInt8) : filt bin x (a ++ b) = filt bin (filt bin x a) b := by simp [filt]
theorem filt_print (bin : Bool) : ∀ (p : List UInt8) (cr : Bool) (acc : List UInt8), (∀ c ∈ p, Pr c) → ∃ cr', filt bin (cr, acc) p = (cr', acc ++ p)
  | [], cr, acc, _ => ⟨cr, by simp [filt]⟩
  | c :: p, cr, acc, h => by
    have hc := h c (by simp)
    unfold Pr at hc
    obtain ⟨cr', e⟩ := filt_print bin p (decide (c.toNat = 13)) (acc ++ [c]) (fun x hx => h x (by simp [hx]))
    refine ⟨cr', ?_⟩
    show filt bin (gs bin (cr, acc) c) p = _
    have : gs bin (cr, acc) c = (decide (c.toNat = 13), acc ++ [c]) := if_neg (fun hh => by have := hh.2.1; omega)
    rw [this, e]
    simp
theorem filt_end (bin cr : Bool) (acc : List UInt8) (i : Nat) : ∃ cr', filt bin (cr, acc) (ends i) = (cr', acc ++ wends bin i) := by
  unfold ends wends ends filt
  by_cases h0 : i % 3 = 0
  · simp [h0, gs]
  · by_cases h1 : i % 3 = 1
    · cases bin <;> simp [h1, gs]
    · simp [h0, h1, gs]
theorem filt_sent (bin : Bool) (P : Nat → List UInt8) : ∀ n, (∀ k, k < n → ∀ c ∈ P k, Pr c) → ∃ cr, filt bin (false, []) (sent P n) = (cr, want bin P n)
  | 0, _ => ⟨false, rfl⟩
  | n + 1, h => by
    obtain ⟨c1, e1⟩ := filt_sent bin P n (fun k hk => h k (by omega))
    obtain ⟨c2, e2⟩ := filt_print bin (P n) c1 (want bin P n) (h n (by omega))
    obtain ⟨c3, e3⟩ := filt_end bin c2 (want bin P n ++ P n) n
    exact ⟨c3, by unfold sent want; rw [filt_app, filt_app, e1, e2, e3]⟩
theorem ends_low (i : Nat) : ∀ c ∈ ends i, c.toNat ≠ 255 := by
  unfold ends
  intro c hc
  split at hc
  · simp at hc; rcases hc with rfl | rfl <;> decide
  · split at hc
    · simp at hc; rcases hc with rfl | rfl <;> decide
    · simp at hc; subst hc; decide
theorem sent_low (P : Nat → List UInt8) : ∀ n, (∀ k, k < n → ∀ c ∈ P k, Pr c) → ∀ c ∈ sent P n, c.toNat ≠ 255
  | 0, _ => by simp [sent]
  | n + 1, h => by
    intro c hc
    simp only [sent, List.mem_append] at hc
    rcases hc with (hc | hc) | hc
    · exact sent_low P n (fun k hk => h k (by omega)) c hc
    · have := h n (by omega) c hc; unfold Pr at this; omega
    · exact ends_low n c hc
theorem ends_len (i : Nat) : 1 ≤ (ends i).length ∧ (ends i).length ≤ 2 := by unfold ends; split; simp; split <;> simp
theorem wends_len (bin : Bool) (i : Nat) : 1 ≤ (wends bin i).length ∧ (wends bin i).length ≤ 2 := by
  unfold wends; split
  · exact ends_len i
  · simp
theorem ground_fed : ∀ (p : List UInt8) (q : Rd), q.st = 0 → (∀ c ∈ p, c.toNat ≠ 255) → fedS q p = { q with after := (filt q.bin (q.after, q.data) p).1, data := (filt q.bin (q.after, q.data) p).2 }
  | [], q, _, _ => by simp [fedS, filt]
  | c :: p, q, hs, hc => by
    have hk : tab q.st (cls c) = 1 := by
      rw [hs]
      unfold cls
      rw [if_neg (hc c (by simp))]
      (repeat' split) <;> rfl
    have e : stepF q c = { q with after := (gs q.bin (q.after, q.data) c).1, data := (gs q.bin (q.after, q.data) c).2 } := by
      unfold stepF
      rw [hk, if_neg (by decide)]
      show byteF { q with st := 0 } c = _
      unfold byteF gs
      simp only
      by_cases h : q.after = true ∧ c.toNat = 0 ∧ q.bin = false
      · rw [if_pos h, if_pos h]; simp [hs]
      · rw [if_neg h, if_neg h]; simp [hs]
    show fedS (stepF q c) p = _
    rw [ground_fed p (stepF q c) (by rw [e]; exact hs) (fun x hx => hc x (by simp [hx])), e]
    rfl
end Go.Proofs.Ytemdhbjcdibpfaa.N22
