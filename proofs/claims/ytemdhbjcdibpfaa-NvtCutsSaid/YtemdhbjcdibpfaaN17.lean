/- what NvtCuts calls, as it stands there -/
import Derived.Test.YtemdhbjcdibpfaaN16
namespace Go.Proofs.Ytemdhbjcdibpfaa.N17
set_option linter.unusedVariables false
set_option linter.unusedSimpArgs false
set_option linter.unnecessarySimpa false
open Go.RowKit K1 K3 K5 K11 K12 K14 N0 N1 N2 N3 N4 N5 N6 N7 N8 N9 N10 N11 N13 N14 N15 N16
attribute [local go_sem] cell_pastA froz_pastA
theorem len_of_mem {p : List UInt8} : ∀ {l : List (List UInt8)}, p ∈ l → p.length ≤ l.flatten.length
  | x :: l, h => by
    rw [List.mem_cons] at h
    rcases h with rfl | h
    · simp
    · have := len_of_mem h; simp at this ⊢; omega
theorem takel17 (l : List (List UInt8)) (k : Nat) : (l.take k).flatten.length ≤ l.flatten.length := by
  have h := congrArg (fun x => x.flatten.length) (List.take_append_drop k l)
  simp only [List.flatten_append, List.length_append] at h
  omega
theorem own_split {w : World} {base : Nat} {e : TypeId} {s : Nat} {v : Value} {n : Nat} {xs : List Value} (h : w.ownsRow base e s v n xs) : (v = .slice none 0 0 ∧ n = 0) ∨ ∃ g c, v = .slice (some ⟨g, 0, none⟩) n c := by
  rcases h.2 with ⟨rfl, rfl⟩ | ⟨g, cap, cur, rfl, _⟩
  · exact .inl ⟨rfl, rfl⟩
  · exact .inr ⟨_, _, rfl⟩
theorem flat_len (l : List Tok) : (l.flatMap tokCells).length = l.length * 4 := by
  induction l with
  | nil => rfl
  | cons t m ih => simp [tokCells, ih]; omega
theorem tok_one (l : List Tok) : ∀ u ∈ l.flatMap tokCells, u.oneCell' = true := by
  intro u hu
  obtain ⟨t, _, ht⟩ := List.mem_flatMap.1 hu
  simp [tokCells] at ht
  rcases ht with rfl | rfl | rfl | rfl <;> rfl
/-- a list of integers that was handed in -/
structure Ints (w : World) (ao : Option Addr) (sb off n : Nat) (L : Nat → Int) : Prop where
  ao : ao = some ⟨sb, off, none⟩ ∨ n = 0
  rng : ∀ k, k < n → -9223372036854775808 ≤ L k ∧ L k ≤ 9223372036854775807
  at_ : ∀ k, k < n → w.cell? ⟨sb, off + k, none⟩ = some (.int .i64 (L k))
  lt : 0 < n → sb < w.heap.size
theorem cuts_at {w w1 : World} {ao : Option Addr} {sb off n : Nat} {L : Nat → Int} (I : Ints w ao sb off n L) (s : ByteArray) (cap : Nat) (hn : n ≤ 1000000) (hs : s.size ≤ 1099511627776) (hb : Below w.heap.size w w1) :
    Calls Try.prog 11 #[.string s, .slice ao n cap] w1 fun e w' => ∃ (gp cp : Nat) (parts : List (List UInt8)), e = .returned (.slice (some ⟨gp, 0, none⟩) parts.length cp) ∧ w'.ownsRow 0 9 1 (.slice (some ⟨gp, 0, none⟩) parts.length cp) parts.length (parts.map strV) ∧
      w1.heap.size ≤ gp ∧ parts.flatten = s.data.toList ∧ 0 < parts.length ∧ parts.length ≤ n + 1 ∧ Below w1.heap.size w1 w' := by
  refine (cuts_any s ao sb off n cap L w1 I.ao hn hs I.rng (fun k hk => ?_) (fun h => ?_)).mono ?_
  · have h2 := I.lt (by omega)
    exact (hb.cell (p := ⟨sb, off + k, none⟩) h2).trans (I.at_ k hk)
  · have := I.lt h; have := hb.size; omega
  · rintro e w2 ⟨v, parts, rfl, hv, hfl, hp0, hpn, hb2⟩
    obtain ⟨gp, cp, rfl, -, hgp⟩ := hv.form hp0
    refine ⟨gp, cp, parts, rfl, own_base hv, ?_, hfl, hp0, hpn, hb2⟩
    exact own_base_le hv gp (by simp)
theorem feed_acc {N0 b : Nat} {w : World} {S : List Nat} {o : Bool} {q : Rd} {ov : Value} {ts : List Tok} (h : Acc N0 b w S o q ov ts) (p : List UInt8) (hq : q = cs q) (hs : q.sub.length ≤ 40) (hp : p.length ≤ 100000) (W : World) (hW : W = w.alloc (.cells #[.string ⟨p.toArray⟩] 9)) (g : Nat) (hg : g = w.heap.size) :
    Calls Try.prog 8 #[.pointer (some ⟨b, 0, none⟩), .slice (some ⟨g, 0, none⟩) 1 1] W fun e w3 => ∃ v3 S3, e = .returned v3 ∧ Acc N0 b w3 S3 true (cs (fedS q p)) ov ts ∧ Fr N0 [b] w w3 ∧
      w3.ownsRow 0 45 4 v3 (outTok (fedS q p)).length ((outTok (fedS q p)).flatMap tokCells) := by
  subst hW
  subst hg
  have hw0 : wgt q = 0 := by rw [hq]; rfl
  have hO1 := Rdr.frame h.rd (Fr.of_below (S := []) ((Below.refl w.heap.size w).alloc (Nat.le_refl _) (.cells #[.string ⟨p.toArray⟩] 9))) (Nat.le_refl _) (by simp)
  refine (feed_any b S o q _ w.heap.size 0 1 1 (fun _ => ⟨p.toArray⟩) hO1 (fun j hj => ?_) (by simp) (fun hm => absurd (h.rd.lt.1 _ hm) (by omega)) ?_ hs (by omega)).mono ?_
  · obtain rfl : j = 0 := by omega
    exact (cell_new rfl).trans rfl
  · have h1 : (⟨p.toArray⟩ : ByteArray).size = p.length := by simp [ByteArray.size]
    simp only [tot, hw0, h1]; omega
  · rintro e w3 ⟨v3, S3, rfl, hv3, hO3, hM3, hd3⟩
    have e1 : fedN q (fun _ => ⟨p.toArray⟩) 1 = fedS q p := by simp [fedN]
    obtain ⟨f1, f2⟩ := feed_cs q p
    rw [e1] at hv3 hO3
    rw [f1] at hv3
    rw [f2] at hO3
    obtain ⟨a1, a2, _⟩ := Acc.fed h hM3 hO3 hv3 hd3
    exact ⟨v3, S3, rfl, a1, a2, hv3⟩
end Go.Proofs.Ytemdhbjcdibpfaa.N17
