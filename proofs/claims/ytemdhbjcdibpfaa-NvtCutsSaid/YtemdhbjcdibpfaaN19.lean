/- NvtCuts: bounds, the end -/
import Derived.Test.YtemdhbjcdibpfaaN17
namespace Go.Proofs.Ytemdhbjcdibpfaa.N19
set_option linter.unusedVariables false
set_option linter.unusedSimpArgs false
set_option linter.unnecessarySimpa false
open Go.RowKit K1 K3 K5 K11 K12 K14 N0 N1 N2 N3 N4 N5 N6 N7 N8 N9 N10 N11 N13 N14 N15 N16 N17
def mass (r : Rd) : Nat := r.data.length + N14.bytes r.out
theorem mass_flush (r : Rd) : mass (flushF r) = mass r := by
  unfold flushF mass
  split
  · rfl
  · simp [N14.bytes]; omega
theorem mass_tell (r : Rd) (t : Tok) : mass (tellF r t) = mass r + t.text.length := by
  have := mass_flush r
  unfold tellF
  unfold mass at *
  simp [N14.bytes] at *
  omega
theorem mass_byte (r : Rd) (c : UInt8) : mass (byteF r c) ≤ mass r + 1 := by
  unfold byteF mass
  split <;> simp <;> omega
theorem mass_step0 (r : Rd) (a : Nat) (c : UInt8) (hs : r.sub.length ≤ 40) : mass (step0 r a c) ≤ mass r + 41 := by
  unfold step0
  split
  · have := mass_byte { r with st := 0 } c; simp only [mass] at *; omega
  · simp only [mass]; omega
  · have := mass_tell { r with st := 0 } ⟨1, c.toNat, 0, []⟩; simp only [mass] at *; simp at this; omega
  · simp only [mass]; omega
  · have := mass_tell { r with st := 0 } ⟨2, r.cmd, c.toNat, []⟩; simp only [mass] at *; simp at this; omega
  · simp only [mass]; omega
  · simp only [mass]; omega
  · split <;> (simp only [mass]; omega)
  · simp only [mass]; omega
  · split
    · simp only [mass]; omega
    · have := mass_tell { r with st := 0 } ⟨3, 0, r.opt, r.sub⟩; simp only [mass] at *; omega
  · simp only [mass]; omega
theorem mass_step (r : Rd) (c : UInt8) (hs : r.sub.length ≤ 40) : mass (stepF r c) ≤ mass r + 41 := by
  unfold stepF
  split
  · exact mass_step0 { r with st := 1, sub := [] } _ c (by simp)
  · exact mass_step0 r _ c hs
theorem mass_fed : ∀ (l : List UInt8) (r : Rd), r.sub.length ≤ 40 → mass (fedS r l) ≤ mass r + 41 * l.length
  | [], r, h => by simp [fedS]
  | c :: l, r, h => by
    have h1 := mass_step r c h
    have h2 := mass_fed l (stepF r c) (step_le r c h).2
    show mass (fedS (stepF r c) l) ≤ _
    simp only [List.length_cons]; omega
theorem mass_out (r : Rd) : N14.bytes (outTok r) = mass r := by
  unfold outTok dat mass D
  split <;> simp_all [N14.bytes]
  omega
theorem out_len (r : Rd) : (outTok r).length ≤ wgt r + 1 := by
  unfold outTok dat wgt
  split <;> simp <;> omega
def row (l : List (List UInt8)) : Nat → ByteArray := fun j => ⟨(l.getD j []).toArray⟩
theorem take_succ (l : List (List UInt8)) (k : Nat) (h : k < l.length) : l.take (k + 1) = l.take k ++ [l[k]] := List.take_succ_eq_append_getElem h
theorem row_at (l : List (List UInt8)) (k : Nat) (h : k < l.length) : row l k = ⟨l[k].toArray⟩ := by simp [row, h]
theorem fedN_row (r : Rd) (l : List (List UInt8)) : ∀ k, k ≤ l.length → fedN r (row l) k = fedS r (l.take k).flatten
  | 0, _ => by simp [fedN, fedS]
  | k + 1, h => by
    show fedS (fedN r (row l) k) (row l k).data.toList = _
    rw [fedN_row r l k (by omega), take_succ l k (by omega), List.flatten_append, fedS_app, row_at l k (by omega)]
    simp
theorem tot_row (l : List (List UInt8)) : ∀ k, k ≤ l.length → tot (row l) k = (l.take k).flatten.length
  | 0, _ => by simp [tot]
  | k + 1, h => by
    show tot (row l) k + (row l k).size = _
    rw [tot_row l k (by omega), take_succ l k (by omega), List.flatten_append, List.length_append, row_at l k (by omega)]
    simp [ByteArray.size]
theorem feed_many {b : Nat} {w : World} {S : List Nat} {o : Bool} {q : Rd} (hO : Rdr w b S o q) (hq : q = cs q) (hs : q.sub.length ≤ 40) (parts : List (List UInt8)) (gt ct : Nat)
    (hown : w.ownsRow 0 9 1 (.slice (some ⟨gt, 0, none⟩) parts.length ct) parts.length (parts.map strV)) (hgS : gt ∉ S) (hsz : parts.flatten.length ≤ 100000) (hpl : parts.length ≤ 100000) :
    Calls Try.prog 8 #[.pointer (some ⟨b, 0, none⟩), .slice (some ⟨gt, 0, none⟩) parts.length ct] w fun e w' => ∃ v S', e = .returned v ∧ w'.ownsRow 0 45 4 v (outTok (fedS q parts.flatten)).length ((outTok (fedS q parts.flatten)).flatMap tokCells) ∧
      Rdr w' b S' true (cs (fedS q parts.flatten)) ∧ Mut w S w' (S' ++ foot v) := by
  have hw0 : wgt q = 0 := by rw [hq]; rfl
  refine (feed_any b S o q _ gt 0 parts.length ct (row parts) hO (fun j hj => ?_) (own_lt hown gt (by simp)) hgS ?_ hs (by omega)).mono ?_
  · rw [Nat.zero_add, row_at parts j hj]
    exact own_at hown (by simp [hj, strV])
  · rw [tot_row parts _ (Nat.le_refl _), List.take_of_length_le (Nat.le_refl _)]; omega
  · rintro e w3 ⟨v3, S3, rfl, hv3, hO3, hM3, hd3⟩
    have e1 := fedN_row q parts parts.length (Nat.le_refl _)
    rw [List.take_of_length_le (Nat.le_refl _)] at e1
    obtain ⟨f1, f2⟩ := feed_cs q parts.flatten
    rw [e1] at hv3 hO3
    rw [f1] at hv3
    rw [f2] at hO3
    exact ⟨v3, S3, rfl, hv3, hO3, hM3⟩
/-- byte by byte -/
def ones (s : ByteArray) : List (List UInt8) := s.data.toList.map fun c => [c]
theorem ones_flat (s : ByteArray) : (ones s).flatten = s.data.toList := by
  unfold ones
  generalize s.data.toList = l
  induction l with
  | nil => rfl
  | cons c l ih => simp [ih]
theorem ones_len (s : ByteArray) : (ones s).length = s.size := by simp [ones]
theorem ones_at (s : ByteArray) (k : Nat) (h : k < (ones s).length) : (⟨(ones s)[k].toArray⟩ : ByteArray) = s.extract k (k + 1) := by
  have hk : k < s.data.size := by rw [ones_len] at h; exact h
  apply ByteArray.ext
  apply Array.ext'
  simp [ones, ByteArray.data_extract]
  rw [List.drop_eq_getElem_cons (by simpa using hk)]
  simp
theorem lent_next {w w' : World} {g n cap : Nat} {l : List (List UInt8)} (h : Lent w g n cap l) (hb : w'.heap[g]? = w.heap[g]?) : Lent w' g n cap l := by
  obtain ⟨h1, h2, h3, h4⟩ := h
  exact ⟨h1, h2, own_keep h3 (fun k hk => by simp at hk; subst hk; exact hb), (World.cell?_of_block (a := ⟨g, n, none⟩) hb).trans h4⟩
/-- all that is looked at in the end -/
structure Closing (w : World) (bx by' bz : Nat) (SX SY SZ : List Nat) (oX oY oZ : Bool) (q : Rd) (l m n : Value) (tl tm tn : List Tok) (gt ct : Nat) (vq : Value) (parts : List (List UInt8)) : Prop where
  l : w.ownsRow 0 45 4 l tl.length (tl.flatMap tokCells)
  m : w.ownsRow 0 45 4 m tm.length (tm.flatMap tokCells)
  n : w.ownsRow 0 45 4 n tn.length (tn.flatMap tokCells)
  t : Lent w gt parts.length ct parts
  qs : w.ownsRow 0 9 1 vq parts.length (parts.map strV)
  x : Rdr w bx SX oX q
  y : Rdr w by' SY oY q
  z : Rdr w bz SZ oZ q
theorem Closing.next {w w' : World} {bx by' bz : Nat} {SX SY SZ : List Nat} {oX oY oZ : Bool} {q : Rd} {l m n : Value} {tl tm tn : List Tok} {gt ct : Nat} {vq : Value} {parts : List (List UInt8)} (h : Closing w bx by' bz SX SY SZ oX oY oZ q l m n tl tm tn gt ct vq parts) (hb : Below w.heap.size w w') :
    Closing w' bx by' bz SX SY SZ oX oY oZ q l m n tl tm tn gt ct vq parts := by
  have k : ∀ {base : Nat} {e : TypeId} {s : Nat} {v : Value} {n : Nat} {xs : List Value}, w.ownsRow base e s v n xs → w'.ownsRow base e s v n xs := fun ho => own_keep ho (fun j hj => hb.block j (own_lt ho j hj))
  have r : ∀ {b : Nat} {S : List Nat} {o : Bool} {q : Rd}, Rdr w b S o q → Rdr w' b S o q := fun hr => Rdr.frame hr (Fr.of_below (S := []) hb) (Nat.le_refl _) (by simp)
  exact ⟨k h.l, k h.m, k h.n, lent_next h.t (hb.block _ (own_lt h.t.2.2.1 _ (by simp))), k h.qs, r h.x, r h.y, r h.z⟩
end Go.Proofs.Ytemdhbjcdibpfaa.N19
