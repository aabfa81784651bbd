/- nvt.Reader, in plain words -/
import Derived.Test.YtemdhbjcdibpfaaDoorK14
namespace Go.Proofs.YtemdhbjcdibpfaaDoor.N0
set_option maxRecDepth 100000
set_option linter.unusedVariables false
set_option linter.unusedSimpArgs false
set_option linter.unnecessarySimpa false
open Go.RowKit K1 K5 K12 K14
structure Tok where
  kind : Int
  cmd : Int
  opt : Int
  text : List UInt8
def tokCells (t : Tok) : List Value := [.int .i64 t.kind, .int .i64 t.cmd, .int .i64 t.opt, .string ⟨t.text.toArray⟩]
structure Rd where
  bin : Bool
  st : Nat
  after : Bool
  cmd : Int
  opt : Int
  sub : List UInt8
  long : Bool
  data : List UInt8
  out : List Tok
def byteF (r : Rd) (c : UInt8) : Rd := if r.after = true ∧ c.toNat = 0 ∧ r.bin = false then { r with after := false } else { r with after := decide (c.toNat = 13), data := r.data ++ [c] }
def flushF (r : Rd) : Rd := if r.data = [] then r else { r with out := r.out ++ [⟨0, 0, 0, r.data⟩], data := [] }
def tellF (r : Rd) (t : Tok) : Rd := { flushF r with out := (flushF r).out ++ [t] }
def cls (c : UInt8) : Nat := if c.toNat = 255 then 0 else if c.toNat = 240 then 1 else if c.toNat = 250 then 2 else if 251 ≤ c.toNat then 3 else 4
def tab (s k : Nat) : Nat := match s, k with
  | 0, 0 => 2 | 0, _ => 1
  | 1, 0 => 1 | 1, 2 => 6 | 1, 3 => 4 | 1, _ => 3
  | 2, _ => 5 | 3, _ => 7
  | 4, 0 => 9 | 4, _ => 8
  | 5, 0 => 8 | 5, 1 => 10 | _, _ => 11
/-- a step, but for what is given up -/
def step0 (r : Rd) (act : Nat) (c : UInt8) : Rd := match act with
  | 1 => byteF { r with st := 0 } c
  | 2 => { r with st := 1, after := false }
  | 3 => tellF { r with st := 0 } ⟨1, c.toNat, 0, []⟩
  | 4 => { r with st := 2, cmd := c.toNat }
  | 5 => tellF { r with st := 0 } ⟨2, r.cmd, c.toNat, []⟩
  | 6 => { r with st := 3 }
  | 7 => { r with st := 4, opt := c.toNat, sub := [], long := false }
  | 8 => if r.sub.length < 40 then { r with st := 4, sub := r.sub ++ [c] } else { r with st := 4, long := true }
  | 9 => { r with st := 5 }
  | 10 => { (if r.long then { r with st := 0 } else tellF { r with st := 0 } ⟨3, 0, r.opt, r.sub⟩) with sub := [] }
  | _ => { r with st := 1, sub := [] }
def stepF (r : Rd) (c : UInt8) : Rd := if tab r.st (cls c) = 11 then step0 { r with st := 1, sub := [] } (tab 1 (cls c)) c else step0 r (tab r.st (cls c)) c
/-- the object's cells -/
def tabCells : List Value := [.int .i64 2, .int .i64 1, .int .i64 1, .int .i64 1, .int .i64 1, .int .i64 1, .int .i64 3, .int .i64 6, .int .i64 4, .int .i64 3, .int .i64 5, .int .i64 5, .int .i64 5, .int .i64 5, .int .i64 5, .int .i64 7, .int .i64 7, .int .i64 7, .int .i64 7, .int .i64 7, .int .i64 9, .int .i64 8, .int .i64 8, .int .i64 8, .int .i64 8, .int .i64 8, .int .i64 10, .int .i64 11, .int .i64 11, .int .i64 11]
def zeroTab : List Value := List.replicate 30 (.int .i64 0)
/-- once: whether the table is there -/
def cellsR (once : Bool) (r : Rd) (sv dv ov : Value) : Array Value :=
  (([.bool r.bin, .int .u32 (if once then 1 else 0), .int .i32 0, .int .u32 0] : List Value) ++ (if once then tabCells else zeroTab) ++ ([.int .i64 r.st, .bool r.after, .int .i64 r.cmd, .int .i64 r.opt, sv, .bool r.long, dv, ov] : List Value)).toArray
structure Rep (w : World) (b : Nat) (once : Bool) (r : Rd) (sv dv ov : Value) : Prop where
  blk : w.heap[b]? = some (.cells (cellsR once r sv dv ov) 57 (0, 0))
  sub : w.ownsRow 0 5 1 sv r.sub.length (r.sub.map u8)
  dat : w.ownsRow 0 5 1 dv r.data.length (r.data.map u8)
  out : w.ownsRow 0 61 4 ov r.out.length (r.out.flatMap tokCells)
  st : r.st < 6
  apart : (b :: (foot sv ++ foot dv ++ foot ov)).Nodup
def ftR (b : Nat) (sv dv ov : Value) : List Nat := b :: (foot sv ++ foot dv ++ foot ov)
/-- an object whose blocks are S -/
def Rdr (w : World) (b : Nat) (S : List Nat) (once : Bool) (r : Rd) : Prop := ∃ sv dv ov, S = ftR b sv dv ov ∧ Rep w b once r sv dv ov
theorem Rep.cells {w : World} {b : Nat} {r : Rd} {sv dv ov : Value} (h : Rep w b true r sv dv ov) :
    w.cell? ⟨b, 0, none⟩ = some (.bool r.bin) ∧ w.cell? ⟨b, 34, none⟩ = some (.int .i64 r.st) ∧ w.cell? ⟨b, 35, none⟩ = some (.bool r.after) ∧ w.cell? ⟨b, 36, none⟩ = some (.int .i64 r.cmd) ∧ w.cell? ⟨b, 37, none⟩ = some (.int .i64 r.opt) ∧
    w.cell? ⟨b, 38, none⟩ = some sv ∧ w.cell? ⟨b, 39, none⟩ = some (.bool r.long) ∧ w.cell? ⟨b, 40, none⟩ = some dv ∧ w.cell? ⟨b, 41, none⟩ = some ov ∧ (∀ i, w.frozen? ⟨b, i, none⟩ = false) ∧ b < w.heap.size := by
  have h1 := cell_blk h.blk
  exact ⟨h1 0, h1 34, h1 35, h1 36, h1 37, h1 38, h1 39, h1 40, h1 41, froz_blk h.blk, blk_lt h.blk⟩
theorem Rep.ne {w : World} {b : Nat} {o : Bool} {r : Rd} {sv dv ov : Value} (h : Rep w b o r sv dv ov) :
    (∀ k ∈ foot sv, k ≠ b) ∧ (∀ k ∈ foot dv, k ≠ b) ∧ (∀ k ∈ foot ov, k ≠ b) ∧ (∀ k ∈ foot sv, k ∉ foot dv) ∧ (∀ k ∈ foot sv, k ∉ foot ov) ∧ (∀ k ∈ foot dv, k ∉ foot ov) := by
  have hn := h.apart
  rw [List.nodup_cons, List.append_assoc, List.nodup_append, List.nodup_append] at hn
  obtain ⟨h1, h2, ⟨h3, h4, h5⟩, h6⟩ := hn
  simp only [List.mem_append, not_or] at h1 h6
  exact ⟨fun k hk e => h1.1 (e ▸ hk), fun k hk e => h1.2.1 (e ▸ hk), fun k hk e => h1.2.2 (e ▸ hk), fun k hk hk' => h6 k hk k (.inl hk') rfl, fun k hk hk' => h6 k hk k (.inr hk') rfl, fun k hk hk' => h5 k hk k hk' rfl⟩
theorem foot_nodup (v : Value) : (foot v).Nodup := by unfold foot; cases v.ownBlock <;> simp
theorem apart_of {b : Nat} {sv dv ov : Value} (h1 : ∀ k ∈ foot sv, k ≠ b) (h2 : ∀ k ∈ foot dv, k ≠ b) (h3 : ∀ k ∈ foot ov, k ≠ b) (h4 : ∀ k ∈ foot sv, k ∉ foot dv) (h5 : ∀ k ∈ foot sv, k ∉ foot ov) (h6 : ∀ k ∈ foot dv, k ∉ foot ov) : (b :: (foot sv ++ foot dv ++ foot ov)).Nodup := by
  rw [List.nodup_cons, List.append_assoc, List.nodup_append, List.nodup_append]
  simp only [List.mem_append, not_or]
  exact ⟨⟨fun hm => h1 b hm rfl, fun hm => h2 b hm rfl, fun hm => h3 b hm rfl⟩, foot_nodup _, ⟨foot_nodup _, foot_nodup _, fun k hk k' hk' e => h6 k hk (e ▸ hk')⟩, fun k hk k' hk' e => by rcases hk' with hk' | hk' ; exact h4 k hk (e ▸ hk'); exact h5 k hk (e ▸ hk')⟩
theorem Rdr.frame {w w' : World} {b B : Nat} {S T : List Nat} {o : Bool} {r : Rd} (h : Rdr w b S o r) (hF : Fr B T w w') (hB : w.heap.size ≤ B) (hT : ∀ k ∈ S, k ∉ T) : Rdr w' b S o r := by
  obtain ⟨sv, dv, ov, rfl, hR⟩ := h
  have hm : ∀ k, k ∈ ftR b sv dv ov ↔ k = b ∨ (k ∈ foot sv ∨ k ∈ foot dv) ∨ k ∈ foot ov := fun k => by unfold ftR; simp [or_assoc]
  refine ⟨sv, dv, ov, rfl, blk_fr hR.blk hF (Nat.lt_of_lt_of_le (blk_lt hR.blk) hB) (hT b ((hm b).2 (.inl rfl))), own_fr hR.sub hF hB (fun k hk => hT k ((hm k).2 (.inr (.inl (.inl hk))))), own_fr hR.dat hF hB (fun k hk => hT k ((hm k).2 (.inr (.inl (.inr hk))))), own_fr hR.out hF hB (fun k hk => hT k ((hm k).2 (.inr (.inr hk)))), hR.st, hR.apart⟩
theorem Rdr.lt {w : World} {b : Nat} {S : List Nat} {o : Bool} {r : Rd} (h : Rdr w b S o r) : (∀ k ∈ S, k < w.heap.size) ∧ b ∈ S := by
  obtain ⟨sv, dv, ov, rfl, hR⟩ := h
  refine ⟨fun k hk => ?_, by simp [ftR]⟩
  unfold ftR at hk
  simp only [List.mem_cons, List.mem_append] at hk
  rcases hk with rfl | (hk | hk) | hk
  · exact blk_lt hR.blk
  · exact own_lt hR.sub k hk
  · exact own_lt hR.dat k hk
  · exact own_lt hR.out k hk
theorem Rdr.put {w w2 : World} {b : Nat} {r r' : Rd} {sv dv ov : Value} (h : Rep w b true r sv dv ov) (hF : Fr w.heap.size [b] w w2) (hblk : w2.heap[b]? = some (.cells (cellsR true r' sv dv ov) 57 (0, 0)))
    (e1 : r'.sub = r.sub) (e2 : r'.data = r.data) (e3 : r'.out = r.out) (hst : r'.st < 6) : Rdr w2 b (ftR b sv dv ov) true r' ∧ Mut w (ftR b sv dv ov) w2 (ftR b sv dv ov) := by
  obtain ⟨a1, a2, a3, a4, a5, a6⟩ := h.ne
  have ns : ∀ v : Value, (∀ k ∈ foot v, k ≠ b) → ∀ k ∈ foot v, k ∉ [b] := fun v hv k hk => by simpa using hv k hk
  exact ⟨⟨sv, dv, ov, rfl, hblk, by rw [e1]; exact own_fr h.sub hF (Nat.le_refl _) (ns _ a1), by rw [e2]; exact own_fr h.dat hF (Nat.le_refl _) (ns _ a2), by rw [e3]; exact own_fr h.out hF (Nat.le_refl _) (ns _ a3), hst, h.apart⟩,
    hF.mono (Nat.le_refl _) (by simp [ftR]), fun k hk => .inl hk⟩
theorem Rep.below {w w' : World} {b : Nat} {o : Bool} {r : Rd} {sv dv ov : Value} (h : Rep w b o r sv dv ov) (hb : Below w.heap.size w w') : Rep w' b o r sv dv ov :=
  ⟨blk_below h.blk hb (blk_lt h.blk), own_keep h.sub fun k hk => hb.block k (own_lt h.sub k hk), own_keep h.dat fun k hk => hb.block k (own_lt h.dat k hk), own_keep h.out fun k hk => hb.block k (own_lt h.out k hk), h.st, h.apart⟩
theorem Rep.put {w w2 : World} {b : Nat} {r r' : Rd} {sv dv ov : Value} (h : Rep w b true r sv dv ov) (hF : Fr w.heap.size [b] w w2) (hblk : w2.heap[b]? = some (.cells (cellsR true r' sv dv ov) 57 (0, 0)))
    (e1 : r'.sub = r.sub) (e2 : r'.data = r.data) (e3 : r'.out = r.out) (hst : r'.st < 6) : Rep w2 b true r' sv dv ov := by
  obtain ⟨a1, a2, a3, a4, a5, a6⟩ := h.ne
  have ns : ∀ v : Value, (∀ k ∈ foot v, k ≠ b) → ∀ k ∈ foot v, k ∉ [b] := fun v hv k hk => by simpa using hv k hk
  exact ⟨hblk, by rw [e1]; exact own_fr h.sub hF (Nat.le_refl _) (ns _ a1), by rw [e2]; exact own_fr h.dat hF (Nat.le_refl _) (ns _ a2), by rw [e3]; exact own_fr h.out hF (Nat.le_refl _) (ns _ a3), hst, h.apart⟩
theorem Mut.put {w w2 : World} {b : Nat} {sv dv ov : Value} (hF : Fr w.heap.size [b] w w2) : Mut w (ftR b sv dv ov) w2 (ftR b sv dv ov) := ⟨hF.mono (Nat.le_refl _) (by simp [ftR]), fun k hk => .inl hk⟩
theorem Mut.of_below {w w2 : World} {S : List Nat} (h : Below w.heap.size w w2) : Mut w S w2 S := ⟨.of_below h, fun k hk => .inl hk⟩
theorem Rdr.gen {w w2 : World} {b : Nat} {o o' : Bool} {r r' : Rd} {sv dv ov sv' dv' ov' : Value} (h : Rep w b o r sv dv ov) (hF : Fr w.heap.size (ftR b sv dv ov) w w2) (hblk : w2.heap[b]? = some (.cells (cellsR o' r' sv' dv' ov') 57 (0, 0)))
    (hs : w2.ownsRow 0 5 1 sv' r'.sub.length (r'.sub.map u8)) (hd : w2.ownsRow 0 5 1 dv' r'.data.length (r'.data.map u8)) (ho : w2.ownsRow 0 61 4 ov' r'.out.length (r'.out.flatMap tokCells)) (hst : r'.st < 6)
    (fs : ∀ k ∈ foot sv', k ∈ foot sv ∨ w.heap.size ≤ k) (fd : ∀ k ∈ foot dv', k ∈ foot dv ∨ w.heap.size ≤ k) (fo : ∀ k ∈ foot ov', k ∈ foot ov ∨ w.heap.size ≤ k)
    (n1 : ∀ k, w.heap.size ≤ k → k ∈ foot sv' → k ∉ foot dv') (n2 : ∀ k, w.heap.size ≤ k → k ∈ foot sv' → k ∉ foot ov') (n3 : ∀ k, w.heap.size ≤ k → k ∈ foot dv' → k ∉ foot ov') :
    ∃ S', Rdr w2 b S' o' r' ∧ Mut w (ftR b sv dv ov) w2 S' := by
  obtain ⟨a1, a2, a3, a4, a5, a6⟩ := h.ne
  have hb := blk_lt h.blk
  have ls := own_lt h.sub
  have ld := own_lt h.dat
  have lo := own_lt h.out
  have two : ∀ (x y x' y' : Value), (∀ k ∈ foot x, k ∉ foot y) → (∀ k ∈ foot x', k ∈ foot x ∨ w.heap.size ≤ k) → (∀ k ∈ foot y', k ∈ foot y ∨ w.heap.size ≤ k) → (∀ k ∈ foot x, k < w.heap.size) → (∀ k ∈ foot y, k < w.heap.size) → (∀ k, w.heap.size ≤ k → k ∈ foot x' → k ∉ foot y') → ∀ k ∈ foot x', k ∉ foot y' := by
    intro x y x' y' h1 h2 h3 h4 h5 h6 k hk hk'
    rcases h2 k hk with p | p
    · rcases h3 k hk' with q | q
      · exact h1 k p q
      · have := h4 k p; omega
    · exact h6 k p hk hk'
  have one : ∀ (x x' : Value), (∀ k ∈ foot x, k ≠ b) → (∀ k ∈ foot x', k ∈ foot x ∨ w.heap.size ≤ k) → ∀ k ∈ foot x', k ≠ b := by
    intro x x' h1 h2 k hk e
    rcases h2 k hk with p | p
    · exact h1 k p e
    · omega
  refine ⟨_, ⟨sv', dv', ov', rfl, hblk, hs, hd, ho, hst, apart_of (one _ _ a1 fs) (one _ _ a2 fd) (one _ _ a3 fo) (two _ _ _ _ a4 fs fd ls ld n1) (two _ _ _ _ a5 fs fo ls lo n2) (two _ _ _ _ a6 fd fo ld lo n3)⟩, hF, fun k hk => ?_⟩
  unfold ftR at hk ⊢
  simp only [List.mem_cons, List.mem_append] at hk ⊢
  rcases hk with hk | (hk | hk) | hk
  · exact .inl (.inl hk)
  · rcases fs k hk with p | p
    · exact .inl (.inr (.inl (.inl p)))
    · exact .inr p
  · rcases fd k hk with p | p
    · exact .inl (.inr (.inl (.inr p)))
    · exact .inr p
  · rcases fo k hk with p | p
    · exact .inl (.inr (.inr p))
    · exact .inr p
/-- what was kept of a Sub goes -/
theorem Rdr.noSub {w w2 : World} {b : Nat} {r r' : Rd} {sv dv ov : Value} (h : Rep w b true r sv dv ov) (hF : Fr w.heap.size [b] w w2) (hblk : w2.heap[b]? = some (.cells (cellsR true r' (.slice none 0 0) dv ov) 57 (0, 0)))
    (e1 : r'.sub = []) (e2 : r'.data = r.data) (e3 : r'.out = r.out) (hst : r'.st < 6) : ∃ S', Rdr w2 b S' true r' ∧ Mut w (ftR b sv dv ov) w2 S' := by
  obtain ⟨a1, a2, a3, a4, a5, a6⟩ := h.ne
  have ns : ∀ v : Value, (∀ k ∈ foot v, k ≠ b) → ∀ k ∈ foot v, k ∉ [b] := fun v hv k hk => by simpa using hv k hk
  refine Rdr.gen h (hF.mono (Nat.le_refl _) (by simp [ftR])) hblk (by rw [e1]; exact World.ownsRow_nil _ _ _ _) (by rw [e2]; exact own_fr h.dat hF (Nat.le_refl _) (ns _ a2)) (by rw [e3]; exact own_fr h.out hF (Nat.le_refl _) (ns _ a3)) hst (by simp) (fun k h => .inl h) (fun k h => .inl h)
    (by simp) (by simp) (fun k hk hm => absurd (own_lt h.dat k hm) (by omega))
end Go.Proofs.YtemdhbjcdibpfaaDoor.N0
