/- tokens that are fed and collected -/
import Derived.Test.YtemdhbjcdibpfaaN15
namespace Go.Proofs.Ytemdhbjcdibpfaa.N16
set_option linter.unusedVariables false
set_option linter.unusedSimpArgs false
set_option linter.unnecessarySimpa false
open Go.RowKit K1 K3 K5 K11 K12 K14 N0 N1 N2 N3 N4 N5 N6 N7 N8 N9 N10 N11 N13 N14 N15
attribute [local go_sem] cell_pastA froz_pastA
/-- a reader at b, and a list of tokens from block N0 on that was collected -/
structure Acc (N0 b : Nat) (w : World) (S : List Nat) (o : Bool) (q : Rd) (ov : Value) (ts : List Tok) : Prop where
  rd : Rdr w b S o q
  own : w.ownsRow N0 45 4 ov ts.length (ts.flatMap tokCells)
  sep : ∀ j ∈ foot ov, j ∉ S
  low : ∀ j ∈ S, j = b ∨ N0 ≤ j
  size : N0 ≤ w.heap.size
  lt : b < N0
theorem own_base_le {w : World} {base : Nat} {e : TypeId} {s : Nat} {v : Value} {n : Nat} {xs : List Value} (h : w.ownsRow base e s v n xs) : ∀ k ∈ foot v, base ≤ k := fun k hk => (h.lt k (mem_foot.1 hk)).1
/-- behind Feed -/
theorem Acc.fed {N0 b : Nat} {w w3 : World} {S S3 : List Nat} {o : Bool} {q q3 : Rd} {ov v3 : Value} {ts t3 : List Tok} {x : Go.Obj} (h : Acc N0 b w S o q ov ts)
    (hM : Mut (w.alloc x) S w3 (S3 ++ foot v3)) (hO : Rdr w3 b S3 true q3) (hv : w3.ownsRow 0 45 4 v3 t3.length (t3.flatMap tokCells)) (hd : ∀ k ∈ foot v3, k ∉ S3) :
    Acc N0 b w3 S3 true q3 ov ts ∧ Fr N0 [b] w w3 ∧ (∀ k ∈ foot ov, k ∉ foot v3) := by
  have hz := hM.size
  simp at hz
  have hl := own_lt h.own
  have hF : Fr N0 [b] w w3 := by
    refine (Fr.of_below ((Below.refl N0 w).alloc h.size x)).trans (hM.fr.mono (by have := h.size; simp; omega) fun k hk hlt => ?_)
    rcases h.low k hk with p | p
    · simp [p]
    · omega
  have hdis : ∀ k ∈ foot ov, k ∉ S3 ++ foot v3 := fun k hk hm => by
    rcases hM.sub k hm with p | p
    · exact h.sep k hk p
    · have := hl k hk; simp at p; omega
  refine ⟨⟨hO, own_keep h.own fun k hk => ?_, fun k hk hm => hdis k hk (by simp [hm]), fun k hk => ?_, by have := h.size; omega, h.lt⟩, hF, fun k hk hm => hdis k hk (by simp [hm])⟩
  · exact (hM.keep (by have := hl k hk; simp; omega) (h.sep k hk)).trans (Below.heap_alloc _ _ _ (hl k hk))
  · rcases hM.sub k (by simp [hk]) with p | p
    · exact h.low k p
    · right; have := h.size; simp at p; omega
/-- behind the append -/
theorem Acc.grown {N0 b : Nat} {w w4 : World} {S : List Nat} {o : Bool} {q : Rd} {ov ov' : Value} {ts t3 : List Tok} (h : Acc N0 b w S o q ov ts)
    (hown : w4.ownsRow N0 45 4 ov' (ts.length + t3.length) (ts.flatMap tokCells ++ t3.flatMap tokCells)) (hg : w.grownBy w4 ov.ownBlock) (hat : ov'.ownBlock = ov.ownBlock ∨ ov'.ownBlock = some w.heap.size) :
    Acc N0 b w4 S o q ov' (ts ++ t3) ∧ Fr N0 [b] w w4 := by
  have hF := Fr.of_grown hg
  refine ⟨⟨Rdr.frame h.rd hF (Nat.le_refl _) (fun k hk hm => h.sep k hm hk), by rw [List.length_append, List.flatMap_append]; exact hown, fun k hk hm => ?_, h.low, Nat.le_trans h.size hg.size, h.lt⟩, hF.mono h.size fun k hk hlt => ?_⟩
  · rw [mem_foot] at hk
    rcases hat with p | p
    · exact h.sep k (mem_foot.2 (p ▸ hk)) hm
    · rw [p] at hk
      have := h.rd.lt.1 k hm
      simp at hk; omega
  · have := own_base_le h.own k hk
    omega
/-- append of nothing -/
theorem run_append_none (P : Program) (w : World) (base : Nat) (t ty e : TypeId) (i : TypeInfo) (size : Nat) (c : Nat) (ht : P.underlying t = some (.slice e)) (hi : P.info? e = some i) (v : Value) (n : Nat) (xs : List Value) (hown : w.ownsRow base e size v n xs) :
    (Builtin.append_ #[t, t] ty #[v, .slice none 0 c]).run P w = .ok v w := by
  rcases hown.2 with ⟨rfl, rfl⟩ | ⟨g, cap, cur, rfl, hbg, hg, hnc, hcm, hcs, htake⟩
  · simp [Builtin.append_, run_underlying ht, sizeOf, typeInfo, hi, Builtin.lenOf, Builtin.firstCells]
  · simp [Builtin.append_, run_underlying ht, sizeOf, typeInfo, hi, Builtin.lenOf, Builtin.firstCells, hnc, storeCells, Sem.run_pure]
theorem wpList_append_none {P : Program} {w : World} {ops : Array Oper} {rest : List Oper} {o : Oper} {a : Act} {Q : Exit → Act → World → Prop} (hgd : o.guard = none) (s x : Operand) (t : TypeId)
    (ho : o.op = .call { callee := .builtin .append, args := #[s, x], argTypes := #[t, t] }) (base : Nat) (e : TypeId) (i : TypeInfo) (size c : Nat) (ht : P.underlying t = some (.slice e)) (hi : P.info? e = some i)
    (v : Value) (n : Nat) (xs : List Value) (hs : a.eval s = v) (hown : w.ownsRow base e size v n xs) (hx : a.eval x = .slice none 0 c) (h : wpList P ops Q rest (a.put o.dst v) w) : wpList P ops Q (o :: rest) a w := by
  refine wpList_plain hgd fun K hK => ?_
  have hr := run_append_none P w base t o.type e i size c ht hi v n xs hown
  unfold Oper.wp execOp
  simp only [ho, resolve, invoke, builtin, Sem.run_bind, Sem.run_pure, Result.andThen_ok, List.map_toArray, List.map_cons, List.map_nil, hs, hx, hr]
  exact hK _ _ h
theorem Acc.frame {N0 b B : Nat} {w w' : World} {S T : List Nat} {o : Bool} {q : Rd} {ov : Value} {ts : List Tok} (h : Acc N0 b w S o q ov ts) (hF : Fr B T w w') (hB : w.heap.size ≤ B) (hT : ∀ k ∈ S, k ∉ T) (hT2 : ∀ k ∈ foot ov, k ∉ T) : Acc N0 b w' S o q ov ts :=
  ⟨Rdr.frame h.rd hF hB hT, own_fr h.own hF hB hT2, h.sep, h.low, Nat.le_trans h.size hF.size, h.lt⟩
theorem feed_cs (s : Rd) (p : List UInt8) : (flushF (fedS s p)).out = outTok (fedS s p) ∧ { flushF (fedS s p) with out := [] } = cs (fedS s p) := flush_out _
theorem wgt_cs (r : Rd) : wgt (cs r) = 0 := rfl
theorem cs_sub (r : Rd) : (cs r).sub = r.sub := rfl
theorem told_sub : ∀ (l : List (List UInt8)) (s : Rd), s.sub.length ≤ 40 → (told s l).2.sub.length ≤ 40
  | [], s, h => h
  | p :: l, s, h => told_sub l _ ((fedS_le p s h).2)
theorem told_len : ∀ (l : List (List UInt8)) (s : Rd), s.sub.length ≤ 40 → s = cs s → (told s l).1.length ≤ 3 * l.flatten.length + l.length
  | [], s, h, _ => by simp [told]
  | p :: l, s, h, hc => by
    have h1 := fedS_le p s h
    have h0 : wgt s = 0 := by rw [hc]; rfl
    have h2 := told_len l (cs (fedS s p)) (by rw [cs_sub]; exact h1.2) (cs_cs _).symm
    have h3 : (outTok (fedS s p)).length ≤ wgt (fedS s p) + 1 := by
      unfold outTok dat wgt
      split <;> simp <;> omega
    show (outTok (fedS s p) ++ (told (cs (fedS s p)) l).1).length ≤ _
    simp only [List.length_append, List.flatten_cons, List.length_cons]
    omega
theorem bytes_app (a b : List Tok) : N14.bytes (a ++ b) = N14.bytes a + N14.bytes b := by simp [N14.bytes]
end Go.Proofs.Ytemdhbjcdibpfaa.N16
