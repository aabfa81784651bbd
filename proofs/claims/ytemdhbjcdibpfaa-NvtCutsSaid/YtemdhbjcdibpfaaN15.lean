/- NvtCuts, plain: however bytes are cut, the tokens, Data together, are the same -/
import Derived.Test.YtemdhbjcdibpfaaN14
namespace Go.Proofs.Ytemdhbjcdibpfaa.N15
set_option linter.unusedVariables false
set_option linter.unusedSimpArgs false
set_option linter.unnecessarySimpa false
open N0 N7 N9 N14
/-- alike behind whatever came ahead -/
def Lk (a b : List Tok) : Prop := ∀ m, a.foldl mrg m = b.foldl mrg m
theorem Lk.refl (a : List Tok) : Lk a a := fun _ => rfl
theorem Lk.trans {a b c : List Tok} (h : Lk a b) (k : Lk b c) : Lk a c := fun m => (h m).trans (k m)
theorem Lk.symm {a b : List Tok} (h : Lk a b) : Lk b a := fun m => (h m).symm
theorem Lk.app {a b c d : List Tok} (h : Lk a b) (k : Lk c d) : Lk (a ++ c) (b ++ d) := fun m => by rw [List.foldl_append, List.foldl_append, h m, k]
theorem Lk.plain {a b : List Tok} (h : Lk a b) : plainF a = plainF b := h []
def D (d : List UInt8) : Tok := ⟨0, 0, 0, d⟩
theorem data_join (d e : List UInt8) : Lk [D d, D e] [D (d ++ e)] := by
  intro m
  show mrg (mrg m (D d)) (D e) = mrg m (D (d ++ e))
  rcases List.eq_nil_or_concat m with rfl | ⟨m0, q, rfl⟩
  · exact mrg_join [] (D d) (D e) rfl rfl
  · rw [List.concat_eq_append]
    by_cases h : q.kind = 0
    · rw [mrg_join m0 q (D d) rfl h, mrg_join m0 q (D (d ++ e)) rfl h]
      refine (mrg_join m0 { q with text := q.text ++ (D d).text } (D e) rfl h).trans ?_
      simp [D]
    · rw [mrg_apart m0 q (D d) (fun hh => h hh.2), mrg_apart m0 q (D (d ++ e)) (fun hh => h hh.2)]
      exact mrg_join (m0 ++ [q]) (D d) (D e) rfl rfl
def dat (d : List UInt8) : List Tok := if d = [] then [] else [D d]
/-- all that is told, or is going to be -/
def outTok (r : Rd) : List Tok := r.out ++ dat r.data
def cs (r : Rd) : Rd := { r with data := [], out := [] }
theorem dat_snoc (d : List UInt8) (c : UInt8) : Lk (dat (d ++ [c])) (dat d ++ dat [c]) := by
  have e1 : dat (d ++ [c]) = [D (d ++ [c])] := if_neg (by simp)
  have e2 : dat [c] = [D [c]] := if_neg (by simp)
  rw [e1, e2]
  by_cases h : d = []
  · subst h; exact Lk.refl _
  · have e3 : dat d = [D d] := if_neg h
    rw [e3]
    exact (data_join d [c]).symm
theorem byte_out (r : Rd) (c : UInt8) : Lk (outTok (byteF r c)) (outTok r ++ outTok (byteF (cs r) c)) ∧ cs (byteF r c) = cs (byteF (cs r) c) := by
  unfold byteF cs
  simp only
  by_cases h : r.after = true ∧ c.toNat = 0 ∧ r.bin = false
  · rw [if_pos h, if_pos h]
    exact ⟨by simp [outTok, dat]; exact Lk.refl _, rfl⟩
  · rw [if_neg h, if_neg h]
    refine ⟨?_, rfl⟩
    simp only [outTok, List.nil_append, List.append_assoc]
    exact Lk.app (Lk.refl _) (dat_snoc _ _)
theorem flush_out (r : Rd) : (flushF r).out = outTok r ∧ { flushF r with out := [] } = cs r := by
  unfold flushF outTok dat cs
  by_cases h : r.data = []
  · rw [if_pos h, if_pos h]; exact ⟨by simp, by rw [← h]⟩
  · rw [if_neg h, if_neg h]; exact ⟨rfl, rfl⟩
theorem flush_data (r : Rd) : (flushF r).data = [] := by unfold flushF; split <;> simp_all
theorem tell_out (r : Rd) (t : Tok) : outTok (tellF r t) = outTok r ++ outTok (tellF (cs r) t) ∧ cs (tellF r t) = cs (tellF (cs r) t) := by
  have h1 := flush_out r
  have h2 := flush_out (cs r)
  have e1 : outTok (tellF r t) = outTok r ++ [t] := by
    unfold tellF
    simp only [outTok, flush_data, h1.1]
    simp [dat]
  have e2 : outTok (tellF (cs r) t) = [t] := by
    unfold tellF
    simp only [outTok, flush_data, h2.1]
    simp [dat, cs]
  refine ⟨by rw [e1, e2], ?_⟩
  have k1 : cs (tellF r t) = cs (flushF r) := rfl
  have k2 : cs (tellF (cs r) t) = cs (flushF (cs r)) := rfl
  have f : ∀ q : Rd, cs (flushF q) = cs q := fun q => by unfold flushF cs; split <;> simp_all
  rw [k1, k2, f, f]
  rfl
theorem quiet_out (r q : Rd) (h1 : q.out = r.out) (h2 : q.data = r.data) (q' : Rd) (h3 : q'.out = []) (h4 : q'.data = []) : Lk (outTok q) (outTok r ++ outTok q') := by
  simp [outTok, h1, h2, h3, h4, dat]
  exact Lk.refl _
theorem step0_out (r : Rd) (a : Nat) (c : UInt8) : Lk (outTok (step0 r a c)) (outTok r ++ outTok (step0 (cs r) a c)) ∧ cs (step0 r a c) = cs (step0 (cs r) a c) := by
  unfold step0
  split
  · exact byte_out { r with st := 0 } c
  · exact ⟨quiet_out r _ rfl rfl _ rfl rfl, rfl⟩
  · have h := tell_out { r with st := 0 } ⟨1, c.toNat, 0, []⟩
    exact ⟨by rw [h.1]; exact Lk.refl _, h.2⟩
  · exact ⟨quiet_out r _ rfl rfl _ rfl rfl, rfl⟩
  · have h := tell_out { r with st := 0 } ⟨2, r.cmd, c.toNat, []⟩
    exact ⟨by rw [h.1]; exact Lk.refl _, h.2⟩
  · exact ⟨quiet_out r _ rfl rfl _ rfl rfl, rfl⟩
  · exact ⟨quiet_out r _ rfl rfl _ rfl rfl, rfl⟩
  · by_cases h : r.sub.length < 40
    · rw [if_pos h, if_pos (show (cs r).sub.length < 40 from h)]
      exact ⟨quiet_out r _ rfl rfl _ rfl rfl, rfl⟩
    · rw [if_neg h, if_neg (show ¬(cs r).sub.length < 40 from h)]
      exact ⟨quiet_out r _ rfl rfl _ rfl rfl, rfl⟩
  · exact ⟨quiet_out r _ rfl rfl _ rfl rfl, rfl⟩
  · by_cases h : r.long = true
    · rw [if_pos h, if_pos (show (cs r).long = true from h)]
      exact ⟨quiet_out r _ rfl rfl _ rfl rfl, rfl⟩
    · rw [if_neg h, if_neg (show ¬(cs r).long = true from h)]
      have h := tell_out { r with st := 0 } ⟨3, 0, r.opt, r.sub⟩
      refine ⟨?_, ?_⟩
      · show Lk (outTok (tellF { r with st := 0 } ⟨3, 0, r.opt, r.sub⟩)) _
        rw [h.1]; exact Lk.refl _
      · have := congrArg (fun q : Rd => { q with sub := [] }) h.2
        exact this
  · exact ⟨quiet_out r _ rfl rfl _ rfl rfl, rfl⟩
theorem step_out (r : Rd) (c : UInt8) : Lk (outTok (stepF r c)) (outTok r ++ outTok (stepF (cs r) c)) ∧ cs (stepF r c) = cs (stepF (cs r) c) := by
  unfold stepF
  by_cases h : tab r.st (cls c) = 11
  · rw [if_pos h, if_pos (show tab (cs r).st (cls c) = 11 from h)]
    exact step0_out { r with st := 1, sub := [] } _ c
  · rw [if_neg h, if_neg (show ¬tab (cs r).st (cls c) = 11 from h)]
    exact step0_out r _ c
theorem cs_cs (r : Rd) : cs (cs r) = cs r := rfl
theorem fed_out : ∀ (l : List UInt8) (r : Rd), Lk (outTok (fedS r l)) (outTok r ++ outTok (fedS (cs r) l)) ∧ cs (fedS r l) = cs (fedS (cs r) l)
  | [], r => ⟨quiet_out r r rfl rfl (cs r) rfl rfl, rfl⟩
  | c :: l, r => by
    have h1 := step_out r c
    have h2 := fed_out l (stepF r c)
    have h3 := fed_out l (stepF (cs r) c)
    show Lk (outTok (fedS (stepF r c) l)) (outTok r ++ outTok (fedS (stepF (cs r) c) l)) ∧ cs (fedS (stepF r c) l) = cs (fedS (stepF (cs r) c) l)
    refine ⟨?_, by rw [h2.2, h3.2, h1.2]⟩
    refine h2.1.trans ?_
    rw [h1.2]
    refine (Lk.app h1.1 (Lk.refl _)).trans ?_
    rw [List.append_assoc]
    exact Lk.app (Lk.refl _) h3.1.symm
/-- fed part by part -/
def told (s : Rd) : List (List UInt8) → List Tok × Rd
  | [] => ([], s)
  | p :: l => (outTok (fedS s p) ++ (told (cs (fedS s p)) l).1, (told (cs (fedS s p)) l).2)
theorem told_all : ∀ (l : List (List UInt8)) (s : Rd), s = cs s → Lk (told s l).1 (outTok (fedS s l.flatten)) ∧ (told s l).2 = cs (fedS s l.flatten)
  | [], s, h => by
    refine ⟨?_, h⟩
    have : outTok (fedS s []) = [] := by show outTok s = []; rw [h]; rfl
    show Lk [] (outTok (fedS s []))
    rw [this]; exact Lk.refl _
  | p :: l, s, h => by
    have h1 := told_all l (cs (fedS s p)) (cs_cs _).symm
    have h2 := fed_out l.flatten (fedS s p)
    have e : fedS s (p :: l).flatten = fedS (fedS s p) l.flatten := by rw [List.flatten_cons, fedS_app]
    rw [e]
    exact ⟨(Lk.app (Lk.refl _) h1.1).trans h2.1.symm, h1.2.trans h2.2.symm⟩
theorem told_snoc : ∀ (l : List (List UInt8)) (s : Rd) (p : List UInt8), told s (l ++ [p]) = ((told s l).1 ++ outTok (fedS (told s l).2 p), cs (fedS (told s l).2 p))
  | [], s, p => by simp [told]
  | x :: l, s, p => by simp [told, told_snoc l]
theorem told_cs : ∀ (l : List (List UInt8)) (s : Rd), s = cs s → (told s l).2 = cs (told s l).2
  | [], s, h => h
  | p :: l, s, h => told_cs l _ (cs_cs _).symm
end Go.Proofs.Ytemdhbjcdibpfaa.N15
