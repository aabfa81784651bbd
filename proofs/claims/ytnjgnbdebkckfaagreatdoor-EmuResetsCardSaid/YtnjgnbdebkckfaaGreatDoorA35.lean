/- K2, K4, K8, K10, K15, K26, K24 -/
import Derived.Test.YtnjgnbdebkckfaaGreatDoorA2
import Derived.ProofKit
import Derived.OpenShut
import Derived.ShutString
import Derived.ChangeOld
import Derived.Below
import Derived.Carry
import Derived.SizedLaws
import Derived.SliceStrings
import Derived.Lib.SmallJoins
import Derived.Deep.Slices
import Derived.Deep.Fields
import Derived.ChangeSame
import Derived.ChangeSlices
import Derived.Handed
import Derived.HandedShaped
import Derived.LaidMore
import Derived.Lay
import Derived.Stop.Joined
import Derived.SevenTiedAt
import Derived.Shelf.Vars
import Derived.Lib.Strings
set_option linter.unusedVariables false
set_option linter.unusedSimpArgs false
set_option linter.unnecessarySimpa false
namespace Go.Proofs.YtnjgnbdebkckfaaGreatDoor.K2
open Go.ChangeShapes Go.WideShapes Go.ChangeAt Go.RowKit
/-- arguments that are read stay as they were -/
theorem trodAll_below {H : Type} {enc : TypeId × Value → H} {P : Program} (hl : laidOutB P = true) {W W' : World} (hb : Below W.heap.size W W') :
    ∀ {ts : List TypeId} {vs : List Value} {ds : List (DataW H)} {ps : List MemPlace}, (ts.all fun t => P.readableRec t && decide (t < P.types.size)) = true →
      DataW.TrodAll enc P W 0 (fun _ => true) true ts vs ds ps → DataW.TrodAll enc P W' 0 (fun b => decide (b < W.heap.size)) true ts vs ds ps
  | [], [], [], _, _, h => h
  | [], [], _ :: _, _, _, h => h.elim
  | [], _ :: _, _, _, _, h => h.elim
  | _ :: _, [], _, _, _, h => h.elim
  | _ :: _, _ :: _, [], _, _, h => h.elim
  | t :: ts, v :: vs, d :: ds, ps, hr, h => by
    obtain ⟨p, q, h1, h2, rfl⟩ := h
    simp only [List.all_cons, Bool.and_eq_true, decide_eq_true_eq] at hr
    refine ⟨p, q, Below.trod hl hr.1.1 hr.1.2 h1 hb ?_, trodAll_below hl hb hr.2 h2, rfl⟩
    intro x hx
    have hh : DataW.TrodAll enc P W 0 (fun _ => true) true [t] [v] [d] p := trodAll_mk1 h1
    exact hh.lt x hx
/-- the post of a law: true, and all reads as before -/
theorem law_post {H : Type} {enc : TypeId × Value → H} {P : Program} {f : Func} {s : ChangeSpec} {tb : TypeId} {W W' : World} {args : Array Value} {ds gs : List (DataW H)} {before : List MemPlace}
    (hl : laidOutB P = true) (hr : (f.params.toList.all fun t => P.readableRec t && decide (t < P.types.size)) = true) (hub : P.underlying tb = some .bool) (hres : f.resultTypes = #[tb]) (hv : s.vars = [])
    (hW : DataW.Whole enc P f.params.toList s.vars false W args.toList ds gs before) (hfn : s.fn H (ds ++ gs) = { results := [.lit (.bool true)], args := ds })
    (hb : Below W.heap.size W W') : s.post enc P f false true false false W args (.bool true) W' := by
  have hW' := hW
  obtain ⟨p, q, hA, hV, rfl, hfz, hnd⟩ := hW
  rw [hv] at hV
  refine ⟨ds, gs, _, [], p, [], hW', ?_, ?_, ?_, hb.frame _, fun h => by cases h⟩
  · rw [hres, hfn]
    exact trodAll_mk1 (shut_bool hub _)
  · rw [hfn]
    exact trodAll_below hl hb hr hA
  · rw [hv, hfn]
    rfl
end Go.Proofs.YtnjgnbdebkckfaaGreatDoor.K2
namespace Go.Proofs.YtnjgnbdebkckfaaGreatDoor.K4
open Go.ChangeShapes Go.WideShapes Go.Deep
section
variable {H : Type} {enc : TypeId × Value → H} {P : Program} {w : World} {base : Nat} {spare : Nat → Bool} {held : Bool}
theorem open_slice_fields {t e : TypeId} {fs : Array Field} {fuel : Nat} {cs : List Value} {x : DataW H × List MemPlace} (ht : P.underlying t = some (.slice e)) (he : P.underlying e = some (.struct fs))
    (hone : oneCellFields P fs = true) (hC : P.cellsOf e = fs.size) (h : DataW.trod enc P w base spare held fuel t cs = some x) :
    (cs = [.slice none 0 0] ∧ x = (.nil, [])) ∨
    ∃ (a : Addr) (len cap m : Nat) (D : Nat → DataW H) (Pl : Nat → List MemPlace), cs = [.slice (some a) len cap] ∧ base ≤ a.block ∧ len ≤ cap ∧ cap ≤ maxLen ∧ m = (if spare a.block then cap else len) ∧
      x = (.slice ((List.range len).map D) ((List.range (m - len)).map fun j => D (len + j)), MemPlace.row a (m * fs.size) ++ (List.range m).flatMap Pl) ∧
      ∀ i, i < m → ∃ (ys : List (DataW H × List MemPlace)) (n : Nat), D i = .agg (ys.map (·.1)) ∧ Pl i = ys.flatMap (·.2) ∧ ys.length = fs.size ∧
        ∀ (j : Nat) (f : Field), fs[j]? = some f → ∃ (v : Value) (y : DataW H × List MemPlace), w.cell? (a.add (i * fs.size + j)) = some v ∧ ys[j]? = some y ∧ DataW.trod enc P w base spare held n f.type [v] = some y := by
  rcases open_slice ht h with h0 | ⟨a, len, cap, m, n, D, Pl, hcs, hb, hl, hm, hmm, hx, hi⟩
  · exact .inl h0
  · refine .inr ⟨a, len, cap, m, D, Pl, hcs, hb, hl, hm, hmm, by rw [hC] at hx; exact hx, fun i him => ?_⟩
    obtain ⟨cs', hc, ht'⟩ := hi i him
    rw [hC] at hc
    obtain ⟨ys, n', hn', hy, hlen, hyl, hf⟩ := DataW.trod_struct he ht'
    obtain ⟨_, hcl, hat⟩ := World.cells?_some hc
    simp only [Prod.mk.injEq] at hy
    refine ⟨ys, n', hy.1, hy.2, hyl, fun j f hj => ?_⟩
    obtain ⟨ho, hk⟩ := hone_of hone j f hj
    have hjl : j < fs.size := (Array.getElem?_eq_some_iff.1 hj).1
    have hcell := hat j hjl
    have hv : cs'[j]? = some (cs'[j]'(by omega)) := List.getElem?_eq_getElem (by omega)
    have h1 := hf j f hj
    rw [ho, hk] at h1
    have hone' : (cs'.drop j).take 1 = [cs'[j]'(by omega)] := by
      rw [List.drop_eq_getElem_cons (by omega)]
      rfl
    rw [hone'] at h1
    have hys : ys[j]? = some (ys[j]'(by omega)) := List.getElem?_eq_getElem (by omega)
    refine ⟨_, _, ?_, hys, h1.trans hys⟩
    rw [← Go.Deep.add_add, hcell, hv]
end
theorem addr_plain {w : World} {a : Addr} {v : Value} (h : w.cell? a = some v) : a = ⟨a.block, a.off, none⟩ := by
  have hs : a.spot = none := by
    unfold World.cell? at h
    split at h
    · cases hq : a.spot with
      | none => rfl
      | some q => simp [hq] at h
    · cases h
  cases a
  simp at hs
  subst hs
  rfl
theorem add_plain (b o k : Nat) : (⟨b, o, none⟩ : Addr).add k = ⟨b, o + k, none⟩ := by
  unfold Addr.add
  split <;> simp_all
end Go.Proofs.YtnjgnbdebkckfaaGreatDoor.K4
namespace Go.Proofs.YtnjgnbdebkckfaaGreatDoor.K8
open Go.ChangeShapes Go.WideShapes Go.RowKit
theorem all_mem {H : Type} {P : Program} {e : TypeId} {d : DataW H} : ∀ {l : List (DataW H)}, d ∈ l → ∀ n ∈ d.weights P e, n ∈ DataW.weightsAll P e l
  | d0 :: l, hd, n, hn => by
    simp only [DataW.weightsAll, List.mem_append]
    rcases List.mem_cons.1 hd with rfl | h
    · exact Or.inl hn
    · exact Or.inr (all_mem h n hn)
theorem sized_each {H : Type} {P : Program} {ts : List TypeId} {ds : List (DataW H)} (h : (DataW.weightsEach P ts ds).all (· ≤ reachBytes) = true) {j : Nat} {t e : TypeId} {elems spare : List (DataW H)} {bs : List UInt8}
    (ht : ts[j]? = some t) (hd : ds[j]? = some (.slice elems spare)) (hu : P.underlying t = some (.slice e)) (hx : DataW.lit (.string bs) ∈ elems) : bs.length ≤ reachBytes := by
  have := List.all_eq_true.1 h _ (DataW.weights_mem_each ht hd bs.length (by
    simp only [DataW.weights, hu, List.mem_cons, List.mem_append]
    exact Or.inr (Or.inl (all_mem hx _ (by simp [DataW.weights])))))
  simpa using this
theorem open_strs {H : Type} {enc : TypeId × Value → H} {P : Program} {W : World} {held : Bool} {t e : TypeId} {a0 : Option Addr} {len cap : Nat} {d : DataW H} {p : List MemPlace} {ts : List TypeId} {ds : List (DataW H)} {j : Nat}
    (hu : P.underlying t = some (.slice e)) (he : P.underlying e = some .string) (hce : P.cellsOf e = 1) (h0 : DataW.Trod enc P W 0 (fun _ => true) held t (.slice a0 len cap) d p)
    (hsz : (DataW.weightsEach P ts ds).all (· ≤ reachBytes) = true) (ht : ts[j]? = some t) (hd : ds[j]? = some d) :
    ∃ (sb off : Nat) (L : Nat → ByteArray), (a0 = some ⟨sb, off, none⟩ ∨ len = 0) ∧ len ≤ cap ∧ len ≤ 9223372036854775807 ∧ (∀ k, k < len → W.cell? ⟨sb, off + k, none⟩ = some (.string (L k))) ∧
      (∀ k, k < len → (L k).size ≤ 281474976710656) ∧ (0 < len → sb < W.heap.size) := by
  obtain ⟨fuel, hf⟩ := h0
  rcases open_strings hu he hce hf with ⟨hcs, hx⟩ | ⟨a, len', cap', ss, hcs, _, hl, hm, hz, hx, hcell, hwz⟩
  · simp [Value.cells] at hcs
    obtain ⟨rfl, rfl, rfl⟩ := hcs
    exact ⟨0, 0, fun _ => ⟨#[]⟩, .inr rfl, Nat.le_refl _, by omega, fun k h => by omega, fun k h => by omega, fun h => by omega⟩
  · simp [Value.cells] at hcs
    obtain ⟨rfl, rfl, rfl⟩ := hcs
    simp only [Prod.mk.injEq] at hx
    obtain ⟨rfl, rfl⟩ := hx
    unfold maxLen at hm
    by_cases hz0 : len = 0
    · subst hz0
      exact ⟨0, 0, fun _ => ⟨#[]⟩, .inr rfl, Nat.zero_le _, by omega, fun k h => by omega, fun k h => by omega, fun h => by omega⟩
    · simp only [if_true] at hz
      have h0 := hcell 0 (by omega)
      have ha : a.add 0 = a := by simp [Addr.add]
      rw [ha] at h0
      have hp := K4.addr_plain h0
      have hlt := World.block_lt_of_cell? W _ h0
      have hreach : ∀ k, k < len → (ss.getD k ByteArray.empty).size ≤ 281474976710656 := fun k hk => by
        have hk' : k < ss.length := by omega
        have := sized_each hsz ht hd hu (bs := (ss.getD k ByteArray.empty).data.toList) (by
          unfold strs
          refine List.mem_map.2 ⟨ss.getD k ByteArray.empty, ?_, rfl⟩
          rw [List.getD_eq_getElem?_getD, List.getElem?_eq_getElem hk', Option.getD_some]
          exact List.mem_take_iff_getElem.2 ⟨k, by omega, rfl⟩)
        have h2 := reachBytes_lt
        have h3 : (ss.getD k ByteArray.empty).data.toList.length = (ss.getD k ByteArray.empty).size := by simp
        omega
      generalize a.block = b at *
      generalize a.off = o at *
      subst hp
      refine ⟨b, o, fun i => ss.getD i ByteArray.empty, .inl rfl, hl, by omega, fun k hk => ?_, hreach, fun _ => hlt⟩
      have := hcell k (by omega)
      rwa [K4.add_plain] at this
end Go.Proofs.YtnjgnbdebkckfaaGreatDoor.K8
namespace Go.Proofs.YtnjgnbdebkckfaaGreatDoor.K10
open Go.ChangeShapes Go.WideShapes Go.RowKit
theorem open_ints1 {H : Type} {enc : TypeId × Value → H} {P : Program} {W : World} {held : Bool} {t e : TypeId} {kd : IntKind} {a0 : Option Addr} {len cap : Nat} {d : DataW H} {p : List MemPlace}
    (hu : P.underlying t = some (.slice e)) (he : P.underlying e = some (.int kd)) (hce : P.cellsOf e = 1) (h0 : DataW.Trod enc P W 0 (fun _ => true) held t (.slice a0 len cap) d p) :
    ∃ (sb off : Nat) (L : Nat → Int), (a0 = some ⟨sb, off, none⟩ ∨ len = 0) ∧ len ≤ cap ∧ len ≤ 9223372036854775807 ∧ (∀ k, k < len → W.cell? ⟨sb, off + k, none⟩ = some (.int kd (L k))) ∧ (0 < len → sb < W.heap.size) := by
  obtain ⟨fuel, hf⟩ := h0
  rcases open_ints hu he hce hf with ⟨hcs, hx⟩ | ⟨a, len', cap', zs, hcs, _, hl, hm, hz, hx, hcell, hwz⟩
  · simp [Value.cells] at hcs
    obtain ⟨rfl, rfl, rfl⟩ := hcs
    exact ⟨0, 0, fun _ => 0, .inr rfl, Nat.le_refl _, by omega, fun k h => by omega, fun h => by omega⟩
  · simp [Value.cells] at hcs
    obtain ⟨rfl, rfl, rfl⟩ := hcs
    unfold maxLen at hm
    by_cases hz0 : len = 0
    · subst hz0
      exact ⟨0, 0, fun _ => 0, .inr rfl, Nat.zero_le _, by omega, fun k h => by omega, fun h => by omega⟩
    · simp only [if_true] at hz
      have h0 := hcell 0 (by omega)
      have ha : a.add 0 = a := by simp [Addr.add]
      rw [ha] at h0
      have hp := K4.addr_plain h0
      have hlt := World.block_lt_of_cell? W _ h0
      generalize a.block = b at *
      generalize a.off = o at *
      subst hp
      refine ⟨b, o, fun i => zs.getD i 0, .inl rfl, hl, by omega, fun k hk => ?_, fun _ => hlt⟩
      have := hcell k (by omega)
      rwa [K4.add_plain] at this
end Go.Proofs.YtnjgnbdebkckfaaGreatDoor.K10
namespace Go.Proofs.YtnjgnbdebkckfaaGreatDoor.K15
open Go.ChangeShapes Go.WideShapes Go.RowKit
theorem wf_i64 {n : Int} (h : (Lit.int .i64 n).wf = true) : -9223372036854775808 ≤ n ∧ n ≤ 9223372036854775807 := by
  simpa [Lit.wf, show IntKind.i64.min = -9223372036854775808 from by decide, show IntKind.i64.max = 9223372036854775807 from by decide] using h
theorem open_ints2 {H : Type} {enc : TypeId × Value → H} {P : Program} {W : World} {held : Bool} {t e : TypeId} {a0 : Option Addr} {len cap : Nat} {d : DataW H} {p : List MemPlace}
    (hu : P.underlying t = some (.slice e)) (he : P.underlying e = some (.int .i64)) (hce : P.cellsOf e = 1) (h0 : DataW.Trod enc P W 0 (fun _ => true) held t (.slice a0 len cap) d p) :
    ∃ (sb off : Nat) (L : Nat → Int), (a0 = some ⟨sb, off, none⟩ ∨ len = 0) ∧ len ≤ cap ∧ len ≤ 9223372036854775807 ∧ (∀ k, k < len → W.cell? ⟨sb, off + k, none⟩ = some (.int .i64 (L k))) ∧ (∀ k, k < len → -9223372036854775808 ≤ L k ∧ L k ≤ 9223372036854775807) ∧ (0 < len → sb < W.heap.size) := by
  obtain ⟨fuel, hf⟩ := h0
  rcases open_ints hu he hce hf with ⟨hcs, hx⟩ | ⟨a, len', cap', zs, hcs, _, hl, hm, hz, hx, hcell, hwz⟩
  · simp [Value.cells] at hcs
    obtain ⟨rfl, rfl, rfl⟩ := hcs
    exact ⟨0, 0, fun _ => 0, .inr rfl, Nat.le_refl _, by omega, fun k h => by omega, fun k h => by omega, fun h => by omega⟩
  · simp [Value.cells] at hcs
    obtain ⟨rfl, rfl, rfl⟩ := hcs
    unfold maxLen at hm
    by_cases hz0 : len = 0
    · subst hz0
      exact ⟨0, 0, fun _ => 0, .inr rfl, Nat.zero_le _, by omega, fun k h => by omega, fun k h => by omega, fun h => by omega⟩
    · simp only [if_true] at hz
      have h0 := hcell 0 (by omega)
      have ha : a.add 0 = a := by simp [Addr.add]
      rw [ha] at h0
      have hp := K4.addr_plain h0
      have hlt := World.block_lt_of_cell? W _ h0
      generalize a.block = b at *
      generalize a.off = o at *
      subst hp
      refine ⟨b, o, fun i => zs.getD i 0, .inl rfl, hl, by omega, fun k hk => ?_, fun k hk => ?_, fun _ => hlt⟩
      · have := hcell k (by omega)
        rwa [K4.add_plain] at this
      · refine wf_i64 (hwz _ ?_)
        show zs.getD k 0 ∈ zs
        rw [List.getD_eq_getElem?_getD, List.getElem?_eq_getElem (by omega)]
        exact List.getElem_mem _
end Go.Proofs.YtnjgnbdebkckfaaGreatDoor.K15
namespace Go.Proofs.YtnjgnbdebkckfaaGreatDoor.K26
open Go.ChangeShapes Go.WideShapes Go.RowKit Go.Deep
theorem open_pairs {H : Type} {enc : TypeId × Value → H} {P : Program} {W : World} {held : Bool} {t e f : TypeId} {a0 : Option Addr} {len cap : Nat} {d : DataW H} {p : List MemPlace}
    (hu : P.underlying t = some (.slice e)) (he : P.underlying e = some (.array 2 f)) (hf : P.underlying f = some (.int .i64)) (hce : P.cellsOf e = 2) (hcf : P.cellsOf f = 1) (h0 : DataW.Trod enc P W 0 (fun _ => true) held t (.slice a0 len cap) d p) :
    ∃ (sb off : Nat) (L : Nat → Int × Int), (a0 = some ⟨sb, off, none⟩ ∨ len = 0) ∧ len ≤ cap ∧ len ≤ 9223372036854775807 ∧ (∀ k, k < len → W.cell? ⟨sb, off + k * 2, none⟩ = some (.int .i64 (L k).1) ∧ W.cell? ⟨sb, off + k * 2 + 1, none⟩ = some (.int .i64 (L k).2)) ∧
      (∀ k, k < len → (-9223372036854775808 ≤ (L k).1 ∧ (L k).1 ≤ 9223372036854775807) ∧ (-9223372036854775808 ≤ (L k).2 ∧ (L k).2 ≤ 9223372036854775807)) ∧ (0 < len → sb < W.heap.size) := by
  obtain ⟨fuel, hff⟩ := h0
  rcases open_slice hu hff with ⟨hcs, hx⟩ | ⟨a, len', cap', m, n, D, Pl, hcs, _, hl, hm, hmm, hx, hi⟩
  · simp [Value.cells] at hcs
    obtain ⟨rfl, rfl, rfl⟩ := hcs
    exact ⟨0, 0, fun _ => (0, 0), .inr rfl, Nat.le_refl _, by omega, fun k h => by omega, fun k h => by omega, fun h => by omega⟩
  · simp [Value.cells] at hcs
    obtain ⟨rfl, rfl, rfl⟩ := hcs
    unfold maxLen at hm
    by_cases hz0 : len = 0
    · subst hz0
      exact ⟨0, 0, fun _ => (0, 0), .inr rfl, Nat.zero_le _, by omega, fun k h => by omega, fun k h => by omega, fun h => by omega⟩
    · have hpart : ∀ i, i < len → ∃ x y : Int, W.cell? (a.add (i * 2)) = some (.int .i64 x) ∧ W.cell? (a.add (i * 2 + 1)) = some (.int .i64 y) ∧ (Lit.int .i64 x).wf = true ∧ (Lit.int .i64 y).wf = true := by
        intro i hil
        have him : i < m := by rw [hmm]; split <;> omega
        obtain ⟨cs', hc, ht'⟩ := hi i him
        rw [hce] at hc
        obtain ⟨xs, m', _, _, hcl, hxl, hat⟩ := DataW.trod_array he ht'
        obtain ⟨_, hlen, hcell⟩ := World.cells?_some hc
        match cs', hlen with
        | [u, v], _ =>
          have h1 := hat 0 (by omega)
          have h2 := hat 1 (by omega)
          rw [hcf] at h1 h2
          simp only [Nat.zero_mul, List.drop_zero, List.take_succ_cons, List.take_zero, Nat.one_mul, List.drop_succ_cons] at h1 h2
          rw [List.getElem?_eq_getElem (by omega)] at h1 h2
          obtain ⟨x, e1, _, w1⟩ := DataW.trod_int hf h1
          obtain ⟨y, e2, _, w2⟩ := DataW.trod_int hf h2
          simp only [List.cons.injEq, and_true] at e1 e2
          have c0 := hcell 0 (by omega)
          have c1 := hcell 1 (by omega)
          simp only [List.getElem?_cons_zero, List.getElem?_cons_succ] at c0 c1
          refine ⟨x, y, ?_, ?_, w1, w2⟩
          · rw [← e1, ← c0, Go.Deep.add_add, Nat.add_zero]
          · rw [← e2, ← c1, Go.Deep.add_add]
      have hp : a = ⟨a.block, a.off, none⟩ := by
        obtain ⟨x, y, h, _⟩ := hpart 0 (by omega)
        rw [Nat.zero_mul] at h
        have ha : a.add 0 = a := by simp [Addr.add]
        rw [ha] at h
        exact K4.addr_plain h
      have hlt : a.block < W.heap.size := by
        obtain ⟨x, y, h, _⟩ := hpart 0 (by omega)
        have := World.block_lt_of_cell? W _ h
        rw [hp] at this ⊢
        rwa [K4.add_plain] at this
      generalize a.block = b at *
      generalize a.off = o at *
      subst hp
      refine ⟨b, o, fun i => if h : i < len then ((hpart i h).choose, (hpart i h).choose_spec.choose) else (0, 0), .inl rfl, hl, by omega, fun k hk => ?_, fun k hk => ?_, fun _ => hlt⟩
      · have h := (hpart k hk).choose_spec.choose_spec
        simp only [dif_pos hk]
        exact ⟨(congrArg W.cell? (K4.add_plain b o (k * 2))).symm.trans h.1, (congrArg W.cell? (K4.add_plain b o (k * 2 + 1))).symm.trans h.2.1⟩
      · have h := (hpart k hk).choose_spec.choose_spec
        simp only [dif_pos hk]
        exact ⟨K15.wf_i64 h.2.2.1, K15.wf_i64 h.2.2.2⟩
end Go.Proofs.YtnjgnbdebkckfaaGreatDoor.K26
namespace Go.Proofs.YtnjgnbdebkckfaaGreatDoor.K24
open Go.ChangeShapes Go.WideShapes Go.ChangeAt Go.RowKit K20 K21
theorem returns_laid {H : Type} {enc : TypeId × Value → H} {a : Assume} {C : Checked} {os : Os} {f : FuncId} {fn : Func} {s : ChangeSpec} {conds : List PathCond} {apart fresh handsOn again : Bool} {X : World → Array Value → Prop}
    (hX : ∀ (w w' : World) (args : Array Value), w.heap = w'.heap → X w args → X w' args)
    (own : ownKnob C.prog.godebug = none) (started : os.Started) (noInit : C.prog.inits.idxOf? f = none) (hfn : C.prog.funcs[f]? = some fn)
    (witness : ∃ (w : World) (tape : Tape) (i : Input), w.os = os ∧ (w.forCall tape i).Shaped C.prog ∧ i.vars = [] ∧ Input.okWide C.prog (w.forCall tape i) .any w.heap.size f i ∧
      ((s.pre enc C.prog fn conds apart (w.forCall tape i).memory i.args ∧ X (w.forCall tape i).memory i.args) ∧ sizedMet enc C.prog fn (OpenSpec.ofChange s) apart (w.forCall tape i).memory i.args) ∧ a.holds C.prog (lone (Frame.enter C.prog f i.args .normal) [] (w.forCall tape i)))
    (contract : ∀ (W : World) (base : Nat) (args : Array Value) (ds gs : List (DataW H)) (before : List MemPlace),
      (∀ (j : Nat) t v, fn.params[j]? = some t → args[j]? = some v → Value.okWide C.prog W .any base t v) →
      DataW.Whole enc C.prog fn.params.toList s.vars apart W args.toList ds gs before →
      (DataW.weightsEach C.prog (fn.params.toList ++ s.plain.varTypes C.prog) (ds ++ gs)).all (· ≤ reachBytes) = true → X W args → W.ShapedOpen C.prog →
      Calls C.prog f args W fun e W' => ∃ v, e = .returned v ∧ s.post enc C.prog fn apart fresh handsOn again W args v W') :
    ReturnsInHanded a C os f .any (fun w args => (s.pre enc C.prog fn conds apart w args ∧ X w args) ∧ sizedMet enc C.prog fn (OpenSpec.ofChange s) apart w args) (s.post enc C.prog fn apart fresh handsOn again) := by
  refine returnsInHanded_of_calls own started noInit witness ?_
  intro w tape i _ hsh _ hok hpre hholds
  obtain ⟨_, _, _, fn', hfn', _, _, _, _, hval⟩ := hok
  obtain rfl : fn' = fn := Option.some.inj (hfn'.symm.trans hfn)
  obtain ⟨⟨⟨ds, gs, before, hw, _⟩, hx⟩, hz⟩ := hpre
  have hw' := DataW.Whole.of_heap (w' := w.forCall tape i) (by rfl) hw
  refine (contract (w.forCall tape i) w.heap.size i.args ds gs before hval hw' (hz.weights hw) (hX _ _ _ (by rfl) hx) hsh).mono fun e W' ⟨v, he, hp⟩ => ?_
  subst he
  exact ChangeSpec.post_blind hp
theorem arr_eta (s : ByteArray) : (⟨s.data.toList.toArray⟩ : ByteArray) = s := by cases s; simp
/-- strings -/
theorem rd_strs {W : World} {a0 : Option Addr} {sb off len cap : Nat} {L : Nat → ByteArray} (e1 : a0 = some ⟨sb, off, none⟩ ∨ len = 0) (e2 : len ≤ cap) (e4 : ∀ k, k < len → W.cell? ⟨sb, off + k, none⟩ = some (.string (L k))) (e6 : 0 < len → sb < W.heap.size) :
    ∃ l : List (List UInt8), l.length = len ∧ l = (List.range len).map (fun k => (L k).data.toList) ∧ Rd 1 strE W (.slice a0 len cap) l := by
  refine ⟨_, by simp, rfl, ?_⟩
  by_cases h0 : len = 0
  · subst h0
    exact ⟨a0, cap, rfl, by simp, .inl rfl⟩
  · rcases e1 with rfl | e1
    · exact Rd.list (u := fun k => .string (L k)) (fun k _ => by simp [strE, arr_eta]) e2 (e6 (by omega)) e4
    · exact absurd e1 h0
theorem strs_le {len : Nat} {L : Nat → ByteArray} {B : Nat} (h : ∀ k, k < len → (L k).size ≤ B) : ∀ l ∈ (List.range len).map (fun k => (L k).data.toList), l.length ≤ B := by
  intro l hl
  obtain ⟨k, hk, rfl⟩ := List.mem_map.1 hl
  simpa using h k (by simpa using hk)
end Go.Proofs.YtnjgnbdebkckfaaGreatDoor.K24
