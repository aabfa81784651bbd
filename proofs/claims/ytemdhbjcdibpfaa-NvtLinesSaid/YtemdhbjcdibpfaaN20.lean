/- the document's Reader, on the ground -/
import Derived.Test.YtemdhbjcdibpfaaN14
namespace Go.Proofs.Ytemdhbjcdibpfaa.N20
set_option linter.unusedVariables false
set_option linter.unusedSimpArgs false
set_option linter.unnecessarySimpa false
open Go.RowKit K1 K3 K5 K11 K12 K14 N0 N1 N2 N8 N10 N11 N13 N14
attribute [local go_sem] cell_pastA froz_pastA
def D1 (c : UInt8) : Tok := ⟨0, 0, 0, [c]⟩
set_option maxHeartbeats 4000000 in
theorem data_any (c : UInt8) (w : World) : Calls Try.prog 36 #[.int .u8 c.toNat] w fun e w' => ∃ g, e = .returned (.slice (some ⟨g, 0, none⟩) 1 1) ∧ w'.ownsRow w.heap.size 45 4 (.slice (some ⟨g, 0, none⟩) 1 1) 1 (tokCells (D1 c)) ∧ Below w.heap.size w w' := by
  have HCV : (convert 39 9 (.slice (some ⟨w.heap.size, 0, none⟩) 1 1)).run Try.prog (w.alloc (.cells #[.int .u8 c.toNat] 5)) = .ok (.string ⟨[c].toArray⟩) (w.alloc (.cells #[.int .u8 c.toNat] 5)) :=
    conv_own (l := [c]) (own_new w #[.int .u8 c.toNat] 5 1 (by decide) rfl) rfl
  go_enter Try.func36, Try.ntmps36
  go_wp2_with fail
  go_ret
  refine ⟨_, rfl, ⟨rfl, .inr ⟨_, 1, _, rfl, ?_, blk_new (by simp), by decide, by decide, by rfl, by rfl⟩⟩, by repeat' (first | with_reducible assumption | with_reducible exact Below.refl _ _ | with_reducible apply Below.alloc | with_reducible apply Below.setCell | with_reducible apply Below.drew | (refine Below.trans ?_ (Below.mono (by with_reducible assumption) ?_)) | omega | (simp; omega) | (simp; done))⟩
  simp
def gcells (bin cr : Bool) : Array Value := #[.bool bin, .bool cr, .slice none 0 0, .bool false, .int .i64 0, .slice none 0 0, .bool false, .bool false]
/-- one byte that is not 255 -/
def gs (bin : Bool) (x : Bool × List UInt8) (c : UInt8) : Bool × List UInt8 := if x.1 = true ∧ c.toNat = 0 ∧ bin = false then (false, x.2) else (decide (c.toNat = 13), x.2 ++ [c])
def gt (bin cr : Bool) (c : UInt8) : List Tok := if cr = true ∧ c.toNat = 0 ∧ bin = false then [] else [D1 c]
def Gr (w : World) (b : Nat) (bin cr : Bool) : Prop := w.heap[b]? = some (.cells (gcells bin cr) 62 (0, 0))
theorem Gr.set {w : World} {b : Nat} {bin cr : Bool} (h : Gr w b bin cr) (x : Bool) : Gr (w.setCell ⟨b, 1, none⟩ (.bool x)) b bin x := blk_set h
set_option maxHeartbeats 4000000 in
theorem feed_ground (b : Nat) (bin cr : Bool) (c : UInt8) (w : World) (hc : c.toNat ≠ 255) (h : Gr w b bin cr) :
    Calls Try.prog 30 #[.pointer (some ⟨b, 0, none⟩), .int .u8 c.toNat] w fun e w' => ∃ v, e = .returned v ∧ w'.ownsRow w.heap.size 45 4 v (gt bin cr c).length ((gt bin cr c).flatMap tokCells) ∧ Gr w' b bin (gs bin (cr, []) c).1 ∧ Fr w.heap.size [b] w w' := by
  have H := Lib.hid h
  have hcl := cell_blk h
  have c0 : w.cell? ⟨b, 0, none⟩ = some (.bool bin) := hcl 0
  have c1 : w.cell? ⟨b, 1, none⟩ = some (.bool cr) := hcl 1
  have c2 : w.cell? ⟨b, 2, none⟩ = some (.slice none 0 0) := hcl 2
  have c3 : w.cell? ⟨b, 3, none⟩ = some (.bool false) := hcl 3
  have hfz := froz_blk h
  have hbl := blk_lt h
  have hq : ((c.toNat : Int) == 255) = false := by simp; omega
  clear hcl h
  by_cases hs : cr = true ∧ c.toNat = 0 ∧ bin = false
  · have e1 : gt bin cr c = [] := if_pos hs
    have e2 : gs bin (cr, []) c = (false, []) := if_pos hs
    rw [e1, e2]
    obtain ⟨rfl, h0, rfl⟩ := hs
    have hz : ((c.toNat : Int) == 0) = true := by simp [h0]
    clear h0 e1 e2
    go_enter Try.func30, Try.ntmps30
    go_wp2_with fail
    go_ret
    exact ⟨_, rfl, World.ownsRow_nil _ _ _ _, H.out.set false, (Fr.refl _ _ _).setCell (by simp) _⟩
  · have e1 : gt bin cr c = [D1 c] := if_neg hs
    have e2 : gs bin (cr, []) c = (decide (c.toNat = 13), [c]) := if_neg hs
    rw [e1, e2]
    have hk : ((c.toNat : Int) == 13) = decide (c.toNat = 13) := by rw [Bool.eq_iff_iff]; simp; omega
    have hs2 : cr = false ∨ (cr = true ∧ ((c.toNat : Int) == 0) = false) ∨ (cr = true ∧ ((c.toNat : Int) == 0) = true ∧ bin = true) := by
      cases cr
      · exact .inl rfl
      · cases bin
        · right; left; simp at hs ⊢; omega
        · by_cases h0 : c.toNat = 0
          · right; right; simp [h0]
          · right; left; simp; omega
    clear hs e1 e2
    rcases hs2 with rfl | ⟨rfl, hz⟩ | ⟨rfl, hz, rfl⟩
    all_goals
      go_enter Try.func30, Try.ntmps30
      go_wp2_with (go_at_call 36; refine (data_any c _).mono ?_; rintro e w1 ⟨g, rfl, hv, hb⟩; have HV := Lib.hid hv; have HB := Lib.hid hb; clear hv hb)
      go_ret
      refine ⟨_, rfl, by simpa using HV.out, ?_, ?_⟩
      · exact blk_below ((H.out.set false).set _) HB.out (by simp; omega)
      · refine Fr.trans ?_ (Fr.of_below (HB.out.mono (by simp)))
        repeat' (first | with_reducible assumption | with_reducible exact Fr.refl _ _ _ | with_reducible apply Fr.alloc | (with_reducible apply Fr.setCell <;> first | (left; simp; done) | (right; simp; done) | (right; simp; omega) | skip) | with_reducible apply Fr.drew | (refine Fr.trans ?_ (Fr.of_below (Below.mono (by with_reducible assumption) ?_))) | omega | (simp; omega) | (simp; done))
end Go.Proofs.Ytemdhbjcdibpfaa.N20
