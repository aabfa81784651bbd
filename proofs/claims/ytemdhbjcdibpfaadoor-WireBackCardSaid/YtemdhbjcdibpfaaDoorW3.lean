/- the document's Reader: Feed -/
import Derived.Test.YtemdhbjcdibpfaaDoorW2
namespace Go.Proofs.YtemdhbjcdibpfaaDoor.W3
set_option linter.unusedVariables false
set_option linter.unusedSimpArgs false
set_option linter.unnecessarySimpa false
set_option maxRecDepth 100000
open Go.RowKit K1 K3 K5 K11 K12 K14 K20 K21 K22 W0 W1 W2 N0 N1 N2

attribute [local go_sem] cell_pastA froz_pastA
theorem own_at {w : World} {g n c : Nat} {e : TypeId} {s : Nat} {xs : List Value} (h : w.ownsRow 0 e s (.slice (some ⟨g, 0, none⟩) n c) n xs) {j : Nat} {u : Value} (hu : xs[j]? = some u) : w.cell? ⟨g, j, none⟩ = some u := by
  have := h.cells rfl j u hu
  have hadd : (⟨g, 0, none⟩ : Addr).add j = ⟨g, j, none⟩ := by unfold Addr.add; split <;> simp_all
  rwa [hadd] at this
theorem dcmd_ok (d : Dr) (c : UInt8) : (dcmd d c).1.body = d.body ∧ (dcmd d c).2.length ≤ 1 ∧ ∀ t ∈ (dcmd d c).2, t.text.length ≤ 40 := by
  unfold dcmd
  split
  · exact ⟨rfl, by simp, by simp [D1]⟩
  · split
    · exact ⟨rfl, by simp, by simp⟩
    · exact ⟨rfl, by simp, by simp⟩
theorem dsub_ok (d : Dr) (c : UInt8) (h : d.body.length ≤ 40) : (dsub d c).1.body.length ≤ 40 ∧ (dsub d c).2.length ≤ 1 ∧ ∀ t ∈ (dsub d c).2, t.text.length ≤ 40 := by
  unfold dsub
  split
  · exact ⟨h, by simp, by simp⟩
  · split
    · split
      · obtain ⟨h1, h2, h3⟩ := dcmd_ok { d with inn := false, body := [], iac := false, long := false } c
        exact ⟨by rw [h1]; simp, h2, h3⟩
      · split
        · exact ⟨by simp, by simp, by simp⟩
        · exact ⟨by simp, by simp, by simpa using h⟩
    · split
      · exact ⟨h, by simp, by simp⟩
      · exact ⟨by simp; omega, by simp, by simp⟩
theorem dfeed_ok (d : Dr) (c : UInt8) (h : d.body.length ≤ 40) : (dfeed d c).1.body.length ≤ 40 ∧ (dfeed d c).2.length ≤ 1 ∧ ∀ t ∈ (dfeed d c).2, t.text.length ≤ 40 := by
  unfold dfeed
  split
  · exact dsub_ok d c h
  · split
    · split
      · exact ⟨h, by simp, by simp⟩
      · split
        · exact ⟨h, by simp, by simp⟩
        · exact ⟨h, by simp, by simp [D1]⟩
    · split
      · split
        · exact ⟨by simp, by simp, by simp⟩
        · exact ⟨h, by simp, by simp⟩
      · obtain ⟨h1, h2, h3⟩ := dcmd_ok d c
        exact ⟨by rw [h1]; exact h, h2, h3⟩
set_option maxHeartbeats 8000000 in
theorem feed_sep (b : Nat) (cv bv : Value) (d : Dr) (c : UInt8) (F : List Res) (w : World) (h : Sep w (drL b cv bv d ++ F)) (hb40 : d.body.length ≤ 40) : Calls Tryd.prog 36 #[.pointer (some ⟨b, 0, none⟩), .int .u8 c.toNat] w (DrP F b ((dfeed d c).1) ((dfeed d c).2)) := by
  have HS := Lib.hid h
  obtain ⟨ca, cc, rfl, -⟩ := own_slice (h.rowAt 1 rfl)
  clear h
  obtain ⟨ec, ef, el⟩ := HS.out.cellsAt 0 rfl
  have hcl := c.toNat_lt
  cases hin : d.inn
  case true =>
    have e : dfeed d c = dsub d c := by unfold dfeed; rw [if_pos hin]
    rw [e]
    clear e
    go_enter Tryd.func36, Tryd.ntmps36
    go_wp2_with (go_at_call 46; refine (sub_sep b _ bv d c F _ HS.out hb40).mono ?_; rintro e w1 hs1; obtain ⟨⟨v1, cv1, bv1, rfl, hs1⟩⟩ := hs1; have HS1 := Lib.hid hs1; clear hs1)
    go_ret
    exact ⟨⟨_, _, _, rfl, HS1.out⟩⟩
  case false =>
    by_cases hl : d.cmd.length = 0
    · have hd0 : ((d.cmd.length : Int) == 0) = true := by simp [hl]
      by_cases h1 : c.toNat = 255
      · have e : dfeed d c = ({ d with cr := false, cmd := [c] }, []) := by unfold dfeed; rw [if_neg (by simp [hin]), if_pos hl, if_pos h1]
        rw [e]
        have hd : ((c.toNat : Int) == 255) = true := by simp [h1]
        clear h1 e hl
        go_enter Tryd.func36, Tryd.ntmps36
        go_wp2_with fail
        go_ret
        have h1 := fun v => Sep.alloc (b := w.heap.size) (cs := #[.int .u8 c.toNat]) (xs := [c].map u8) (t := 5) ((HS.out.setAt 0 (i := 1) (v := .bool false) rfl rfl).setAt 0 (i := 2) (v := v) rfl rfl) (by simp) rfl
        exact ⟨⟨_, _, _, rfl, ((Sep.asRow (n := 1) (c := 1) (s := 1) (h1 _) (by simp) (by simp) (by decide) rfl).over 1 (by simp [drL, ins, del])).nilRow⟩⟩
      · have hd : ((c.toNat : Int) == 255) = false := by simp; omega
        by_cases h2 : d.cr = true ∧ c.toNat = 0 ∧ d.bin = false
        · have e : dfeed d c = ({ d with cr := false }, []) := by unfold dfeed; rw [if_neg (by simp [hin]), if_pos hl, if_neg h1, if_pos h2]
          rw [e]
          obtain ⟨h3, h4, h5⟩ := h2
          have hd2 : ((c.toNat : Int) == 0) = true := by simp [h4]
          clear h1 e hl h4
          go_enter Tryd.func36, Tryd.ntmps36
          go_wp2_with fail
          go_ret
          exact ⟨⟨_, _, _, rfl, Sep.nilRow (HS.out.setAt 0 rfl rfl)⟩⟩
        · have e : dfeed d c = ({ d with cr := decide (c.toNat = 13) }, [D1 c]) := by unfold dfeed; rw [if_neg (by simp [hin]), if_pos hl, if_neg h1, if_neg h2]
          rw [e]
          have hk : ((c.toNat : Int) == 13) = decide (c.toNat = 13) := by rw [Bool.eq_iff_iff]; simp; omega
          have h5 : d.cr = false ∨ (d.cr = true ∧ ((c.toNat : Int) == 0) = false) ∨ (d.cr = true ∧ ((c.toNat : Int) == 0) = true ∧ d.bin = true) := by
            cases hc : d.cr
            · exact .inl rfl
            · by_cases h0 : c.toNat = 0
              · right; right; cases hb : d.bin
                · exact absurd ⟨hc, h0, hb⟩ h2
                · exact ⟨rfl, by simp [h0], rfl⟩
              · right; left; refine ⟨rfl, ?_⟩; simp; omega
          clear h1 h2 e hl
          rcases h5 with h5 | ⟨h5, h6⟩ | ⟨h5, h6, h7⟩
          all_goals
            go_enter Tryd.func36, Tryd.ntmps36
            go_wp2_with (go_at_call 47; refine (data_sep c _ _ ((HS.out.setAt 0 rfl rfl).setAt 0 rfl rfl)).mono ?_; rintro e w1 hs1; obtain ⟨⟨v1, rfl, hs1⟩⟩ := hs1; have HS1 := Lib.hid hs1; clear hs1)
            go_ret
            exact ⟨⟨_, _, _, rfl, HS1.out⟩⟩
    · have hd0 : ((d.cmd.length : Int) == 0) = false := by rw [beq_eq_false_iff_ne]; omega
      by_cases h2 : d.cmd.length = 2
      · have hd2 : ((d.cmd.length : Int) == 2) = true := by simp [h2]
        obtain ⟨g, cp, hf, -, hg⟩ := (HS.out.rowAt 1 rfl).form (by omega)
        simp only [Value.slice.injEq, true_and] at hf
        obtain ⟨rfl, rfl⟩ := hf
        obtain ⟨k, hk⟩ : ∃ k, k = d.cmd.getD 1 0 := ⟨_, rfl⟩
        have hkc : w.cell? ⟨g, 1, none⟩ = some (.int .u8 k.toNat) := own_at (HS.out.rowAt 1 rfl) (by rw [List.getElem?_map, hk, List.getD_eq_getElem?_getD, List.getElem?_eq_getElem (by omega)]; rfl)
        have hkl := k.toNat_lt
        have hwk : wrap64 (k.toNat : Int) = (k.toNat : Int) := by unfold wrap64; omega
        have hwc : wrap64 (c.toNat : Int) = (c.toNat : Int) := by unfold wrap64; omega
        have hne : b ≠ g := fun e => (HS.out.head _ (List.mem_cons_self ..) b rfl) (by rw [e]; rfl)
        by_cases h3 : k.toNat = 250
        · have e : dfeed d c = ({ d with cmd := [], inn := true, opt := c.toNat, body := [], long := false, iac := false }, []) := by unfold dfeed; rw [if_neg (by simp [hin]), if_neg hl, if_pos h2, ← hk, if_pos h3]
          rw [e]
          have hd : ((k.toNat : Int) == 250) = true := by simp [h3]
          rw [h2] at *
          clear e hl h2 h3 hk hd0
          go_enter Tryd.func36, Tryd.ntmps36
          go_wp2_with fail
          go_ret
          exact ⟨⟨_, _, _, rfl, ((((((((HS.out.setAt 0 rfl rfl).setAt 0 rfl rfl).setAt 0 rfl rfl).setAt 0 rfl rfl).setAt 0 rfl rfl).setAt 0 rfl rfl).toNil 1 5 1 (by simp [drL, ins, del])).toNil 2 5 1 (by simp [drL, ins, del, setN])).nilRow⟩⟩
        · have e : dfeed d c = ({ d with cmd := [] }, [⟨2, k.toNat, c.toNat, []⟩]) := by unfold dfeed; rw [if_neg (by simp [hin]), if_neg hl, if_pos h2, ← hk, if_neg h3]
          rw [e]
          have hd : ((k.toNat : Int) == 250) = false := by simp; omega
          rw [h2] at *
          clear e hl h2 h3 hk hd0
          go_enter Tryd.func36, Tryd.ntmps36
          go_wp2_with fail
          go_ret
          exact ⟨⟨_, _, _, rfl, Sep.tok ⟨2, k.toNat, c.toNat, []⟩ ((HS.out.setAt 0 rfl rfl).toNil 1 5 1 (by simp [drL, ins, del])) (by simp) (by simp [tokCells])⟩⟩
      · have hd2 : ((d.cmd.length : Int) == 2) = false := by rw [beq_eq_false_iff_ne]; omega
        have e : dfeed d c = dcmd d c := by unfold dfeed; rw [if_neg (by simp [hin]), if_neg hl, if_neg h2]
        rw [e]
        clear e hl h2
        go_enter Tryd.func36, Tryd.ntmps36
        go_wp2_with (go_at_call 48; refine (cmd_sep b _ bv d c F _ HS.out).mono ?_; rintro e w1 hs1; obtain ⟨⟨v1, cv1, bv1, rfl, hs1⟩⟩ := hs1; have HS1 := Lib.hid hs1; clear hs1)
        go_ret
        exact ⟨⟨_, _, _, rfl, HS1.out⟩⟩
end Go.Proofs.YtemdhbjcdibpfaaDoor.W3
