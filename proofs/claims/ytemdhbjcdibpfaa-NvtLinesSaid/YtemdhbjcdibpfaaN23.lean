/- NvtLines -/
import Derived.Test.YtemdhbjcdibpfaaN22
namespace Go.Proofs.Ytemdhbjcdibpfaa.N23
set_option linter.unusedVariables false
set_option linter.unusedSimpArgs false
set_option linter.unnecessarySimpa false
open Go.RowKit K1 K3 K5 K11 K12 K14 N0 N1 N2 N3 N4 N5 N6 N7 N8 N9 N10 N11 N13 N14 N20 N21 N22
attribute [local go_sem] cell_pastA froz_pastA
set_option maxHeartbeats 8000000 in
set_option maxRecDepth 100000 in
theorem lines_any (ao : Option Addr) (sb off n cap : Nat) (L : Nat → ByteArray) (bin : Bool) (w : World) (hao : ao = some ⟨sb, off, none⟩ ∨ n = 0) (hnn : n ≤ 9223372036854775807) (hL : ∀ k, k < n → (L k).size ≤ 281474976710656)
    (hc : ∀ k, k < n → w.cell? ⟨sb, off + k, none⟩ = some (.string (L k))) (hsb : 0 < n → sb < w.heap.size) :
    Calls Try.prog 3 #[.slice ao n cap, .bool bin] w fun e w' => e = .returned (.bool true) ∧ Below w.heap.size w w' := by
  have HC := Lib.hid hc
  have HSB := Lib.hid hsb
  have HAO := Lib.hid hao
  have HL := Lib.hid hL
  clear hc hao hL hsb
  by_cases hbad : n > 20
  · go_enter Try.func3, Try.ntmps3
    go_wp2_with (go_at_call 7; refine (alive_any _).mono ?_; rintro e w1 ⟨rfl, hb1⟩)
    all_goals
      go_ret
      exact ⟨rfl, by repeat' (first | with_reducible assumption | with_reducible exact Below.refl _ _ | with_reducible apply Below.alloc | with_reducible apply Below.setCell | with_reducible apply Below.drew | (refine Below.trans ?_ (Below.mono (by with_reducible assumption) ?_)) | omega | (simp; omega) | (simp; done))⟩
  · have hs1 : n ≤ 20 := by omega
    clear hbad
    obtain ⟨P, hP⟩ : ∃ P : Nat → List UInt8, P = fun k => (L k).data.toList := ⟨_, rfl⟩
    have HP := Lib.hid hP
    clear hP
    go_enter Try.func3, Try.ntmps3
    go_wp2_with (go_at_call 7; refine (alive_any _).mono ?_; rintro e w1 ⟨rfl, hb1⟩)
    go_loopw [5, 6, 7] (fun sv wv i wr => ∃ k : Nat, k ≤ n ∧ i = .int .i64 k ∧ sv = .string ⟨(sent P k).toArray⟩ ∧ wv = .string ⟨(want bin P k).toArray⟩ ∧ (∀ j, j < k → ∀ c ∈ P j, Pr c) ∧ (sent P k).length ≤ 52 * k ∧ (want bin P k).length ≤ 52 * k ∧ Below w.heap.size w wr) (fun _ _ i _ => n - (intOf i).toNat)
    case atStart => exact ⟨0, by omega, rfl, rfl, rfl, by omega, by simp [sent], by simp [want], by repeat' (first | with_reducible assumption | with_reducible exact Below.refl _ _ | with_reducible apply Below.alloc | with_reducible apply Below.setCell | with_reducible apply Below.drew | (refine Below.trans ?_ (Below.mono (by with_reducible assumption) ?_)) | omega | (simp; omega) | (simp; done))⟩
    case round =>
      obtain ⟨k, hk, rfl, rfl, rfl, hpr, hl1, hl2, hb⟩ := hrel
      have HPR := Lib.hid hpr
      have HB := Lib.hid hb
      have hwr := hb.size
      clear hpr hb
      by_cases hlt : k < n
      · have hsbN := HSB.out (by omega)
        have hck := (HB.out.cell (p := ⟨sb, off + k, none⟩) hsbN).trans (HC.out k hlt)
        obtain rfl : ao = some ⟨sb, off, none⟩ := by rcases HAO.out with h | h; exact h; omega
        obtain ⟨s, hs⟩ : ∃ s, s = L k := ⟨_, rfl⟩
        have hsz := HL.out k hlt
        rw [← hs] at hck hsz
        have hPk : P k = s.data.toList := by rw [HP.out, hs]
        have HPK := Lib.hid hPk
        clear hs hPk
        go_wp2_with fail
        go_loop [8] (fun i => ∃ m : Nat, m ≤ s.size ∧ i = .int .i64 m ∧ ∀ x ∈ s.data.toList.take m, Pr x) (fun i => s.size - (intOf i).toNat)
        case atStart => exact ⟨0, by omega, rfl, by simp⟩
        case round =>
          obtain ⟨m, hm, rfl, hall⟩ := hrel
          have HALL := Lib.hid hall
          clear hall
          by_cases hml : m < s.size
          · by_cases hpc : Pr s[m]
            · have HPC := Lib.hid hpc
              have hq : decide (((s[m]).toNat : Int) < 32) = false := by have := hpc.1; simp; omega
              have hq2 : decide (((s[m]).toNat : Int) > 126) = false := by have := hpc.2; simp; omega
              clear hpc
              go_wp2_with fail
              all_goals
                go_round
                case rel => exact ⟨m + 1, by omega, by go_num, by rw [take_snoc s m hml]; intro x hx; rw [List.mem_append, List.mem_singleton] at hx; rcases hx with hx | rfl; exact HALL.out x hx; exact HPC.out⟩
                case measure => simp [intOf]; omega
            · have hq : decide (((s[m]).toNat : Int) < 32) = true ∨ (decide (((s[m]).toNat : Int) < 32) = false ∧ decide (((s[m]).toNat : Int) > 126) = true) := by
                unfold Pr at hpc
                simp; omega
              clear hpc
              rcases hq with hq | ⟨hq, hq2⟩
              all_goals
                go_wp2_with fail
                go_ret
                exact ⟨rfl, HB.out⟩
          · obtain rfl : m = s.size := by omega
            have hall : ∀ x ∈ P k, Pr x := by rw [HPK.out]; have := HALL.out; rwa [List.take_of_length_le (by simp)] at this
            have HALL := Lib.hid hall
            clear hall
            by_cases hlong : s.size > 50
            · go_wp2_with fail
              go_ret
              exact ⟨rfl, HB.out⟩
            · have hpl : (P k).length ≤ 50 := by rw [HPK.out]; simp; omega
              have hal : ∀ j, j < k + 1 → ∀ c ∈ P j, Pr c := fun j hj => by
                by_cases h : j = k
                · subst h; exact HALL.out
                · exact HPR.out j (by omega)
              have HAL := Lib.hid hal
              clear hal
              have hm3 : k % 3 = 0 ∨ k % 3 = 1 ∨ k % 3 = 2 := by omega
              rcases hm3 with h3 | h3 | h3
              · have hr : ((k : Int)).tmod 3 = 0 := by rw [show ((k : Int)).tmod 3 = ((k % 3 : Nat) : Int) from (Int.ofNat_tmod k 3).symm, h3]; rfl
                have hA : ((⟨#[13, 10]⟩ : ByteArray) == ⟨#[13, 0]⟩) = false := by decide
                have hE : ((⟨#[13, 10]⟩ : ByteArray) = ⟨#[13, 0]⟩) = False := by simp
                have hen : ends k = [13, 10] := by simp [ends, h3]
                have hsl : s.size = (P k).length := by rw [HPK.out]; simp
                cases bin
                all_goals
                  go_wp2_with fail
                  go_roundw
                  case rel =>
                    refine ⟨k + 1, by omega, by go_num, ?_, ?_, HAL.out, ?_, ?_, ?_⟩
                    · congr 1; apply ByteArray.ext; simp [sent, hen, HPK.out]
                    · congr 1; apply ByteArray.ext; simp [want, wends, hen, HPK.out, h3]
                    · simp [sent, hen]; omega
                    · simp [want, wends, hen, h3]; omega
                    · have := HB.out; repeat' (first | with_reducible assumption | with_reducible exact Below.refl _ _ | with_reducible apply Below.alloc | with_reducible apply Below.setCell | with_reducible apply Below.drew | (refine Below.trans ?_ (Below.mono (by with_reducible assumption) ?_)) | omega | (simp; omega) | (simp; done))
                  case measure => simp [intOf]; omega
              · have hr : ((k : Int)).tmod 3 = 1 := by rw [show ((k : Int)).tmod 3 = ((k % 3 : Nat) : Int) from (Int.ofNat_tmod k 3).symm, h3]; rfl
                have hA : ((⟨#[13, 0]⟩ : ByteArray) == ⟨#[13, 0]⟩) = true := by decide
                have hE : ((⟨#[13, 0]⟩ : ByteArray) = ⟨#[13, 0]⟩) = True := by simp
                have hen : ends k = [13, 0] := by simp [ends, h3]
                have hsl : s.size = (P k).length := by rw [HPK.out]; simp
                cases bin
                all_goals
                  go_wp2_with fail
                  go_roundw
                  case rel =>
                    refine ⟨k + 1, by omega, by go_num, ?_, ?_, HAL.out, ?_, ?_, ?_⟩
                    · congr 1; apply ByteArray.ext; simp [sent, hen, HPK.out]
                    · congr 1; apply ByteArray.ext; simp [want, wends, hen, HPK.out, h3]
                    · simp [sent, hen]; omega
                    · simp [want, wends, hen, h3]; omega
                    · have := HB.out; repeat' (first | with_reducible assumption | with_reducible exact Below.refl _ _ | with_reducible apply Below.alloc | with_reducible apply Below.setCell | with_reducible apply Below.drew | (refine Below.trans ?_ (Below.mono (by with_reducible assumption) ?_)) | omega | (simp; omega) | (simp; done))
                  case measure => simp [intOf]; omega
              · have hr : ((k : Int)).tmod 3 = 2 := by rw [show ((k : Int)).tmod 3 = ((k % 3 : Nat) : Int) from (Int.ofNat_tmod k 3).symm, h3]; rfl
                have hA : ((⟨#[13]⟩ : ByteArray) == ⟨#[13, 0]⟩) = false := by decide
                have hE : ((⟨#[13]⟩ : ByteArray) = ⟨#[13, 0]⟩) = False := by simp
                have hen : ends k = [13] := by simp [ends, h3]
                have hsl : s.size = (P k).length := by rw [HPK.out]; simp
                cases bin
                all_goals
                  go_wp2_with fail
                  go_roundw
                  case rel =>
                    refine ⟨k + 1, by omega, by go_num, ?_, ?_, HAL.out, ?_, ?_, ?_⟩
                    · congr 1; apply ByteArray.ext; simp [sent, hen, HPK.out]
                    · congr 1; apply ByteArray.ext; simp [want, wends, hen, HPK.out, h3]
                    · simp [sent, hen]; omega
                    · simp [want, wends, hen, h3]; omega
                    · have := HB.out; repeat' (first | with_reducible assumption | with_reducible exact Below.refl _ _ | with_reducible apply Below.alloc | with_reducible apply Below.setCell | with_reducible apply Below.drew | (refine Below.trans ?_ (Below.mono (by with_reducible assumption) ?_)) | omega | (simp; omega) | (simp; done))
                  case measure => simp [intOf]; omega
      · have hkn : n = k := by omega
        subst hkn
        have hlow := sent_low P n HPR.out
        obtain ⟨crz, hfi⟩ := filt_sent bin P n HPR.out
        have hnz : (sent P n = [] ∧ want bin P n = []) ∨ (sent P n ≠ [] ∧ want bin P n ≠ []) := by
          cases n with
          | zero => exact .inl ⟨rfl, rfl⟩
          | succ m =>
            right
            have h1 := ends_len m
            have h2 := wends_len bin m
            refine ⟨fun h => ?_, fun h => ?_⟩
            · have := congrArg List.length h; simp [sent] at this; rw [this.2.2] at h1; simp at h1
            · have := congrArg List.length h; simp [want] at this; rw [this.2.2] at h2; simp at h2
        have hpg : (filt bin (false, []) (⟨(sent P n).toArray⟩ : ByteArray).data.toList).2 = (want bin P n) := by simp [hfi]
        have hTs : (⟨(sent P n).toArray⟩ : ByteArray).size = (sent P n).length := by simp [ByteArray.size]
        have HPG : ∀ x : World, Calls Try.prog 10 #[.bool bin, .string ⟨(sent P n).toArray⟩] x fun e w' => e = .returned (.string ⟨(want bin P n).toArray⟩) ∧ Below x.heap.size x w' := fun x => by
          have := plain_ground bin ⟨(sent P n).toArray⟩ x (by rw [hTs]; omega) (fun k h => hlow _ (by
            have hk : k < (sent P n).length := by rw [hTs] at h; exact h
            have : (⟨(sent P n).toArray⟩ : ByteArray)[k] = (sent P n)[k] := by simp [ByteArray.getElem_eq_getElem_data]
            rw [this]; exact List.getElem_mem _))
          rwa [hpg] at this
        have HPG := Lib.hid HPG
        have HLO := Lib.hid (And.intro hlow hfi)
        clear hlow hfi hpg
        go_wp2_with fail
        refine (feed_any wr.heap.size [wr.heap.size] false (new bin) _ (wr.heap.size + 1) 0 1 1 (fun _ => ⟨(sent P n).toArray⟩) ?_ ?_ ?_ ?_ ?_ ?_ ?_).mono ?_
        · exact rdr_new ((blk_alloc (blk_new rfl)).trans (by kernel_rfl))
        · intro j hj
          obtain rfl : j = 0 := by omega
          exact (cell_new (by simp)).trans rfl
        · simp
        · simp
        · simp only [tot, wgt, new, hTs]; simp; omega
        · simp [new]
        · decide
        rintro e w3 ⟨v3, S3, rfl, hv3, hO3, hM3, hd3⟩
        have e1 : fedN (new bin) (fun _ => ⟨(sent P n).toArray⟩) 1 = fedS (new bin) (sent P n) := by simp [fedN]
        have e2 := ground_fed (sent P n) (new bin) rfl HLO.out.1
        have e3 : filt (new bin).bin ((new bin).after, (new bin).data) (sent P n) = (crz, (want bin P n)) := HLO.out.2
        rw [e3] at e2
        rw [e1, e2] at hv3 hO3
        have e4 : (flushF { new bin with after := crz, data := (want bin P n) }).out = outG (want bin P n) := by unfold flushF outG; split <;> simp_all [new]
        have e5 : (flushF { new bin with after := crz, data := (want bin P n) }).st = 0 := by unfold flushF; split <;> rfl
        rw [e4] at hv3
        obtain ⟨q3, hq3⟩ : ∃ q3, q3 = { flushF { new bin with after := crz, data := (want bin P n) } with out := [] } := ⟨_, rfl⟩
        have hst : decide (q3.st = 0) = true := by rw [hq3]; simpa using e5
        rw [← hq3] at hO3
        have hB3 : Below w.heap.size w w3 := by
          have hx := HB.out
          exact ((hx.alloc (by omega) _).alloc (by simp; omega) _).trans (hM3.below (by simp; omega) (by simp; omega))
        have HO3 := Lib.hid hO3
        have HB3 := Lib.hid hB3
        have hw3 := hB3.size
        clear hO3 hB3 hM3 hd3 e1 e2 e3 e4 e5 hq3
        have hv3 := hv3
        rcases hnz with ⟨h1, h2⟩ | ⟨h1, h2⟩
        · have e : outG [] = [] := rfl
          rw [h2, e] at hv3
          clear h2 e
          obtain ⟨va, vc, rfl, -⟩ := own_slice hv3
          clear hv3
          go_wp2_with fail
          go_ret
          exact ⟨rfl, HB3.out⟩
        · have e : outG (want bin P n) = [⟨0, 0, 0, (want bin P n)⟩] := if_neg h2
          rw [e] at hv3
          obtain ⟨g3, c3, rfl, -, hg3⟩ := hv3.form (by simp)
          have a0 := own_at hv3 (j := 0) (u := .int .i64 0) rfl
          have a1 := own_at hv3 (j := 1) (u := .int .i64 0) rfl
          have a2 := own_at hv3 (j := 2) (u := .int .i64 0) rfl
          have a3 := own_at hv3 (j := 3) (u := .string ⟨(want bin P n).toArray⟩) rfl
          clear hv3
          clear h2 e
          have h1' : (sent P n).isEmpty = false := by rw [List.isEmpty_eq_false_iff]; exact h1
          clear h1
          go_wp2_with (first | (go_at_call 9; refine (whole_any _ _ _ _ _ HO3.out).mono ?_; rintro e wz ⟨rfl, rfl⟩) | (go_at_call 10; refine (HPG.out _).mono ?_; rintro e w4 ⟨rfl, hb4⟩))
          go_ret
          exact ⟨by simp, HB3.out.trans (hb4.mono (by omega))⟩
end Go.Proofs.Ytemdhbjcdibpfaa.N23
