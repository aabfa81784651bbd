/- small functions of pact -/
import Derived.Test.YtjlamnioknbcaaaDoorP1
import Derived.Test.YtjlamnioknbcaaaDoorV3
import Derived.Lib.Hide
namespace Go.Proofs.YtjlamnioknbcaaaDoor.P2
set_option linter.unusedVariables false
set_option linter.unusedSimpArgs false
set_option linter.unnecessarySimpa false
set_option maxRecDepth 100000
open Go.RowKit K1 K3 K5 K11 K12 K14 K20 K21 K22 K25 W0 V1 V2 V3 Y1 Y2 Y3 Y4 P1

attribute [local go_sem] cell_pastA froz_pastA
set_option maxHeartbeats 4000000 in
theorem add_in (b off : Nat) (x y : Int) (w : World) (hc : w.cell? ⟨b, off, none⟩ = some (.int .i64 x)) (hz : w.frozen? ⟨b, off, none⟩ = false) (h0 : -4611686018427387904 ≤ x + y) (h1 : x + y ≤ 4611686018427387904) :
    Calls Tryd.prog 50 #[.pointer (some ⟨b, off, none⟩), .int .i64 y] w fun e w' => e = .returned (.int .i64 (x + y)) ∧ w' = w.setCell ⟨b, off, none⟩ (.int .i64 (x + y)) := by
  have hw : IntKind.i64.wrap (x + y) = x + y := by rw [IntKind.wrap_i64]; omega
  have hadd := run_call_add (P := Tryd.prog) Tryd.func59 (by kernel_rfl) (by kernel_rfl) (by kernel_rfl) .i64 (by kernel_rfl) (y := y) (s := x + y) hc hz (by simp [go_sem, hw]; done)
  go_enter Tryd.func50, Tryd.ntmps50
  go_wp2
  go_ret
  exact ⟨rfl, rfl⟩
set_option maxHeartbeats 4000000 in
theorem add1_any (b off g : Nat) (x : Int) (w : World) (hc : w.cell? ⟨b, off, none⟩ = some (.int .i64 x)) (hz : w.frozen? ⟨b, off, none⟩ = false) (hg : w.cell? ⟨g, 0, none⟩ = some (.int .i64 1)) (h0 : 0 ≤ x) (h1 : x ≤ 1000000000) :
    Calls Tryd.prog 37 #[.pointer (some ⟨b, off, none⟩), .slice (some ⟨g, 0, none⟩) 1 1] w fun e w' => e = .returned (.int .i64 (x + 1)) ∧ w' = w.setCell ⟨b, off, none⟩ (.int .i64 (x + 1)) := by
  go_enter Tryd.func37, Tryd.ntmps37
  go_wp2_with fail
  go_loop [5, 12] (fun s i => (i = .int .i64 0 ∧ s = .int .i64 0) ∨ (i = .int .i64 1 ∧ s = .int .i64 1)) (fun _ i => 1 - (intOf i).toNat)
  case atStart => exact .inl ⟨rfl, rfl⟩
  case round =>
    rcases hrel with ⟨rfl, rfl⟩ | ⟨rfl, rfl⟩
    · go_wp2_with fail
      go_round
      case rel => exact .inr ⟨rfl, rfl⟩
      case measure => simp [intOf]
    · go_wp2_with (go_at_call 50; refine (add_in b off x 1 _ hc hz (by omega) (by omega)).mono ?_; rintro e w2 ⟨rfl, rfl⟩)
      go_ret
      exact ⟨rfl, rfl⟩
def clampI (x : Int) : Int := min (max x 0) 65535
theorem clamp_le (x : Int) : 0 ≤ clampI x ∧ clampI x ≤ 65535 := by unfold clampI; omega
set_option maxHeartbeats 4000000 in
theorem ends_any (x y : Int) (w : World) : Calls Tryd.prog 17 #[.int .i64 x, .int .i64 y] w fun e w' => e = .returned (.agg #[.int .i64 (clampI x), .int .i64 (clampI y)]) ∧ Below w.heap.size w w' := by
  go_enter Tryd.func17, Tryd.ntmps17
  go_wp2_with fail
  all_goals
    refine bodyPost_ret (v := .agg #[.int .i64 (clampI x), .int .i64 (clampI y)]) (by simp [results, Tryd.results17, go_sem]; first | done | (unfold clampI; omega) | (simp [clampI]; omega)) rfl ⟨rfl, ?_⟩
    repeat' (first | exact Below.refl _ _ | exact Nat.le_refl _ | apply Below.alloc | apply Below.setCell | omega | (simp; omega) | (simp; done))
def hisB (o : Int) : Bool := o == 0 || o == 1 || o == 3
def oursB (o : Int) : Bool := o == 0 || o == 3 || o == 24 || o == 31
theorem his_any (o : Int) (w : World) : Calls Tryd.prog 29 #[.int .i64 o] w fun e w' => e = .returned (.bool (hisB o)) ∧ w' = w := by
  go_enter Tryd.func29, Tryd.ntmps29
  go_wp2_with fail
  all_goals
    go_ret
    exact ⟨by first | rfl | (unfold hisB; simp_all; done), rfl⟩
theorem ours_any (o : Int) (w : World) : Calls Tryd.prog 30 #[.int .i64 o] w fun e w' => e = .returned (.bool (oursB o)) ∧ w' = w := by
  go_enter Tryd.func30, Tryd.ntmps30
  go_wp2_with fail
  all_goals
    go_ret
    exact ⟨by first | rfl | (unfold oursB; simp_all; done), rfl⟩
def twoB (n : Int) : List UInt8 := [UInt8.ofNat (n / 256).toNat, UInt8.ofNat (n % 256).toNat]
theorem two_conv (x y : Nat) (w : World) (hx : x ≤ 255) (hy : y ≤ 255) : (convert 72 9 (.slice (some ⟨w.heap.size, 0, none⟩) 2 2)).run Tryd.prog (w.alloc (.cells #[.int .u8 x, .int .u8 y] 5)) = .ok (.string ⟨[UInt8.ofNat x, UInt8.ofNat y].toArray⟩) (w.alloc (.cells #[.int .u8 x, .int .u8 y] 5)) :=
  conv_new [UInt8.ofNat x, UInt8.ofNat y] (blk_new rfl) (by simp [K14.u8, ofNat_toNat x hx, ofNat_toNat y hy]) (by simp [maxLen])
set_option maxHeartbeats 4000000 in
theorem two_any (n : Int) (w : World) (h0 : 0 ≤ n) (h1 : n ≤ 65535) : Calls Tryd.prog 39 #[.int .i64 n] w fun e w' => e = .returned (.string ⟨(twoB n).toArray⟩) ∧ Below w.heap.size w w' := by
  obtain ⟨x, hx⟩ : ∃ x : Nat, (x : Int) = n / 256 := ⟨(n / 256).toNat, by omega⟩
  obtain ⟨y, hy⟩ : ∃ y : Nat, (y : Int) = n % 256 := ⟨(n % 256).toNat, by omega⟩
  have hxe : (n / 256).toNat = x := by omega
  have hye : (n % 256).toNat = y := by omega
  have hx1 : x ≤ 255 := by omega
  have hy1 : y ≤ 255 := by omega
  have s1 : n >>> 8 = (x : Int) := by rw [hx, Int.shiftRight_eq_div_pow]; rfl
  have w1 : IntKind.u8.wrap (x : Int) = x := wrapu8 _ (by omega) (by omega)
  have w2 : IntKind.u8.wrap n = y := by
    unfold IntKind.wrap
    have h : IntKind.u8.signed = false := rfl
    simp [h, IntKind.bits]
    omega
  have HC := two_conv x y w hx1 hy1
  rw [hx, hy] at HC
  unfold twoB
  rw [hxe, hye]
  go_enter Tryd.func39, Tryd.ntmps39
  go_wp2_with fail
  go_ret
  exact ⟨rfl, (Below.refl _ _).alloc (Nat.le_refl _) _⟩
end Go.Proofs.YtjlamnioknbcaaaDoor.P2
