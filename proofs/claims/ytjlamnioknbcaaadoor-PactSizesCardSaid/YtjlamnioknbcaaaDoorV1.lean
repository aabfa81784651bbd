/- double, Join -/
import Derived.Test.YtjlamnioknbcaaaDoorK22
import Derived.Test.YtjlamnioknbcaaaDoorK23
import Derived.Test.YtjlamnioknbcaaaDoorK25
import Derived.Test.YtjlamnioknbcaaaDoorSh
import Derived.Test.YtjlamnioknbcaaaDoorW0
import Derived.Test.YtjlamnioknbcaaaDoorProg
import Derived.Lib.Hide
import Derived.Handy
namespace Go.Proofs.YtjlamnioknbcaaaDoor.V1
set_option linter.unusedVariables false
set_option linter.unusedSimpArgs false
set_option linter.unnecessarySimpa false
set_option maxRecDepth 100000
open Go.RowKit K1 K3 K5 K11 K12 K14 K20 K21 K22 K25 W0
attribute [local go_sem] cell_pastA froz_pastA
/-- the library's own variable is a number -/
def Glob (w : World) : Prop := ∃ m, w.cell? ⟨0, 0, none⟩ = some (.int .i64 m)
theorem Glob.below {w w' : World} (h : Glob w) (hb : Below w.heap.size w w') : Glob w' := by
  obtain ⟨m, h⟩ := h
  exact ⟨m, (World.cell?_of_block (hb.block 0 (World.block_lt_of_cell? w _ h))).trans h⟩
theorem Glob.at {w w' : World} {B : Nat} (h : Glob w) (hb : Below B w w') (hB : 0 < B) : Glob w' := by
  obtain ⟨m, h⟩ := h
  exact ⟨m, (World.cell?_of_block (hb.block 0 hB)).trans h⟩
theorem bytes_of (l : List UInt8) : (⟨l.toArray⟩ : ByteArray).data.toList = l := rfl
theorem conv_own {w : World} {v : Value} {n : Nat} {l : List UInt8} (h : w.ownsRow 0 5 1 v n (l.map K14.u8)) (hn : n = l.length) : (convert 72 9 v).run Tryd.prog w = .ok (.string ⟨l.toArray⟩) w := by
  subst hn
  rcases h.2 with ⟨rfl, h0⟩ | ⟨g, cap, cur, rfl, _, hg, h1, h2, h3, h4⟩
  · obtain rfl : l = [] := List.length_eq_zero_iff.1 h0
    exact run_convert_bytes_nil w 72 5 Tryd.underlying72 Tryd.underlying5 0 0 9 Tryd.underlying9
  · refine run_convert_bytes_back w 72 9 5 _ cap l Tryd.underlying72 Tryd.underlying5 Tryd.underlying9 fun j hj => ?_
    exact h.cells rfl j _ (by simp [hj, K14.u8])
theorem conv_row {w : World} {v : Value} {n : Nat} {l : List UInt8} {F : List Res} (h : Sep w (.row v 5 1 n (l.map u8) :: F)) (hn : n = l.length) : (convert 72 9 v).run Tryd.prog w = .ok (.string ⟨l.toArray⟩) w :=
  conv_own (h.rowOf (by simp)) hn
theorem double_any (l : List UInt8) (w : World) (hg : Glob w) (hl : l.length ≤ 1000000) : Calls Tryd.prog 32 #[.string ⟨l.toArray⟩] w fun e w' => e = .returned (.string ⟨(dbl l).toArray⟩) ∧ Below w.heap.size w w' := by
  obtain ⟨m, hm⟩ := hg
  have hc : Go.Lib.countB ⟨l.toArray⟩ ⟨#[255]⟩ * (⟨#[255, 255]⟩ : ByteArray).size ≤ 2 * l.length := by
    have := Go.Lib.countB_mul_le ⟨#[255]⟩ (by decide) l.length ⟨l.toArray⟩ (by simp [ByteArray.size])
    simp [ByteArray.size] at this ⊢
    omega
  have hs : (⟨l.toArray⟩ : ByteArray).size = l.length := by simp [ByteArray.size]
  have hc := Lib.hid hc
  have hm := Lib.hid hm
  go_enter Tryd.func32, Tryd.ntmps32
  go_wp2_with (go_at_call 45; refine (Tryd.strings_ReplaceAll ⟨l.toArray⟩ ⟨#[255]⟩ ⟨#[255, 255]⟩ _ _ (by omega) hm.out (by decide) (by have := hc.out; omega)).mono ?_; rintro e w1 ⟨rfl, hb1⟩)
  go_ret
  refine ⟨?_, hb1⟩
  have e : Go.Lib.replaceAll l [255] [255, 255] = dbl l := replaceAll_dbl l
  show Ending.returned (.string ⟨(Go.Lib.replaceAll l [255] [255, 255]).toArray⟩) = _
  rw [e]
theorem join_any (v : Value) (L : List (List UInt8)) (w : World) (hv : Rd 1 strE w v L) (hl : L.flatten.length ≤ 1000000) (hn : L.length ≤ 1000000) : Calls Tryd.prog 31 #[v, .string ⟨#[]⟩] w fun e w' => e = .returned (.string ⟨L.flatten.toArray⟩) ∧ Below w.heap.size w w' := by
  obtain ⟨a, c, rfl, hc, h⟩ := hv
  rcases h with rfl | ⟨b, o, rfl, hb, h⟩
  · refine (Tryd.strings_Join_none a c ⟨#[]⟩ w).mono ?_
    rintro e w' ⟨rfl, rfl⟩
    exact ⟨rfl, Below.refl _ _⟩
  · have hM : (L.map fun l => (⟨l.toArray⟩ : ByteArray)).map (·.data.toList) = L := by rw [List.map_map]; exact List.map_id'' (fun _ => rfl) L
    have := Tryd.strings_Join b o c (L.map fun l => ⟨l.toArray⟩) ⟨#[]⟩ w (fun j x hx => by
      rw [List.getElem?_map] at hx
      obtain ⟨y, hy, rfl⟩ := Option.map_eq_some_iff.1 hx
      simpa using h j y hy 0 _ rfl) hb (by simp; omega) (by simpa using hc) (by rw [hM]; show (Go.Lib.join L []).length ≤ _; rw [flat_join]; omega)
    rw [hM] at this
    simp only [List.length_map] at this
    refine this.mono ?_
    rintro e w' ⟨rfl, hb'⟩
    refine ⟨?_, hb'⟩
    show _ = Ending.returned (.string ⟨L.flatten.toArray⟩)
    rw [← flat_join L]
theorem join_s (v : Value) (L : List (List UInt8)) (s : ByteArray) (w : World) (hs : s = ⟨L.flatten.toArray⟩) (hv : Rd 1 strE w v L) (hl : L.flatten.length ≤ 1000000) (hn : L.length ≤ 1000000) : Calls Tryd.prog 31 #[v, .string ⟨#[]⟩] w fun e w' => e = .returned (.string s) ∧ Below w.heap.size w w' := by
  subst hs
  exact join_any v L w hv hl hn
theorem info5' : (Tryd.prog.info? 5).map (fun i => (i.zero, i.size, i.bytes)) = some (some (.int .u8 0), 1, 1) := by kernel_rfl
theorem get_bytes (s : ByteArray) (k : Nat) (h : k < s.size) : s.data.toList[k]? = some s[k] := by
  rw [Array.getElem?_toList]
  exact Array.getElem?_eq_getElem h
end Go.Proofs.YtjlamnioknbcaaaDoor.V1
