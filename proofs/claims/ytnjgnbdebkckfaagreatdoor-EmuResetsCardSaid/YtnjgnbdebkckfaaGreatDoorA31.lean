/- U3 -/
import Derived.Test.YtnjgnbdebkckfaaGreatDoorA2
import Derived.Test.YtnjgnbdebkckfaaGreatDoorA6
import Derived.Lib.Hide
set_option linter.unusedVariables false
set_option linter.unusedSimpArgs false
set_option linter.unnecessarySimpa false
namespace Go.Proofs.YtnjgnbdebkckfaaGreatDoor.U3
set_option maxRecDepth 100000
open Go.RowKit K1 K3 K5 K11 K12 K14 K20 K21 K22 K25 K30 K31 M0 C1 G1 G3 G4 G5 G7 G10 G11 U1 U2
attribute [local go_sem] cell_pastA froz_pastA
attribute [local go_sem] gcells
theorem infoS : (Tryz.prog.info? 9).map (fun i => (i.zero, i.size, i.bytes)) = some (some (.string ByteArray.empty), 1, 16) := by kernel_rfl
def strW (l : List UInt8) : Value := .string ⟨l.toArray⟩
def rowT (g : Gr) (y : Nat) : List UInt8 := textB ((segm g.c (rowO g 0 (y : Int)).1 (rowO g 0 (y : Int)).2).map (·.r))
def gridT (g : Gr) (n : Nat) : List (List UInt8) := (List.range n).map (rowT g)
structure RunesOk (g : Gr) : Prop where
  out : ∀ c ∈ g.c, -2147483648 ≤ c.r ∧ c.r ≤ 2147483647
structure GTextI (b gb gc : Nat) (g : Gr) (F : List Res) (v i : Value) (wr : World) : Prop where
  out : ∃ k : Nat, (k : Int) ≤ g.h ∧ i = .int .i64 k ∧ Sep wr (.row v 9 1 k ((gridT g k).map strW) :: gL b gb gc g F)
structure GTextP (b gb gc : Nat) (g : Gr) (F : List Res) (e : Ending) (w' : World) : Prop where
  out : ∃ v, e = .returned v ∧ Sep w' (.row v 9 1 g.h.toNat ((gridT g g.h.toNat).map strW) :: gL b gb gc g F)
set_option maxHeartbeats 4000000 in
theorem GText_any (b gb gc : Nat) (g : Gr) (F : List Res) (w : World) (hs : Sep w (gL b gb gc g F)) (ok0 : GrOk g) (hr : RunesOk g) : Calls Tryz.prog 52 #[.pointer (some ⟨b, 0, none⟩)] w (GTextP b gb gc g F) := by
  have ok := Lib.hid ok0
  have HR := Lib.hid hr
  obtain ⟨hgc, hgm⟩ := gL_cap hs
  obtain ⟨hcG, hzG, hlG⟩ := hs.here (b := b) K32.rm
  have HS := Lib.hid hs
  obtain ⟨q1, q2, q3, q4, q5⟩ := ok0
  obtain ⟨i0, ih, ia, ib, ic⟩ := info_parts infoS
  have iI := Lib.hid ih
  clear ih
  clear hs q5 hr
  go_enter Tryz.func52, Tryz.ntmps52
  go_wp2_with (go_at_call 45; have hs := HS.out; (try clear hcG hzG hlG); obtain ⟨hcG, hzG, hlG⟩ := hs.here (b := b) K32.rm; have hC := (H_any _ gb gc g _ (GrAt.of hs K32.rm)); (with_reducible refine hC.mono ?_); clear hC; rintro e w1 ⟨rfl, hb⟩; have hs := hs.below hb; clear hb; (try clear hcG hzG hlG); obtain ⟨hcG, hzG, hlG⟩ := hs.here (b := b) K32.rm; have HS := Lib.hid hs; clear hs)
  go_loopw [3, 7] (fun v i wr => GTextI b gb gc g F v i wr) (fun _ i _ => g.h.toNat - (intOf i).toNat)
  case atStart => exact ⟨0, by omega, rfl, HS.out.nilRow⟩
  case round =>
    obtain ⟨⟨k, hk, rfl, hs⟩⟩ := hrel
    (try clear hcG hzG hlG); obtain ⟨hcG, hzG, hlG⟩ := hs.here (b := b) K32.rm
    have HS := Lib.hid hs
    clear hs
    by_cases hlt : (k : Int) < g.h
    · have hx : ¬ ((0 : Int) < 0 ∨ g.w ≤ 0 ∨ (k : Int) < 0 ∨ g.h ≤ (k : Int)) := by omega
      have hv : rowV g gb gc 0 (k : Int) = .slice (some ⟨gb, (rowO g 0 (k : Int)).1 * 6, none⟩) (rowO g 0 (k : Int)).2 (gc - (rowO g 0 (k : Int)).1) := by
        unfold rowV rowO; rw [if_neg hx, if_neg hx]
      have hre := ok.out.rowEnd (x := 0) (y := (k : Int)) (by omega) (by omega) (by omega) (by omega)
      have hsl : (segm g.c (rowO g 0 (k : Int)).1 (rowO g 0 (k : Int)).2).length = (rowO g 0 (k : Int)).2 := segm_len _ _ _ (by unfold rowO; rw [if_neg hx]; simp only; omega)
      have h40 : (rowO g 0 (k : Int)).2 ≤ 40 := by unfold rowO; rw [if_neg hx]; simp only; omega
      have HRG : Hid (∀ c ∈ segm g.c (rowO g 0 (k : Int)).1 (rowO g 0 (k : Int)).2, -2147483648 ≤ c.r ∧ c.r ≤ 2147483647) := Lib.hid fun c hc => HR.out.out c (mem_segm hc)
      have HV := Lib.hid hv
      have HSL := Lib.hid hsl
      have HGS : Hid ((gridT g (k + 1)).map strW = (gridT g k).map strW ++ [strW (rowT g k)]) := Lib.hid (by unfold gridT; rw [List.range_succ, List.map_append, List.map_append]; rfl)
      obtain ⟨tx, htx⟩ : ∃ tx, tx = rowT g k := ⟨_, rfl⟩
      have HTX := Lib.hid htx
      clear hv hsl hre hx htx
      go_wp2_with (first | (go_at_call 72; have hs := HS.out; (try clear hcG hzG hlG); obtain ⟨hcG, hzG, hlG⟩ := hs.here (b := b) K32.rm; have hC := (row_w b gb gc g 0 (k : Int) _ wr HV.out (GrAt.of hs K32.rm) ok.out hgc hgm); (with_reducible refine hC.mono ?_); clear hC; rintro e w1 ⟨rfl, hb⟩; have hs := hs.below hb; clear hb; (try clear hcG hzG hlG); obtain ⟨hcG, hzG, hlG⟩ := hs.here (b := b) K32.rm; have HS := Lib.hid hs; clear hs) | (go_at_call 71; have hs := HS.out; refine (show_any _ _ _ (segm g.c (rowO g 0 (k : Int)).1 (rowO g 0 (k : Int)).2) _ HSL.out (fun _ => row_src (gb := gb) (gc := gc) (g := g) hs K32.rm _ _) HRG.out (by omega)).mono ?_; rintro e w1 ⟨he, hb⟩; have he : e = .returned (.string ⟨tx.toArray⟩) := he.trans (by rw [HTX.out]; rfl); subst he; have hs := hs.below hb; clear hb; (try clear hcG hzG hlG); obtain ⟨hcG, hzG, hlG⟩ := hs.here (b := b) K32.rm; have HS := Lib.hid hs; clear hs) | (at_builtin; (with_reducible apply K30.list_at); exact K32.fnd; intro xw hs; (try simp only [World.size_alloc, World.size_setCell] at hs); have hnw := news_of1 (hs.here (cs := [.string ⟨tx.toArray⟩]) (t := 9) K32.rm).1; have hs := hs.pick (r1 := .row _ 9 1 k _) K32.rm; refine wpList_appS rfl (.tmp 10) (.tmp 15) 28 rfl 9 i0 (.string ByteArray.empty) 1 16 Tryz.underlying28 iI.out ia ib ic rfl (by decide) _ k _ _ rfl hs ⟨_, 0, none⟩ 1 _ [.string ⟨tx.toArray⟩] rfl rfl hnw (by intro u hu; simp at hu; subst hu; rfl) (by omega) (by omega) (by decide) ?_; intro g2 cap2 w2 hs2 hz2; clear hs; have HS := Lib.hid hs2; clear hs2))
      go_roundw
      case rel =>
        refine ⟨⟨k + 1, by omega, by go_num, ?_⟩⟩
        rw [HGS.out, ← HTX.out]
        exact HS.out.end3 .here K32.rm K32.rm K32.sub
      case measure => simp [intOf]; omega
    · have hkh : k = g.h.toNat := by omega
      subst hkh
      go_wp2_with fail
      go_ret
      exact ⟨⟨_, rfl, HS.out⟩⟩
end Go.Proofs.YtnjgnbdebkckfaaGreatDoor.U3
