/- G10, G11, P1, Sh, U1, P2, U2 -/
import Derived.Test.YtnjgnbdebkckfaaGreatDoorA2
import Derived.Test.YtnjgnbdebkckfaaGreatDoorA3
import Derived.Test.YtnjgnbdebkckfaaGreatDoorA4
import Derived.Test.YtnjgnbdebkckfaaGreatDoorA5
import Derived.Lib.Hide
import Derived.Test.YtnjgnbdebkckfaaGreatDoorProg
import Derived.Handy
import Derived.Shelf.Utf8.AppendRunePlain
import Derived.Shelf.Strconv.Itoa0
import Derived.Shelf.Strconv.Itoa1
import Derived.Shelf.LaysM
import Derived.Shelf.Strconv.Itoa2
import Derived.Shelf.Strconv.Itoa3
import Derived.Ground.Names2Prog
import Derived.Shelf.Slices.Clone
import Derived.Lib.RuneBytes
set_option linter.unusedVariables false
set_option linter.unusedSimpArgs false
set_option linter.unnecessarySimpa false
namespace Go.Proofs.YtnjgnbdebkckfaaGreatDoor.G10
set_option maxRecDepth 100000
open Go.RowKit K1 K3 K5 K11 K12 K14 K20 K21 K22 K25 K30 K31 M0 C1 G1 G2 G3 G4 G5 G6 G7 G8 G9
attribute [local go_sem] cell_pastA froz_pastA
attribute [local go_sem] gcells
theorem own_rebase {w : World} {B : Nat} {t : TypeId} {s n : Nat} {g c : Nat} {xs : List Value} (h : w.ownsRow 0 t s (.slice (some ⟨g, 0, none⟩) n c) n xs) (hg : B ≤ g) : w.ownsRow B t s (.slice (some ⟨g, 0, none⟩) n c) n xs := by
  obtain ⟨h1, h2⟩ := h
  refine ⟨h1, ?_⟩
  rcases h2 with ⟨h2, _⟩ | ⟨g', c', cur, h2, _, h4⟩
  · cases h2
  · obtain ⟨rfl, rfl⟩ : g = g' ∧ c = c' := by simpa using h2
    exact .inr ⟨g, c, cur, rfl, hg, h4⟩
theorem gL_hc {w : World} {b gb gc : Nat} {g : Gr} {F : List Res} (h : Sep w (gL b gb gc g F)) : (∀ j v, (g.c.flatMap ceV)[j]? = some v → w.cell? ⟨gb, 0 + j, none⟩ = some v) ∧ gb < w.heap.size := by
  obtain ⟨h1, h2, h3, h4, h5⟩ := K30.row_cells (h.rowAt 1 rfl)
  refine ⟨fun j v hj => ?_, h3⟩
  rw [Nat.zero_add, h1 j (by rw [← h5]; exact (List.getElem?_eq_some_iff.1 hj).1)]
  exact hj
structure CellsP (b gb gc : Nat) (g : Gr) (F : List Res) (e : Ending) (w' : World) : Prop where
  out : ∃ k cap, e = .returned (.slice (some ⟨k, 0, none⟩) g.c.length cap) ∧ Sep w' (.row (.slice (some ⟨k, 0, none⟩) g.c.length cap) 58 6 g.c.length (g.c.flatMap ceV) :: gL b gb gc g F)
theorem GrOk.pos {g : Gr} (ok : GrOk g) : 2 ≤ g.c.length ∧ g.c.length ≤ 800 := by
  have h1 := ok.w2; have h3 := ok.h1; have h5 := ok.len
  have h6 := ok.mul (y := 0) (by omega) (by omega)
  have : g.w * 1 ≤ g.w * g.h := Int.mul_le_mul_of_nonneg_left (by omega) (by omega)
  omega
set_option maxHeartbeats 4000000 in
theorem Cells_any (b gb gc : Nat) (g : Gr) (F : List Res) (w : World) (hs : Sep w (gL b gb gc g F)) (ok : GrOk g) : Calls Tryz.prog 53 #[.pointer (some ⟨b, 0, none⟩)] w (CellsP b gb gc g F) := by
  obtain ⟨hc, hlt⟩ := gL_hc hs
  have HC := Lib.hid hc
  have HS := Lib.hid hs
  obtain ⟨p1, p2⟩ := GrOk.pos ok
  obtain ⟨hcG, hzG, hlG⟩ := hs.here (b := b) K32.rm
  clear hs hc
  go_enter Tryz.func53, Tryz.ntmps53
  go_wp2_with (go_at_call 63; refine (clone_any gb 0 _ _ g.c _ _ HS.out rfl (by omega) (by omega) HC.out hlt).mono ?_; rintro e w1 ⟨⟨k, cap, rfl, hs⟩⟩; have HS := Lib.hid hs; clear hs)
  go_ret
  exact ⟨⟨_, _, rfl, HS.out⟩⟩
structure CopyP (b gb gc : Nat) (g : Gr) (F : List Res) (e : Ending) (w' : World) : Prop where
  out : ∃ k kb kc, e = .returned (.pointer (some ⟨k, 0, none⟩)) ∧ Sep w' (gL k kb kc g (gL b gb gc g F))
structure CloB (B n : Nat) (L : List Ce) (w : World) (e : Ending) (w' : World) : Prop where
  out : ∃ p : Nat × Nat, e = .returned (.slice (some ⟨p.1, 0, none⟩) n p.2) ∧ Below w.heap.size w w' ∧ w'.ownsRow B 58 6 (.slice (some ⟨p.1, 0, none⟩) n p.2) n (L.flatMap ceV)
theorem clone_b (B sb so n cap : Nat) (L : List Ce) (w : World) (hB : B ≤ w.heap.size) (hL : L.length = n) (h1 : 1 ≤ n) (h8 : n ≤ 1000000) (hc : ∀ j v, (L.flatMap ceV)[j]? = some v → w.cell? ⟨sb, so + j, none⟩ = some v) (hb : sb < w.heap.size) : Calls Tryz.prog 63 #[.slice (some ⟨sb, so, none⟩) n cap] w (CloB B n L w) := by
  refine (clone_any sb so n cap L _ w (Sep.start w) hL h1 h8 hc hb).mono ?_
  rintro e w1 ⟨⟨g, c, rfl, hs⟩⟩
  subst hL
  refine ⟨(g, c), rfl, hs.lowAt 1 rfl, own_rebase (hs.rowAt 0 rfl) ?_⟩
  have := hs.head (.low w.heap.size w) (by simp) g rfl
  exact Nat.le_trans hB (Nat.le_of_not_lt this)
theorem own_fr0 {B : Nat} {t : TypeId} {s n : Nat} {v : Value} {xs : List Value} : Stab [] (fun w => w.ownsRow B t s v n xs) := fun w w' hf h => own_keep h fun k hk => hf.block k (h.lt k (mem_foot.1 hk)).2 (by simp)
set_option maxHeartbeats 4000000 in
theorem Copy_any (b gb gc : Nat) (g : Gr) (F : List Res) (w : World) (hs : Sep w (gL b gb gc g F)) (ok : GrOk g) : Calls Tryz.prog 44 #[.pointer (some ⟨b, 0, none⟩)] w (CopyP b gb gc g F) := by
  have HS := Lib.hid hs
  obtain ⟨p1, p2⟩ := GrOk.pos ok
  obtain ⟨hcG, hzG, hlG⟩ := hs.here (b := b) K32.rm
  clear hs
  go_enter Tryz.func44, Tryz.ntmps44
  go_wp2_with fail
  refine K30.atR (id := 3) ?_
  (with_reducible apply K30.wp_at)
  exact K32.fnd
  intro xw hs
  (try clear hcG hzG hlG); obtain ⟨hcG, hzG, hlG⟩ := hs.here (b := b) K32.rm; (try clear hlt); obtain ⟨hc, hlt⟩ := gL_hc hs; have HC := Lib.hid hc; clear hc
  have HS := Lib.hid hs
  clear hs
  refine K32.reg0 (w := xw) [12, 14] [] 16 ?_
  simp only [numbered, List.take_succ_cons, List.take_zero, List.drop_succ_cons, List.drop_zero, List.take_nil, List.drop_nil, Nat.reduceAdd]
  (refine K32.zd ?_; (try go_simp))
  (refine K32.zd ?_; (try go_simp))
  (refine K32.zd ?_; (try go_simp))
  (refine K32.zd ?_; (try go_simp))
  (refine K32.zd ?_; (try go_simp))
  (refine K32.zd ?_; (try go_simp))
  (refine K32.zd ?_; (try go_simp))
  (refine K32.zd ?_; (try go_simp))
  (refine K32.zd ?_; (try go_simp))
  (refine K32.zd ?_; (try go_simp))
  (refine K32.zd ?_; (try go_simp))
  (refine K32.zd ?_; (try go_simp))
  (refine wz_any (fun p : Nat × Nat => .slice (some ⟨p.1, 0, none⟩) g.c.length p.2) (fun p w => w.ownsRow xw.heap.size 58 6 (.slice (some ⟨p.1, 0, none⟩) g.c.length p.2) g.c.length (g.c.flatMap ceV)) (0, 0) (by decide) (by decide) ?_ (by intro x y h; simp at h; (try obtain ⟨x1, x2⟩ := x); (try obtain ⟨y1, y2⟩ := y); simp_all) (fun p => own_fr0) ?_ ?_; (focus (first | rfl | (go_simp; done))); (focus (intro bs hok wx hwx hL; (have hwx : Below _ _ wx := hwx; have hcx := cellA hwx; have hfx := frozA hwx; have hzx := hwx.size; (try simp at hzx)); unfold zAt; (try simp [go_sem, K32.ev, ↓IntWalk.iteOmega, *]); (try simp only [zUpon]); refine ⟨rfl, ?_⟩; go_at_call 63; refine (clone_b xw.heap.size gb 0 _ gc g.c wx hwx.size rfl (by omega) (by omega) (fun j v hj => (World.cell?_of_block (hwx.block gb hlt)).trans (HC.out j v hj)) (Nat.lt_of_lt_of_le hlt hwx.size)).mono ?_; rintro e wy ⟨⟨p, rfl, hby, hown⟩⟩; first | exact ⟨_, rfl, p, rfl, hwx.trans (hby.mono (by first | exact hwx.size | (simp at hzx ⊢; omega))), Fr.of_below hby, hown⟩ | exact ⟨_, rfl, p.1, p.2, rfl, hwx.trans (hby.mono (by first | exact hwx.size | (simp at hzx ⊢; omega))), Fr.of_below hby, hown⟩)); intro p12 F12 hF12; (try go_simp))
  (refine K32.zd ?_; (try go_simp))
  (refine wz_new (fun b => .pointer (some ⟨b, 0, none⟩)) _ _ (by decide) (by decide) (by decide) C0e.es (growsB (by simp)) (by first | rfl | (go_simp; done)) (by intro b b' h; simp at h; omega) (by simp) (fun _ _ h => Below.size h) (fun bs hok wx hwx hL => by (have hwx : Below _ _ wx := hwx; have hcx := cellA hwx; have hfx := frozA hwx; have hzx := hwx.size; (try simp at hzx)); (try simp [go_sem, K32.ev, ↓IntWalk.iteOmega, *]); first | done | rfl) ?_; intro b14 hb14 F14 hF14; (try simp at hb14); (try go_simp))
  (refine K32.zc ?_; apply Exists.intro; refine ⟨fun bs hok wx hwx hL => ?_, ?_⟩; (focus ((have hwx : Below _ _ wx := hwx; have hcx := cellA hwx; have hfx := frozA hwx; have hzx := hwx.size; (try simp at hzx)); (try (have hm14 := hF14 _ (hL (14, F14) (by simp) (by kernel_rfl)); have hk14 := cell_blk hm14)); unfold zAt; (try simp [go_sem, K32.ev, ↓IntWalk.iteOmega, *]); (try simp (disch := omega) only [K32.unw]); (try simp only [zUpon]); (first | fail | exact ⟨rfl, Below.refl _ _⟩))); (try go_simp))
  refine wz_nil ?_
  intro wq hbq hLq
  have hm14 := hF14 _ (hLq.get 14 (by simp))
  obtain ⟨hk14, hx14, hg14, hy14, hl14⟩ := blk hm14
  have hA12 := Lib.hid (hF12 _ (hLq.get 12 (by simp)))
  clear hLq hF14 hF12
  have hcwq := cellA hbq
  have hfwq := frozA hbq
  have hzwq := hbq.size
  (try simp at hzwq)
  have HS := Lib.hid (HS.out.addBlkRow hbq hA12.out hm14 hb14 (by decide) rfl)
  go_wp2_with fail
  go_ret
  exact ⟨⟨b14, p12.1, p12.2, rfl, HS.out⟩⟩
end Go.Proofs.YtnjgnbdebkckfaaGreatDoor.G10
namespace Go.Proofs.YtnjgnbdebkckfaaGreatDoor.G11
set_option maxRecDepth 100000
open Go.RowKit K1 K3 K5 K11 K12 K14 K20 K21 K22 K25 K30 K31 M0 C1 G1 G2 G3 G4 G5 G6 G7 G8 G9 G10
attribute [local go_sem] cell_pastA froz_pastA
attribute [local go_sem] gcells
def sizeK (g : Gr) (x y : Int) (k : Nat) : Gr := (List.range k).foldl (fun o (j : Nat) => setG o 0 (j : Int) (segm g.c (rowO g 0 (j : Int)).1 (rowO g 0 (j : Int)).2)) (newG x y)
theorem sizeK_succ (g : Gr) (x y : Int) (k : Nat) : sizeK g x y (k + 1) = setG (sizeK g x y k) 0 (k : Int) (segm g.c (rowO g 0 (k : Int)).1 (rowO g 0 (k : Int)).2) := by
  unfold sizeK; rw [List.range_succ, List.foldl_append]; rfl
theorem setG_keeps (g : Gr) (ok : GrOk g) (x y : Int) (l : List Ce) : (setG g x y l).w = g.w ∧ (setG g x y l).h = g.h ∧ (setG g x y l).c.length = g.c.length := by
  refine ⟨rfl, rfl, ?_⟩
  unfold setG
  by_cases hx : x < 0 ∨ g.w ≤ x ∨ y < 0 ∨ g.h ≤ y
  · have e : rowO g x y = (0, 0) := by unfold rowO; rw [if_pos hx]
    rw [e]; simp [splice]
  · obtain ⟨p1, p2, p3, p4, p5, p6⟩ := ok.rowEnd (x := x) (y := y) (by omega) (by omega) (by omega) (by omega)
    have e : rowO g x y = ((y * g.w + x).toNat, (g.w - x).toNat) := by unfold rowO; rw [if_neg hx]
    rw [e]
    exact length_splice _ _ _ (by rw [List.length_take]; omega)
theorem sizeK_all (g : Gr) (x y : Int) (k : Nat) : (sizeK g x y k).w = endW x ∧ (sizeK g x y k).h = endH y ∧ (sizeK g x y k).c.length = (newG x y).c.length ∧ GrOk (sizeK g x y k) := by
  induction k with
  | zero => exact ⟨rfl, rfl, rfl, newG_ok x y⟩
  | succ k ih =>
    obtain ⟨h1, h2, h3, h4⟩ := ih
    obtain ⟨k1, k2, k3⟩ := setG_keeps _ h4 0 (k : Int) (segm g.c (rowO g 0 (k : Int)).1 (rowO g 0 (k : Int)).2)
    rw [sizeK_succ]
    refine ⟨by rw [k1, h1], by rw [k2, h2], by rw [k3, h3], ⟨by rw [k1]; exact h4.w2, by rw [k1]; exact h4.w40, by rw [k2]; exact h4.h1, by rw [k2]; exact h4.h20, by rw [k1, k2, k3]; exact h4.len⟩⟩
theorem sizeK_ok (g : Gr) (x y : Int) (k : Nat) : GrOk (sizeK g x y k) := (sizeK_all g x y k).2.2.2
theorem sizeG_eq (g : Gr) (x y : Int) : sizeG g x y = sizeK g x y (min g.h (endH y)).toNat := rfl
structure SizP (b : Nat) (g : Gr) (F : List Res) (e : Ending) (w' : World) : Prop where
  out : ∃ gb gc, e = .returned (.tuple #[]) ∧ Sep w' (gL b gb gc g F)
theorem row_src {w : World} {gb gc : Nat} {g : Gr} {L' : List Res} {L : List Res} (h : Sep w L) (hr : Rm L (.row (.slice (some ⟨gb, 0, none⟩) g.c.length gc) 58 6 g.c.length (g.c.flatMap ceV)) L') (o n : Nat) : SrcAt w (some ⟨gb, o * 6, none⟩) (segm g.c o n) := by
  obtain ⟨h1, h2, h3, h4, h5⟩ := K30.row_cells (h.hereRow hr)
  refine ⟨gb, o * 6, rfl, h3, fun j v hj => ?_⟩
  rw [enc_segm] at hj
  have hg := segm_get hj
  rw [h1 _ (by rw [← h5]; exact (List.getElem?_eq_some_iff.1 hg).1)]
  exact hg
theorem gL_len (b gb gc : Nat) (g g' : Gr) (F : List Res) (h : g = g') : gL b gb gc g F = gL b gb gc g' F := by rw [h]
structure SizI (b gb gc b2 gb2 gc2 : Nat) (g : Gr) (x y : Int) (n : Nat) (F : List Res) (v : Value) (wr : World) : Prop where
  out : ∃ k : Nat, k ≤ n ∧ v = .int .i64 k ∧ Sep wr (gL b2 gb2 gc2 (sizeK g x y k) (gL b gb gc g F))
set_option maxHeartbeats 4000000 in
theorem Size_any (b gb gc : Nat) (g : Gr) (x y : Int) (F : List Res) (w : World) (hs : Sep w (gL b gb gc g F)) (ok0 : GrOk g) : Calls Tryz.prog 54 #[.pointer (some ⟨b, 0, none⟩), .int .i64 x, .int .i64 y] w (SizP b (sizeG g x y) F) := by
  have ok := Lib.hid ok0
  obtain ⟨hgc, hgm⟩ := gL_cap hs
  obtain ⟨hcG, hzG, hlG⟩ := hs.here (b := b) K32.rm
  have HS := Lib.hid hs
  obtain ⟨p1, p2⟩ := GrOk.pos ok0
  obtain ⟨q1, q2, q3, q4, q5⟩ := ok0
  have q6 := (newG_ok x y).h20
  have q7 := (newG_ok x y).h1
  rw [sizeG_eq]
  clear hs q5
  have hm : (g.h ≤ (newG x y).h ∧ ((min g.h (endH y)).toNat : Int) ≤ g.h ∧ g.h ≤ (min g.h (endH y)).toNat) ∨ ((newG x y).h < g.h ∧ ((min g.h (endH y)).toNat : Int) ≤ (newG x y).h ∧ (newG x y).h ≤ (min g.h (endH y)).toNat) := by
    change (g.h ≤ endH y ∧ _) ∨ (endH y < g.h ∧ _ ≤ endH y ∧ endH y ≤ _)
    change 1 ≤ endH y at q7
    omega
  obtain ⟨n, hn⟩ : ∃ n, n = (min g.h (endH y)).toNat := ⟨_, rfl⟩
  rw [← hn] at hm ⊢
  have hng : (n : Int) ≤ g.h := by omega
  clear hn
  rcases hm with ⟨hm1, hm2, hm3⟩ | ⟨hm1, hm2, hm3⟩
  all_goals
    go_enter Tryz.func54, Tryz.ntmps54
    go_wp2_with (first | (go_at_call 43; refine (New_any x y _ _ HS.out).mono ?_; rintro e w1 ⟨⟨b2, gb2, rfl, hs⟩⟩; (try clear hcG hzG hlG); (try clear hcH hzH hlH); obtain ⟨hcG, hzG, hlG⟩ := hs.here (b := b) K32.rm; obtain ⟨hcH, hzH, hlH⟩ := hs.here (b := b2) K32.rm; have HS := Lib.hid hs; clear hs) | (refine K32.atW 2 (fun xw hs => ?_); (try simp only [World.size_alloc, World.size_setCell] at hs); (try clear hcG hzG hlG); (try clear hcH hzH hlH); obtain ⟨hcG, hzG, hlG⟩ := hs.here (b := b) K32.rm; obtain ⟨hcH, hzH, hlH⟩ := hs.here (b := b2) K32.rm; have HS := Lib.hid hs; clear hs; refine K32.reg0 (w := xw) [] [] 10 ?_; simp only [numbered, List.take_succ_cons, List.take_zero, List.drop_succ_cons, List.drop_zero, List.take_nil, List.drop_nil, Nat.reduceAdd]; (iterate 10 (refine K32.zd ?_; (try go_simp))); refine wz_nil ?_; intro wq hbq hLq; clear hLq ; have hcwq := cellA hbq; have hfwq := frozA hbq; have hzwq := hbq.size; (try simp at hzwq); have hs := HS.out.below hbq; (try clear hcG hzG hlG); (try clear hcH hzH hlH); obtain ⟨hcG, hzG, hlG⟩ := hs.here (b := b) K32.rm; obtain ⟨hcH, hzH, hlH⟩ := hs.here (b := b2) K32.rm; have HS := Lib.hid hs; clear hs hcwq hfwq hzwq hbq))
    obtain ⟨gc2, hgc2⟩ : ∃ n, n = (newG x y).c.length := ⟨_, rfl⟩
    have hs0 := HS.out
    rw [← hgc2] at hs0
    have HS0 := Lib.hid hs0
    clear hgc2 hs0 hcG hzG hlG hcH hzH hlH HS
    go_loopw [22] (fun v wr => SizI b gb gc b2 gb2 gc2 g x y n F v wr) (fun v _ => n - (intOf v).toNat)
    case atStart => exact ⟨0, Nat.zero_le _, rfl, HS0.out⟩
    case round =>
      obtain ⟨⟨k, hk, rfl, hs⟩⟩ := hrel
      (try clear hcG hzG hlG); (try clear hcH hzH hlH); obtain ⟨hcG, hzG, hlG⟩ := hs.here (b := b) K32.rm; obtain ⟨hcH, hzH, hlH⟩ := hs.here (b := b2) K32.rm
      have HS := Lib.hid hs
      clear hs
      by_cases hlt : k < n
      · have hx : ¬ ((0 : Int) < 0 ∨ g.w ≤ 0 ∨ (k : Int) < 0 ∨ g.h ≤ (k : Int)) := by omega
        have hv : rowV g gb gc 0 (k : Int) = .slice (some ⟨gb, (rowO g 0 (k : Int)).1 * 6, none⟩) (rowO g 0 (k : Int)).2 (gc - (rowO g 0 (k : Int)).1) := by
          unfold rowV rowO; rw [if_neg hx, if_neg hx]
        have HSRC := Lib.hid (row_src (gb := gb) (gc := gc) (g := g) HS.out K32.rm (rowO g 0 (k : Int)).1 (rowO g 0 (k : Int)).2)
        have hre := ok.out.rowEnd (x := 0) (y := (k : Int)) (by omega) (by omega) (by omega) (by omega)
        have hsl : (segm g.c (rowO g 0 (k : Int)).1 (rowO g 0 (k : Int)).2).length = (rowO g 0 (k : Int)).2 := segm_len _ _ _ (by unfold rowO; rw [if_neg hx]; simp only; omega)
        have h40 : (rowO g 0 (k : Int)).2 ≤ 40 := by unfold rowO; rw [if_neg hx]; simp only; omega
        obtain ⟨ro, hro⟩ : ∃ r, r = rowO g 0 (k : Int) := ⟨_, rfl⟩
        have HV := Lib.hid hv
        have HSL := Lib.hid hsl
        clear hv hsl hre hx hro ro
        go_wp2_with (first | (go_at_call 72; have hs := HS.out; have hC := (row_w b gb gc g 0 (k : Int) _ wr HV.out (GrAt.of hs K32.rm) ok.out hgc hgm); (with_reducible refine hC.mono ?_); clear hC hs; rintro e w1 ⟨rfl, hb⟩; have hsrc := Lib.hid (SrcAt.low HSRC.out hb); have HS := Lib.hid (HS.out.below hb); clear hb) | (go_at_call 73; refine (Set_any b2 gb2 _ (sizeK g x y k) 0 (k : Int) _ _ _ (segm g.c (rowO g 0 (k : Int)).1 (rowO g 0 (k : Int)).2) _ _ HS.out (sizeK_ok g x y k) HSL.out (fun _ => hsrc.out) (by omega)).mono ?_; rintro e w2 ⟨⟨rfl, hs⟩⟩; have HS := Lib.hid hs; clear hs))
        go_roundw
        case rel => exact ⟨⟨k + 1, by omega, by go_num, by rw [sizeK_succ]; exact HS.out⟩⟩
        case measure => simp [intOf]; omega
      · obtain rfl : k = n := by omega
        go_wp2_with fail
        go_end0
        refine ⟨⟨gb2, gc2, rfl, ?_⟩⟩
        ((with_reducible apply K30.sep_end); exact K32.fnd; intro hs; (try simp only [World.size_alloc, World.size_setCell] at hs); exact hs.end2 K32.rm K32.rm K32.sub)
end Go.Proofs.YtnjgnbdebkckfaaGreatDoor.G11
namespace Go.Proofs.YtnjgnbdebkckfaaGreatDoor.P1
set_option maxRecDepth 100000
open Go.RowKit K1 K3 K5 K11 K12 K14 K20 K21 K22 K25 K30 K31 M0 
attribute [local go_sem] cell_pastA froz_pastA
def widthN (n : Nat) : Nat := if n < 128 then 1 else if 194 ≤ n ∧ n ≤ 223 then 2 else if 224 ≤ n ∧ n ≤ 239 then 3 else if 240 ≤ n ∧ n ≤ 244 then 4 else 0
theorem width_eq (b : UInt8) : widthF b = widthN b.toNat := by
  unfold widthF widthN
  simp only [UInt8.lt_iff_toNat_lt, UInt8.le_iff_toNat_le]
  rfl
theorem ret_i64 {a b : Int} (h : a = b) : Ending.returned (.int .i64 a) = .returned (.int .i64 b) := by rw [h]
set_option maxHeartbeats 4000000 in
theorem width_n (n : Nat) (w : World) (h : n ≤ 255) : Calls Tryz.prog 164 #[.int .u8 n] w fun e w' => e = .returned (.int .i64 (widthN n)) ∧ w' = w := by
  have hc : n < 128 ∨ (128 ≤ n ∧ n < 194) ∨ (194 ≤ n ∧ n ≤ 223) ∨ (224 ≤ n ∧ n ≤ 239) ∨ (240 ≤ n ∧ n ≤ 244) ∨ 245 ≤ n := by omega
  rcases hc with hc | ⟨hc, hd⟩ | ⟨hc, hd⟩ | ⟨hc, hd⟩ | ⟨hc, hd⟩ | hc
  all_goals
    go_enter Tryz.func164, Tryz.ntmps164
    go_wp2_with fail
    go_ret
    exact ⟨ret_i64 (by unfold widthN; first | (rw [if_pos (by omega)]; rfl) | (rw [if_neg (by omega), if_pos (by omega)]; rfl) | (rw [if_neg (by omega), if_neg (by omega), if_pos (by omega)]; rfl) | (rw [if_neg (by omega), if_neg (by omega), if_neg (by omega), if_pos (by omega)]; rfl) | (rw [if_neg (by omega), if_neg (by omega), if_neg (by omega), if_neg (by omega)]; rfl)), rfl⟩
theorem width_any (b : UInt8) (w : World) : Calls Tryz.prog 164 #[.int .u8 b.toNat] w fun e w' => e = .returned (.int .i64 (widthF b)) ∧ Below w.heap.size w w' :=
  (width_n b.toNat w (by have := b.toNat_lt; omega)).mono fun e w' ⟨h1, h2⟩ => ⟨by rw [h1, width_eq], h2 ▸ Below.refl _ _⟩
theorem or_step (X y : Nat) (hX : X < 1000000) (hy : y < 256) : bits .or .i32 ((X : Int) * 64) (wrap32 (bits .and .u8 (y : Int) 63)) = ((X * 64 + y % 64 : Nat) : Int) := by
  rw [u8_and63 (y : Int) (by omega) (by omega)]
  have e : wrap32 ((y : Int) % 64) = (y : Int) % 64 := by unfold wrap32; omega
  rw [e, i32_or6 ((X : Int) * 64) ((y : Int) % 64) (by omega) (by omega) (by omega) (by omega) (by omega)]
  omega
theorem and_first (y j : Nat) (hy : y < 256) (hj : j ≤ 31) : bits .and .i32 (IntKind.i32.wrap (y : Int)) ((2 ^ j - 1 : Nat) : Int) = ((y % 2 ^ j : Nat) : Int) := by
  rw [IntWalk.i32_in _ (by omega)]
  have h := bits_mask .i32 31 (by decide) wraps_i32 j hj (y : Int) (by omega) (by omega)
  push_cast at h ⊢
  have e : ((2 ^ j - 1 : Nat) : Int) = 2 ^ j - 1 := by
    have := Nat.one_le_two_pow (n := j)
    rw [Int.natCast_sub this]
    push_cast
    rfl
  first | exact h | (rw [e]; exact h)
set_option maxHeartbeats 4000000 in
theorem whole2 (a b : UInt8) (w : World) : Calls Tryz.prog 166 #[.string ⟨#[a, b]⟩] w fun e w' => e = .returned (.int .i32 (wholeF [a, b])) ∧ Below w.heap.size w w' := by
  have ha := a.toNat_lt
  have hb := b.toNat_lt
  obtain ⟨A, hA⟩ : ∃ A, A = a.toNat % 32 := ⟨_, rfl⟩
  have hA1 : A < 32 := by omega
  have HA := Lib.hid hA
  have HF := Lib.hid (and_first a.toNat 5 (by omega) (by omega))
  clear hA
  go_enter Tryz.func166, Tryz.ntmps166
  go_wp2_with fail
  refine K32.reg0 (w := _) [] [] 9 ?_
  simp only [numbered, List.take_succ_cons, List.take_zero, List.drop_succ_cons, List.drop_zero, List.take_nil, List.drop_nil, Nat.reduceAdd]
  (refine K32.zd ?_; (try go_simp))
  (refine K32.zd ?_; (try go_simp))
  (refine K32.zd ?_; (try go_simp))
  (refine K32.zd ?_; (try go_simp))
  (refine K32.zd ?_; (try go_simp))
  (refine K32.zd ?_; (try go_simp))
  (refine K32.zd ?_; (try go_simp))
  (refine K32.zd ?_; (try go_simp))
  (refine K32.zd ?_; (try go_simp))
  refine wz_nil ?_
  intro wq hbq hLq
  clear hLq 
  have hcwq := cellA hbq
  have hfwq := frozA hbq
  have hzwq := hbq.size
  (try simp at hzwq)
  go_wp2_with fail
  go_loopw [3, 4] (fun r i wr => ((i = .int .i64 1 ∧ r = .int .i32 ((A : Nat) : Int)) ∨ (i = .int .i64 2 ∧ r = .int .i32 (((A * 64 + b.toNat % 64) : Nat) : Int))) ∧ Below w.heap.size w wr) (fun _ i _ => 2 - (intOf i).toNat)
  case atStart => exact ⟨.inl ⟨rfl, by rw [HA.out]; exact congrArg _ HF.out⟩, hbq⟩
  case round =>
    obtain ⟨h, hb2⟩ := hrel
    rcases h with ⟨rfl, rfl⟩ | ⟨rfl, rfl⟩
    · go_wp2_with fail
      go_roundw
      case rel => exact ⟨.inr (⟨by go_num, by first | rfl | exact congrArg _ (or_step A b.toNat (by omega) (by omega))⟩), hb2⟩
      case measure => simp [intOf]
    · go_wp2_with fail
      go_ret
      exact ⟨congrArg (fun x : Int => Ending.returned (.int .i32 x)) (by rw [HA.out]; unfold wholeF; first | rfl | omega | (simp only; omega)), hb2⟩
set_option maxHeartbeats 4000000 in
theorem whole3 (a b c : UInt8) (w : World) : Calls Tryz.prog 166 #[.string ⟨#[a, b, c]⟩] w fun e w' => e = .returned (.int .i32 (wholeF [a, b, c])) ∧ Below w.heap.size w w' := by
  have ha := a.toNat_lt
  have hb := b.toNat_lt
  have hc := c.toNat_lt
  obtain ⟨A, hA⟩ : ∃ A, A = a.toNat % 16 := ⟨_, rfl⟩
  have hA1 : A < 16 := by omega
  have HA := Lib.hid hA
  have HF := Lib.hid (and_first a.toNat 4 (by omega) (by omega))
  clear hA
  go_enter Tryz.func166, Tryz.ntmps166
  go_wp2_with fail
  refine K32.reg0 (w := _) [] [] 9 ?_
  simp only [numbered, List.take_succ_cons, List.take_zero, List.drop_succ_cons, List.drop_zero, List.take_nil, List.drop_nil, Nat.reduceAdd]
  (refine K32.zd ?_; (try go_simp))
  (refine K32.zd ?_; (try go_simp))
  (refine K32.zd ?_; (try go_simp))
  (refine K32.zd ?_; (try go_simp))
  (refine K32.zd ?_; (try go_simp))
  (refine K32.zd ?_; (try go_simp))
  (refine K32.zd ?_; (try go_simp))
  (refine K32.zd ?_; (try go_simp))
  (refine K32.zd ?_; (try go_simp))
  refine wz_nil ?_
  intro wq hbq hLq
  clear hLq 
  have hcwq := cellA hbq
  have hfwq := frozA hbq
  have hzwq := hbq.size
  (try simp at hzwq)
  go_wp2_with fail
  go_loopw [3, 4] (fun r i wr => ((i = .int .i64 1 ∧ r = .int .i32 ((A : Nat) : Int)) ∨ (i = .int .i64 2 ∧ r = .int .i32 (((A * 64 + b.toNat % 64) : Nat) : Int)) ∨ (i = .int .i64 3 ∧ r = .int .i32 ((((A * 64 + b.toNat % 64) * 64 + c.toNat % 64) : Nat) : Int))) ∧ Below w.heap.size w wr) (fun _ i _ => 3 - (intOf i).toNat)
  case atStart => exact ⟨.inl ⟨rfl, by rw [HA.out]; exact congrArg _ HF.out⟩, hbq⟩
  case round =>
    obtain ⟨h, hb2⟩ := hrel
    rcases h with ⟨rfl, rfl⟩ | ⟨rfl, rfl⟩ | ⟨rfl, rfl⟩
    · go_wp2_with fail
      go_roundw
      case rel => exact ⟨.inr (.inl ⟨by go_num, by first | rfl | exact congrArg _ (or_step A b.toNat (by omega) (by omega))⟩), hb2⟩
      case measure => simp [intOf]
    · go_wp2_with fail
      go_roundw
      case rel => exact ⟨.inr (.inr (⟨by go_num, by first | rfl | exact congrArg _ (or_step (A * 64 + b.toNat % 64) c.toNat (by omega) (by omega))⟩)), hb2⟩
      case measure => simp [intOf]
    · go_wp2_with fail
      go_ret
      exact ⟨congrArg (fun x : Int => Ending.returned (.int .i32 x)) (by rw [HA.out]; unfold wholeF; first | rfl | omega | (simp only; omega)), hb2⟩
set_option maxHeartbeats 4000000 in
theorem whole4 (a b c d : UInt8) (w : World) : Calls Tryz.prog 166 #[.string ⟨#[a, b, c, d]⟩] w fun e w' => e = .returned (.int .i32 (wholeF [a, b, c, d])) ∧ Below w.heap.size w w' := by
  have ha := a.toNat_lt
  have hb := b.toNat_lt
  have hc := c.toNat_lt
  have hd := d.toNat_lt
  obtain ⟨A, hA⟩ : ∃ A, A = a.toNat % 8 := ⟨_, rfl⟩
  have hA1 : A < 8 := by omega
  have HA := Lib.hid hA
  have HF := Lib.hid (and_first a.toNat 3 (by omega) (by omega))
  clear hA
  go_enter Tryz.func166, Tryz.ntmps166
  go_wp2_with fail
  refine K32.reg0 (w := _) [] [] 9 ?_
  simp only [numbered, List.take_succ_cons, List.take_zero, List.drop_succ_cons, List.drop_zero, List.take_nil, List.drop_nil, Nat.reduceAdd]
  (refine K32.zd ?_; (try go_simp))
  (refine K32.zd ?_; (try go_simp))
  (refine K32.zd ?_; (try go_simp))
  (refine K32.zd ?_; (try go_simp))
  (refine K32.zd ?_; (try go_simp))
  (refine K32.zd ?_; (try go_simp))
  (refine K32.zd ?_; (try go_simp))
  (refine K32.zd ?_; (try go_simp))
  (refine K32.zd ?_; (try go_simp))
  refine wz_nil ?_
  intro wq hbq hLq
  clear hLq 
  have hcwq := cellA hbq
  have hfwq := frozA hbq
  have hzwq := hbq.size
  (try simp at hzwq)
  go_wp2_with fail
  go_loopw [3, 4] (fun r i wr => ((i = .int .i64 1 ∧ r = .int .i32 ((A : Nat) : Int)) ∨ (i = .int .i64 2 ∧ r = .int .i32 (((A * 64 + b.toNat % 64) : Nat) : Int)) ∨ (i = .int .i64 3 ∧ r = .int .i32 ((((A * 64 + b.toNat % 64) * 64 + c.toNat % 64) : Nat) : Int)) ∨ (i = .int .i64 4 ∧ r = .int .i32 (((((A * 64 + b.toNat % 64) * 64 + c.toNat % 64) * 64 + d.toNat % 64) : Nat) : Int))) ∧ Below w.heap.size w wr) (fun _ i _ => 4 - (intOf i).toNat)
  case atStart => exact ⟨.inl ⟨rfl, by rw [HA.out]; exact congrArg _ HF.out⟩, hbq⟩
  case round =>
    obtain ⟨h, hb2⟩ := hrel
    rcases h with ⟨rfl, rfl⟩ | ⟨rfl, rfl⟩ | ⟨rfl, rfl⟩ | ⟨rfl, rfl⟩
    · go_wp2_with fail
      go_roundw
      case rel => exact ⟨.inr (.inl ⟨by go_num, by first | rfl | exact congrArg _ (or_step A b.toNat (by omega) (by omega))⟩), hb2⟩
      case measure => simp [intOf]
    · go_wp2_with fail
      go_roundw
      case rel => exact ⟨.inr (.inr (.inl ⟨by go_num, by first | rfl | exact congrArg _ (or_step (A * 64 + b.toNat % 64) c.toNat (by omega) (by omega))⟩)), hb2⟩
      case measure => simp [intOf]
    · go_wp2_with fail
      go_roundw
      case rel => exact ⟨.inr (.inr (.inr (⟨by go_num, by first | rfl | exact congrArg _ (or_step ((A * 64 + b.toNat % 64) * 64 + c.toNat % 64) d.toNat (by omega) (by omega))⟩))), hb2⟩
      case measure => simp [intOf]
    · go_wp2_with fail
      go_ret
      exact ⟨congrArg (fun x : Int => Ending.returned (.int .i32 x)) (by rw [HA.out]; unfold wholeF; first | rfl | omega | (simp only; omega)), hb2⟩
end Go.Proofs.YtnjgnbdebkckfaaGreatDoor.P1
namespace Go.Proofs
open Go.Shelf
def Tryz.lays242_ren : Go.Shelf.Ren := ⟨fun | 242 => 136 | 278 => 153 | n => n, fun | 37 => 36 | 21 => 21 | 51 => 86 | 4 => 4 | 5 => 5 | 46 => 190 | n => n, fun | n => n⟩
theorem Tryz.lays242 : Go.Proofs.Lays.n242 Tryz.prog Tryz.lays242_ren := {
  mixed := by kernel_rfl
  f242 := Tryz.func136.trans (congrArg some (by kernel_rfl))
  f278 := Tryz.func153.trans (congrArg some (by kernel_rfl))
  t4 := Tryz.underlying4
  a4 := Tryz.isAgg4
  z4 := Tryz.sizeOf4
  v4 := Tryz.zeroValue4
  t5 := Tryz.underlying5
  a5 := Tryz.isAgg5
  z5 := Tryz.sizeOf5
  v5 := Tryz.zeroValue5
  t21 := Tryz.underlying21
  a21 := Tryz.isAgg21
  z21 := Tryz.sizeOf21
  v21 := Tryz.zeroValue21
  t37 := Tryz.underlying36
  a37 := Tryz.isAgg36
  z37 := Tryz.sizeOf36
  v37 := Tryz.zeroValue36
  t46 := Tryz.underlying190
  a46 := Tryz.isAgg190
  z46 := Tryz.sizeOf190
  v46 := Tryz.zeroValue190
  t51 := Tryz.underlying86
  a51 := Tryz.isAgg86
  z51 := Tryz.sizeOf86
  v51 := Tryz.zeroValue86 }
open Go.RowKit in
/-- unicode/utf8.AppendRune: "AppendRune appends the UTF-8 encoding of r to the end of p and returns the extended buffer. If the rune is out of range, it appends the encoding of RuneError.": ONTO A ROW OF BYTES THAT THE CALL OWNS (its head frozen or not): EVERY int32: 'Lib.runeCells r' goes in behind what the row holds; the world: one new block (the bytes as the call's variadic argument), then what 'append' does to the row. (LAID: no walk: one application.) -/
theorem Tryz.utf8_AppendRune_plain (B : Nat) (v : Value) (n : Nat) (xs : List Value) (r : Int) (hr0 : -2147483648 ≤ r) (hr1 : r ≤ 2147483647) (w : World) (hown : w.ownsRow B 5 1 v n xs) (hlen : n + 4 ≤ 140737488355328) (hBw : B ≤ w.heap.size) :
    Calls Tryz.prog 136 #[v, .int .i32 r] w fun e w' => ∃ v', e = .returned v' ∧ w'.ownsRow B 5 1 v' (n + (Lib.runeCells r).length) (xs ++ Lib.runeCells r) ∧ ∃ o, (w.alloc o).grownBy w' v.ownBlock := Any.utf8_AppendRune_plain Tryz.lays242 (by kernel_rfl) B v n xs r hr0 hr1 w hown hlen hBw
def Tryz.lays171_ren : Go.Shelf.Ren := ⟨fun | 171 => 155 | 243 => 167 | 246 => 175 | 283 => 176 | 284 => 177 | 285 => 178 | 286 => 179 | 129 => 181 | 317 => 180 | 318 => 182 | 319 => 183 | 320 => 184 | 337 => 185 | 338 => 186 | n => n, fun | 3 => 3 | 9 => 9 | 2 => 2 | 4 => 4 | 171 => 195 | 0 => 0 | 53 => 196 | 37 => 36 | 5 => 5 | 173 => 199 | 212 => 202 | 51 => 86 | 20 => 20 | 213 => 203 | 46 => 190 | 232 => 206 | 233 => 207 | n => n, fun | 17 => 0 | 18 => 1 | 19 => 2 | n => n⟩
theorem Tryz.lays171 : Go.Proofs.Lays.n171 Tryz.prog Tryz.lays171_ren := {
  mixed := by kernel_rfl
  f129 := Tryz.func181.trans (congrArg some (by kernel_rfl))
  f171 := Tryz.func155.trans (congrArg some (by kernel_rfl))
  f243 := Tryz.func167.trans (congrArg some (by kernel_rfl))
  f246 := Tryz.func175.trans (congrArg some (by kernel_rfl))
  f283 := Tryz.func176.trans (congrArg some (by kernel_rfl))
  f284 := Tryz.func177.trans (congrArg some (by kernel_rfl))
  f285 := Tryz.func178.trans (congrArg some (by kernel_rfl))
  f286 := Tryz.func179.trans (congrArg some (by kernel_rfl))
  f317 := Tryz.func180.trans (congrArg some (by kernel_rfl))
  f318 := Tryz.func182.trans (congrArg some (by kernel_rfl))
  f319 := Tryz.func183.trans (congrArg some (by kernel_rfl))
  f320 := Tryz.func184.trans (congrArg some (by kernel_rfl))
  f337 := Tryz.func185.trans (congrArg some (by kernel_rfl))
  f338 := Tryz.func186.trans (congrArg some (by kernel_rfl))
  t0 := Tryz.underlying0
  a0 := Tryz.isAgg0
  z0 := Tryz.sizeOf0
  v0 := Tryz.zeroValue0
  t2 := Tryz.underlying2
  a2 := Tryz.isAgg2
  z2 := Tryz.sizeOf2
  v2 := Tryz.zeroValue2
  t3 := Tryz.underlying3
  a3 := Tryz.isAgg3
  z3 := Tryz.sizeOf3
  v3 := Tryz.zeroValue3
  t4 := Tryz.underlying4
  a4 := Tryz.isAgg4
  z4 := Tryz.sizeOf4
  v4 := Tryz.zeroValue4
  t5 := Tryz.underlying5
  a5 := Tryz.isAgg5
  z5 := Tryz.sizeOf5
  v5 := Tryz.zeroValue5
  t9 := Tryz.underlying9
  a9 := Tryz.isAgg9
  z9 := Tryz.sizeOf9
  v9 := Tryz.zeroValue9
  t20 := Tryz.underlying20
  a20 := Tryz.isAgg20
  z20 := Tryz.sizeOf20
  v20 := Tryz.zeroValue20
  t37 := Tryz.underlying36
  a37 := Tryz.isAgg36
  z37 := Tryz.sizeOf36
  v37 := Tryz.zeroValue36
  t46 := Tryz.underlying190
  a46 := Tryz.isAgg190
  z46 := Tryz.sizeOf190
  v46 := Tryz.zeroValue190
  t51 := Tryz.underlying86
  a51 := Tryz.isAgg86
  z51 := Tryz.sizeOf86
  v51 := Tryz.zeroValue86
  t53 := Tryz.underlying196
  a53 := Tryz.isAgg196
  z53 := Tryz.sizeOf196
  v53 := Tryz.zeroValue196
  t171 := Tryz.underlying195
  a171 := Tryz.isAgg195
  z171 := Tryz.sizeOf195
  v171 := Tryz.zeroValue195
  t173 := Tryz.underlying199
  a173 := Tryz.isAgg199
  z173 := Tryz.sizeOf199
  v173 := Tryz.zeroValue199
  t212 := Tryz.underlying202
  a212 := Tryz.isAgg202
  z212 := Tryz.sizeOf202
  v212 := Tryz.zeroValue202
  t213 := Tryz.underlying203
  a213 := Tryz.isAgg203
  z213 := Tryz.sizeOf203
  t232 := Tryz.underlying206
  a232 := Tryz.isAgg206
  z232 := Tryz.sizeOf206
  v232 := Tryz.zeroValue206
  t233 := Tryz.underlying207
  a233 := Tryz.isAgg207
  z233 := Tryz.sizeOf207
  v233 := Tryz.zeroValue207
  g17 := by kernel_rfl
  g18 := by kernel_rfl
  g19 := by kernel_rfl }
open Go.RowKit Go.Sort Go.Lib in
/-- THE ROAD WITHOUT THE TABLE: 0 <= i < 100: NO PREMISE ON THE WORLD, AND THE WORLD IS AS IT WAS: a row that keeps its argument in that range need list no table ('laid = []'). (LAID: no walk: one application.) -/
theorem Tryz.strconv_Itoa_small (i : Nat) (hi : i < 100) (w : World) :
    Calls Tryz.prog 155 #[.int .i64 i] w fun e w' => e = .returned (.string ⟨(Lib.decDigits i).toArray⟩) ∧ w' = w := Any.strconv_Itoa_small Tryz.lays171 i hi w
end Go.Proofs
namespace Go.Proofs.YtnjgnbdebkckfaaGreatDoor.U1
set_option maxRecDepth 100000
open Go.RowKit K1 K3 K5 K11 K12 K14 K20 K21 K22 K25 K30 K31 M0 C1 G1 G4
attribute [local go_sem] cell_pastA froz_pastA
theorem conv_own {w : World} {B : Nat} {v : Value} {n : Nat} {l : List UInt8} (h : w.ownsRow B 5 1 v n (l.map K14.u8)) (hn : n = l.length) : (convert 36 9 v).run Tryz.prog w = .ok (.string ⟨l.toArray⟩) w := by
  subst hn
  rcases h.2 with ⟨rfl, h0⟩ | ⟨g, cap, cur, rfl, _, hg, h1, h2, h3, h4⟩
  · obtain rfl : l = [] := List.length_eq_zero_iff.1 h0
    exact run_convert_bytes_nil w 36 5 Tryz.underlying36 Tryz.underlying5 0 0 9 Tryz.underlying9
  · refine run_convert_bytes_back w 36 9 5 _ cap l Tryz.underlying36 Tryz.underlying5 Tryz.underlying9 fun j hj => ?_
    exact h.cells rfl j _ (by simp [hj, K14.u8])
/-- the bytes of runes -/
def textB (l : List Int) : List UInt8 := l.flatMap Lib.encodeRune
theorem rune_cells (r : Int) : Lib.runeCells r = (Lib.encodeRune r).map K14.u8 := by
  unfold Lib.runeCells Lib.encodeRune
  rw [List.map_map]
  refine List.map_congr_left fun x hx => ?_
  obtain ⟨h0, h1⟩ := Lib.encodeRuneZ_byte r x hx
  simp only [Function.comp, K14.u8]
  congr 1
  rw [show x.toNat.toUInt8.toNat = x.toNat % 256 from rfl]
  omega
theorem rune_len (r : Int) : (Lib.encodeRune r).length ≤ 4 := by
  unfold Lib.encodeRune Lib.encodeRuneZ
  rw [List.length_map]
  split <;> (try split) <;> (try split) <;> (try split) <;> simp
theorem textB_len (l : List Int) : (textB l).length ≤ 4 * l.length := by
  induction l with
  | nil => simp [textB]
  | cons r l ih => unfold textB at *; rw [List.flatMap_cons, List.length_append, List.length_cons]; have := rune_len r; omega
theorem textB_snoc (l : List Int) (k : Nat) (h : k < l.length) : textB (l.take (k + 1)) = textB (l.take k) ++ Lib.encodeRune l[k] := by
  unfold textB
  rw [List.take_succ_eq_append_getElem h, List.flatMap_append]
  simp
/-- runes that are read -/
structure Runes (w : World) (b o : Nat) (l : List Int) : Prop where
  at_ : ∀ k (h : k < l.length), w.cell? ⟨b, o + k, none⟩ = some (.int .i32 l[k])
structure TextI (B : Nat) (w : World) (l : List Int) (v i : Value) (wr : World) : Prop where
  out : ∃ (k n : Nat), k ≤ l.length ∧ i = .int .i64 k ∧ n = (textB (l.take k)).length ∧ wr.ownsRow B 5 1 v n ((textB (l.take k)).map K14.u8) ∧ Below B w wr
set_option maxHeartbeats 4000000 in
theorem text_any (ad : Option Addr) (b o cap : Nat) (l : List Int) (w : World) (ha : l = [] ∨ ad = some ⟨b, o, none⟩) (hr : ∀ r ∈ l, -2147483648 ≤ r ∧ r ≤ 2147483647) (hl : l.length ≤ 1000000) (hb : l ≠ [] → b < w.heap.size) (hc : Runes w b o l) :
    Calls Tryz.prog 97 #[.slice ad l.length cap] w fun e w' => e = .returned (.string ⟨(textB l).toArray⟩) ∧ Below w.heap.size w w' := by
  have HA := Lib.hid ha
  have HR := Lib.hid hr
  have HBB := Lib.hid hb
  clear ha hr hb
  go_enter Tryz.func97, Tryz.ntmps97
  go_wp2_with fail
  go_loopw [3, 8] (fun v i wr => TextI w.heap.size w l v i wr) (fun _ i _ => l.length - (intOf i).toNat)
  case atStart => exact ⟨0, 0, Nat.zero_le _, rfl, rfl, World.ownsRow_nil _ _ _ _, Below.refl _ _⟩
  case round =>
    obtain ⟨⟨k, n, hk, rfl, hn, ho, hb⟩⟩ := hrel
    have HO := Lib.hid ho
    have HB := Lib.hid hb
    have hn4 := textB_len (l.take k)
    rw [← hn, List.length_take, Nat.min_eq_left hk] at hn4
    have HN := Lib.hid hn
    clear ho hb hn
    by_cases hlt : k < l.length
    · obtain rfl : ad = some ⟨b, o, none⟩ := HA.out.resolve_left (by intro h; rw [h] at hlt; simp at hlt)
      have hbw := HBB.out (by intro h; rw [h] at hlt; simp at hlt)
      have hck := (World.cell?_of_block (HB.out.block b hbw)).trans (hc.at_ k hlt)
      have hxr := HR.out l[k] (List.getElem_mem hlt)
      have HT := Lib.hid (textB_snoc l k hlt)
      obtain ⟨x, hx⟩ : ∃ x, x = l[k] := ⟨_, rfl⟩
      rw [← hx] at hck hxr
      have HX := Lib.hid hx
      obtain ⟨hx0, hx1⟩ := hxr
      clear hx hc
      go_wp2_with (go_at_call 136; refine (Tryz.utf8_AppendRune_plain w.heap.size _ n _ x hx0 hx1 wr HO.out (by omega) HB.out.size).mono ?_; rintro e w1 ⟨v2, rfl, ho1, o1, hg1⟩; have HO1 := Lib.hid ho1; have HB1 := Lib.hid (((HB.out.alloc HB.out.size o1).grown hg1 (Nat.le_trans HB.out.size (by simp)) (fun k hk => (HO.out.lt k hk).1))); clear ho1 hg1)
      go_roundw
      case rel =>
        refine ⟨⟨k + 1, n + (Lib.runeCells x).length, by omega, by go_num, ?_, ?_, HB1.out⟩⟩
        · rw [HT.out, ← HX.out, List.length_append, ← HN.out, rune_cells, List.length_map]
        · have h := HO1.out
          rw [HT.out, ← HX.out, List.map_append, ← rune_cells]
          exact h
      case measure => simp [intOf]; omega
    · obtain rfl : k = l.length := by omega
      have hcv := conv_own HO.out HN.out
      rw [List.take_length] at hcv
      clear hc
      go_wp2_with fail
      go_ret
      exact ⟨rfl, HB.out⟩
end Go.Proofs.YtnjgnbdebkckfaaGreatDoor.U1
namespace Go.Proofs.YtnjgnbdebkckfaaGreatDoor.P2
set_option maxRecDepth 100000
open Go.RowKit K1 K3 K5 K11 K12 K14 K20 K21 K22 K25 K30 K31 M0 U1 P1
attribute [local go_sem] cell_pastA froz_pastA
theorem ret_b {a b : Bool} (h : a = b) : Ending.returned (.bool a) = .returned (.bool b) := by rw [h]
def lowN (h : List UInt8) : Nat := (lowF h).toNat
def highN (h : List UInt8) : Nat := (highF h).toNat
theorem mayF_eq (h : List UInt8) (c : UInt8) : mayF h c = (decide (lowN h ≤ c.toNat) && decide (c.toNat ≤ highN h)) := by
  unfold mayF lowN highN
  simp only [UInt8.le_iff_toNat_le]
structure LoHi (h : List UInt8) (lo hi : Nat) : Prop where
  out : lowN h = lo ∧ highN h = hi
theorem lohi1 (x : UInt8) : LoHi [x] (if x.toNat = 224 then 160 else if x.toNat = 240 then 144 else 128) (if x.toNat = 237 then 159 else if x.toNat = 244 then 143 else 191) := by
  constructor
  unfold lowN highN lowF highF
  have e1 : ([x] = [(0xe0 : UInt8)]) = (x.toNat = 224) := by rw [List.cons.injEq, ← UInt8.toNat_inj]; simp
  have e2 : ([x] = [(0xf0 : UInt8)]) = (x.toNat = 240) := by rw [List.cons.injEq, ← UInt8.toNat_inj]; simp
  have e3 : ([x] = [(0xed : UInt8)]) = (x.toNat = 237) := by rw [List.cons.injEq, ← UInt8.toNat_inj]; simp
  have e4 : ([x] = [(0xf4 : UInt8)]) = (x.toNat = 244) := by rw [List.cons.injEq, ← UInt8.toNat_inj]; simp
  simp only [e1, e2, e3, e4]
  constructor
  · split <;> (try split) <;> rfl
  · split <;> (try split) <;> rfl
theorem lohi2 (x y : UInt8) (l : List UInt8) : LoHi (x :: y :: l) 128 191 := by
  constructor
  unfold lowN highN lowF highF
  simp
set_option maxHeartbeats 4000000 in
theorem may1 (x c : UInt8) (w : World) : Calls Tryz.prog 165 #[.string ⟨#[x]⟩, .int .u8 c.toNat] w fun e w' => e = .returned (.bool (mayF [x] c)) ∧ w' = w := by
  have hl := lohi1 x
  have hc : x.toNat = 224 ∨ x.toNat = 237 ∨ x.toNat = 240 ∨ x.toNat = 244 ∨ (x.toNat ≠ 224 ∧ x.toNat ≠ 237 ∧ x.toNat ≠ 240 ∧ x.toNat ≠ 244) := by omega
  rcases hc with hc | hc | hc | hc | ⟨n1, n2, n3, n4⟩
  · have HM : Hid (LoHi [x] 160 191) := Lib.hid (by rw [hc] at hl; exact hl)
    obtain rfl : x = 224 := by rw [← UInt8.toNat_inj]; exact hc
    have HM := Lib.hid HM.out.out
    clear hl hc
    by_cases m1 : 160 ≤ c.toNat
    · by_cases m2 : c.toNat ≤ 191
      · go_enter Tryz.func165, Tryz.ntmps165
        go_wp2_with fail
        go_ret
        exact ⟨ret_b (by rw [mayF_eq, HM.out.1, HM.out.2]; first | (simp [m1, m2]; done) | (simp [m1, m2]; omega)), rfl⟩
      · go_enter Tryz.func165, Tryz.ntmps165
        go_wp2_with fail
        go_ret
        exact ⟨ret_b (by rw [mayF_eq, HM.out.1, HM.out.2]; first | (simp [m1, m2]; done) | (simp [m1, m2]; omega)), rfl⟩
    · go_enter Tryz.func165, Tryz.ntmps165
      go_wp2_with fail
      go_ret
      exact ⟨ret_b (by rw [mayF_eq, HM.out.1, HM.out.2]; first | (simp [m1]; done) | (simp [m1]; omega)), rfl⟩
  · have HM : Hid (LoHi [x] 128 159) := Lib.hid (by rw [hc] at hl; exact hl)
    obtain rfl : x = 237 := by rw [← UInt8.toNat_inj]; exact hc
    have HM := Lib.hid HM.out.out
    clear hl hc
    by_cases m1 : 128 ≤ c.toNat
    · by_cases m2 : c.toNat ≤ 159
      · go_enter Tryz.func165, Tryz.ntmps165
        go_wp2_with fail
        go_ret
        exact ⟨ret_b (by rw [mayF_eq, HM.out.1, HM.out.2]; first | (simp [m1, m2]; done) | (simp [m1, m2]; omega)), rfl⟩
      · go_enter Tryz.func165, Tryz.ntmps165
        go_wp2_with fail
        go_ret
        exact ⟨ret_b (by rw [mayF_eq, HM.out.1, HM.out.2]; first | (simp [m1, m2]; done) | (simp [m1, m2]; omega)), rfl⟩
    · go_enter Tryz.func165, Tryz.ntmps165
      go_wp2_with fail
      go_ret
      exact ⟨ret_b (by rw [mayF_eq, HM.out.1, HM.out.2]; first | (simp [m1]; done) | (simp [m1]; omega)), rfl⟩
  · have HM : Hid (LoHi [x] 144 191) := Lib.hid (by rw [hc] at hl; exact hl)
    obtain rfl : x = 240 := by rw [← UInt8.toNat_inj]; exact hc
    have HM := Lib.hid HM.out.out
    clear hl hc
    by_cases m1 : 144 ≤ c.toNat
    · by_cases m2 : c.toNat ≤ 191
      · go_enter Tryz.func165, Tryz.ntmps165
        go_wp2_with fail
        go_ret
        exact ⟨ret_b (by rw [mayF_eq, HM.out.1, HM.out.2]; first | (simp [m1, m2]; done) | (simp [m1, m2]; omega)), rfl⟩
      · go_enter Tryz.func165, Tryz.ntmps165
        go_wp2_with fail
        go_ret
        exact ⟨ret_b (by rw [mayF_eq, HM.out.1, HM.out.2]; first | (simp [m1, m2]; done) | (simp [m1, m2]; omega)), rfl⟩
    · go_enter Tryz.func165, Tryz.ntmps165
      go_wp2_with fail
      go_ret
      exact ⟨ret_b (by rw [mayF_eq, HM.out.1, HM.out.2]; first | (simp [m1]; done) | (simp [m1]; omega)), rfl⟩
  · have HM : Hid (LoHi [x] 128 143) := Lib.hid (by rw [hc] at hl; exact hl)
    obtain rfl : x = 244 := by rw [← UInt8.toNat_inj]; exact hc
    have HM := Lib.hid HM.out.out
    clear hl hc
    by_cases m1 : 128 ≤ c.toNat
    · by_cases m2 : c.toNat ≤ 143
      · go_enter Tryz.func165, Tryz.ntmps165
        go_wp2_with fail
        go_ret
        exact ⟨ret_b (by rw [mayF_eq, HM.out.1, HM.out.2]; first | (simp [m1, m2]; done) | (simp [m1, m2]; omega)), rfl⟩
      · go_enter Tryz.func165, Tryz.ntmps165
        go_wp2_with fail
        go_ret
        exact ⟨ret_b (by rw [mayF_eq, HM.out.1, HM.out.2]; first | (simp [m1, m2]; done) | (simp [m1, m2]; omega)), rfl⟩
    · go_enter Tryz.func165, Tryz.ntmps165
      go_wp2_with fail
      go_ret
      exact ⟨ret_b (by rw [mayF_eq, HM.out.1, HM.out.2]; first | (simp [m1]; done) | (simp [m1]; omega)), rfl⟩
  · have HM := Lib.hid (show LoHi [x] 128 191 by simpa [n1, n2, n3, n4] using hl).out
    have d1 : (((((⟨#[x]⟩ : ByteArray)[0]'(by show 0 < 1; decide)).toNat : Nat) : Int) == 224) = false := by show ((x.toNat : Int) == 224) = false; simp; omega
    have d2 : (((((⟨#[x]⟩ : ByteArray)[0]'(by show 0 < 1; decide)).toNat : Nat) : Int) == 237) = false := by show ((x.toNat : Int) == 237) = false; simp; omega
    have d3 : (((((⟨#[x]⟩ : ByteArray)[0]'(by show 0 < 1; decide)).toNat : Nat) : Int) == 240) = false := by show ((x.toNat : Int) == 240) = false; simp; omega
    have d4 : (((((⟨#[x]⟩ : ByteArray)[0]'(by show 0 < 1; decide)).toNat : Nat) : Int) == 244) = false := by show ((x.toNat : Int) == 244) = false; simp; omega
    clear hl n1 n2 n3 n4
    by_cases m1 : 128 ≤ c.toNat
    · by_cases m2 : c.toNat ≤ 191
      · go_enter Tryz.func165, Tryz.ntmps165
        go_wp2_with fail
        go_ret
        exact ⟨ret_b (by rw [mayF_eq, HM.out.1, HM.out.2]; first | (simp [m1, m2]; done) | (simp [m1, m2]; omega)), rfl⟩
      · go_enter Tryz.func165, Tryz.ntmps165
        go_wp2_with fail
        go_ret
        exact ⟨ret_b (by rw [mayF_eq, HM.out.1, HM.out.2]; first | (simp [m1, m2]; done) | (simp [m1, m2]; omega)), rfl⟩
    · go_enter Tryz.func165, Tryz.ntmps165
      go_wp2_with fail
      go_ret
      exact ⟨ret_b (by rw [mayF_eq, HM.out.1, HM.out.2]; first | (simp [m1]; done) | (simp [m1]; omega)), rfl⟩
set_option maxHeartbeats 4000000 in
theorem may2 (x y : UInt8) (l : List UInt8) (c : UInt8) (w : World) (hl2 : l.length ≤ 10) : Calls Tryz.prog 165 #[.string ⟨(x :: y :: l).toArray⟩, .int .u8 c.toNat] w fun e w' => e = .returned (.bool (mayF (x :: y :: l) c)) ∧ w' = w := by
  have HM := Lib.hid (lohi2 x y l).out
  have hsz : (⟨(x :: y :: l).toArray⟩ : ByteArray).size = l.length + 2 := by simp [ByteArray.size]
  by_cases m1 : 128 ≤ c.toNat
  · by_cases m2 : c.toNat ≤ 191
    · go_enter Tryz.func165, Tryz.ntmps165
      go_wp2_with fail
      go_ret
      exact ⟨ret_b (by rw [mayF_eq, HM.out.1, HM.out.2]; first | (simp [m1, m2]; done) | (simp [m1, m2]; omega)), rfl⟩
    · go_enter Tryz.func165, Tryz.ntmps165
      go_wp2_with fail
      go_ret
      exact ⟨ret_b (by rw [mayF_eq, HM.out.1, HM.out.2]; first | (simp [m1, m2]; done) | (simp [m1, m2]; omega)), rfl⟩
  · go_enter Tryz.func165, Tryz.ntmps165
    go_wp2_with fail
    go_ret
    exact ⟨ret_b (by rw [mayF_eq, HM.out.1, HM.out.2]; first | (simp [m1]; done) | (simp [m1]; omega)), rfl⟩
theorem may_any (x : UInt8) (l : List UInt8) (c : UInt8) (w : World) (hl2 : l.length ≤ 10) : Calls Tryz.prog 165 #[.string ⟨(x :: l).toArray⟩, .int .u8 c.toNat] w fun e w' => e = .returned (.bool (mayF (x :: l) c)) ∧ Below w.heap.size w w' := by
  match l with
  | [] => exact (may1 x c w).mono fun e w' ⟨h1, h2⟩ => ⟨h1, h2 ▸ Below.refl _ _⟩
  | y :: l => exact (may2 x y l c w (by simp at hl2; omega)).mono fun e w' ⟨h1, h2⟩ => ⟨h1, h2 ▸ Below.refl _ _⟩
end Go.Proofs.YtnjgnbdebkckfaaGreatDoor.P2
namespace Go.Proofs.YtnjgnbdebkckfaaGreatDoor.U2
set_option maxRecDepth 100000
open Go.RowKit K1 K3 K5 K11 K12 K14 K20 K21 K22 K25 K30 K31 M0 C1 G1 G4 G7 G11 U1
attribute [local go_sem] cell_pastA froz_pastA
attribute [local go_sem] ceV
theorem infoR : (Tryz.prog.info? 21).map (fun i => (i.zero, i.size, i.bytes)) = some (some (.int .i32 0), 1, 4) := by kernel_rfl
theorem news_of1 {w : World} {b : Nat} {cs : List Value} (h : ∀ i, w.cell? ⟨b, i, none⟩ = cs[i]?) : ∀ j u, cs[j]? = some u → w.cell? ((⟨b, 0, none⟩ : Addr).add j) = some u := by
  intro j u hu
  have ha : (⟨b, 0, none⟩ : Addr).add j = ⟨b, j, none⟩ := by unfold Addr.add; split <;> simp_all
  rw [ha, h j]
  exact hu
def rvs (l : List Int) : List Value := l.map fun r => .int .i32 r
theorem text_w (v : Value) (n : Nat) (l : List Int) (w : World) (hn : n = l.length) (ho : w.ownsRow 0 21 1 v n (rvs l)) (hr : ∀ r ∈ l, -2147483648 ≤ r ∧ r ≤ 2147483647) (hl : l.length ≤ 1000000) :
    Calls Tryz.prog 97 #[v] w fun e w' => e = .returned (.string ⟨(textB l).toArray⟩) ∧ Below w.heap.size w w' := by
  subst hn
  rcases ho.2 with ⟨rfl, h0⟩ | ⟨g, cap, cur, rfl, _, hg, _⟩
  · obtain rfl : l = [] := List.length_eq_zero_iff.1 h0
    exact text_any none 0 0 0 [] w (.inl rfl) (fun r h => by cases h) (by simp) (fun h => absurd rfl h) ⟨fun k h => by simp at h⟩
  · obtain ⟨h1, _, h3, _, _⟩ := K30.row_cells ho
    refine text_any _ g 0 cap l w (.inr rfl) hr hl (fun _ => h3) ⟨fun k h => ?_⟩
    rw [Nat.zero_add, h1 k (by omega)]
    unfold rvs
    rw [List.getElem?_map, List.getElem?_eq_getElem h]
    rfl
structure ShowI (w : World) (L : List Ce) (v i : Value) (wr : World) : Prop where
  out : ∃ k : Nat, k ≤ L.length ∧ i = .int .i64 k ∧ Sep wr [.row v 21 1 k (rvs ((L.take k).map (·.r))), .low w.heap.size w]
set_option maxHeartbeats 4000000 in
theorem show_any (ad : Option Addr) (n cap : Nat) (L : List Ce) (w : World) (hn : L.length = n) (hs0 : 0 < n → SrcAt w ad L) (hr : ∀ c ∈ L, -2147483648 ≤ c.r ∧ c.r ≤ 2147483647) (hl : n ≤ 1000) :
    Calls Tryz.prog 71 #[.slice ad n cap] w fun e w' => e = .returned (.string ⟨(textB (L.map (·.r))).toArray⟩) ∧ Below w.heap.size w w' := by
  subst hn
  have HR := Lib.hid hr
  have HRR : Hid (∀ r ∈ L.map (·.r), -2147483648 ≤ r ∧ r ≤ 2147483647) := Lib.hid (by intro r h; obtain ⟨c, hc, rfl⟩ := List.mem_map.1 h; exact hr c hc)
  have HSRC := Lib.hid hs0
  obtain ⟨i0, ih, ia, ib, ic⟩ := info_parts infoR
  have iI := Lib.hid ih
  clear ih
  clear hr hs0
  go_enter Tryz.func71, Tryz.ntmps71
  go_wp2_with fail
  go_loopw [3, 8] (fun v i wr => ShowI w L v i wr) (fun _ i _ => L.length - (intOf i).toNat)
  case atStart => exact ⟨0, Nat.zero_le _, rfl, (Sep.start w).nilRow⟩
  case round =>
    obtain ⟨⟨k, hk, rfl, hs⟩⟩ := hrel
    have HS := Lib.hid hs
    clear hs
    by_cases hlt : k < L.length
    · obtain ⟨sb, so, rfl, hbw, hc⟩ := HSRC.out (by omega)
      have hbl := HS.out.lowAt 1 rfl
      have hex : ∀ j (u : Value), (ceV L[k])[j]? = some u → wr.cell? ⟨sb, so + k * 6 + j, none⟩ = some u := fun j u hu => by
        refine (World.cell?_of_block (hbl.block sb hbw)).trans ?_
        rw [Nat.add_assoc]
        refine hc _ _ ?_
        have h1 : (L.flatMap ceV).drop (k * 6) = (L.drop k).flatMap ceV := (enc_drop L k).symm
        rw [← List.getElem?_drop, h1, List.drop_eq_getElem_cons hlt, List.flatMap_cons, List.getElem?_append_left (List.getElem?_eq_some_iff.1 hu).1]
        exact hu
      obtain ⟨c, hcc⟩ : ∃ c, c = L[k] := ⟨_, rfl⟩
      rw [← hcc] at hex
      have hu0 : wr.cell? ⟨sb, so + k * 6, none⟩ = some (.int .i32 c.r) := hex 0 _ rfl
      have hu1 := hex 1 _ rfl
      have hu2 := hex 2 _ rfl
      have hu3 := hex 3 _ rfl
      have hu4 := hex 4 _ rfl
      have hu5 := hex 5 _ rfl
      have hbw2 : sb < wr.heap.size := Nat.lt_of_lt_of_le hbw hbl.size
      have HT : Hid ((L.take (k + 1)).map (·.r) = (L.take k).map (·.r) ++ [c.r]) := Lib.hid (by rw [List.take_succ_eq_append_getElem hlt, List.map_append, hcc]; rfl)
      obtain ⟨x, hx⟩ : ∃ x, x = c.r := ⟨_, rfl⟩
      rw [← hx] at hu0
      have HX := Lib.hid hx
      clear hex hcc hx hc hbl
      go_wp2_with (at_builtin; (with_reducible apply K30.list_at); exact K32.fnd; intro xw hs; (try simp only [World.size_alloc, World.size_setCell] at hs); have hnw := news_of1 (hs.here (cs := [.int .i32 x]) (t := 21) K32.rm).1; have hs := hs.pick (r1 := .row _ 21 1 k _) K32.rm; refine wpList_appS rfl (.tmp 12) (.tmp 15) 111 rfl 21 i0 (.int .i32 0) 1 4 Tryz.underlying111 iI.out ia ib ic rfl (by decide) _ k _ _ rfl hs ⟨_, 0, none⟩ 1 _ [.int .i32 x] rfl rfl hnw (by intro u hu; simp at hu; subst hu; rfl) (by omega) (by omega) (by decide) ?_; intro g2 cap2 w2 hs2 hz2; clear hs; have HS := Lib.hid hs2; clear hs2)
      go_roundw
      case rel =>
        refine ⟨⟨k + 1, by omega, by go_num, ?_⟩⟩
        rw [HT.out, ← HX.out]
        have h2 := HS.out
        unfold rvs at *
        rw [List.map_append]
        exact h2.end1 .here K32.sub
      case measure => simp [intOf]; omega
    · obtain rfl : k = L.length := by omega
      have hs := HS.out
      rw [List.take_length] at hs
      have HS := Lib.hid hs
      clear hs
      go_wp2_with (go_at_call 97; refine (text_w _ _ (L.map (·.r)) _ (by simp) (HS.out.rowAt 0 rfl) HRR.out (by simp; omega)).mono ?_; rintro e w1 ⟨rfl, hb⟩; have HS := Lib.hid (HS.out.below hb); clear hb)
      go_ret
      exact ⟨rfl, HS.out.lowAt 1 rfl⟩
end Go.Proofs.YtnjgnbdebkckfaaGreatDoor.U2
