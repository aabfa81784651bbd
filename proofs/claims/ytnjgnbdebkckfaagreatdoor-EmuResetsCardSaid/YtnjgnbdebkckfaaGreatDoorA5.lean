/- G6, G7, G8, G9 -/
import Derived.Test.YtnjgnbdebkckfaaGreatDoorA2
import Derived.Test.YtnjgnbdebkckfaaGreatDoorA4
import Derived.Lib.Hide
import Derived.Deep.DeepCutAuto
set_option linter.unusedVariables false
set_option linter.unusedSimpArgs false
set_option linter.unnecessarySimpa false
namespace Go.Proofs.YtnjgnbdebkckfaaGreatDoor.G6
set_option maxRecDepth 100000
open Go.RowKit K1 K3 K5 K11 K12 K14 K20 K21 K22 K25 K30 K31 M0 C1 G1 G2 G3 G4 G5
attribute [local go_sem] cell_pastA froz_pastA
attribute [local go_sem] ceV gcells
theorem more_nilk (k : Int) (c : Ce) (w : World) (hk : k = 0) : Calls Tryz.prog 100 #[.slice none 0 0, .int .i64 k, ceA c] w fun e w' => e = .returned (.tuple #[]) ∧ Below w.heap.size w w' := by
  subst hk; exact more_nil c 0 w
set_option maxHeartbeats 4000000 in
theorem Right_nil (b gb gc : Nat) (g : Gr) (x y k : Int) (z : Ce) (F : List Res) (w : World) (hs : Sep w (gL b gb gc g F)) (ok0 : GrOk g) (hx : x < 0 ∨ g.w ≤ x ∨ y < 0 ∨ g.h ≤ y) :
    Calls Tryz.prog 79 #[.pointer (some ⟨b, 0, none⟩), .int .i64 x, .int .i64 y, .int .i64 k, ceA z] w (GrP b gb gc g F) := by
  have hv : rowV g gb gc x y = .slice none 0 0 := by unfold rowV; rw [if_pos hx]
  have HV := Lib.hid hv
  have ok := Lib.hid ok0
  obtain ⟨hgc, hgm⟩ := gL_cap hs
  obtain ⟨hcG, hzG, hlG⟩ := hs.here (b := b) K32.rm
  have HS := Lib.hid hs
  obtain ⟨q1, q2, q3, q4, q5⟩ := ok0
  clear hs q5
  clear hv hx
  have hk : k < 0 ∨ k = 0 ∨ 0 < k := by omega
  rcases hk with hk | rfl | hk
  all_goals
    go_enter Tryz.func79, Tryz.ntmps79
    go_wp2_with (first | (go_at_call 72; (with_reducible apply K30.calls_at); exact K32.fndG; intro xw hs; (try simp only [World.size_alloc, World.size_setCell] at hs); (try clear hcG hzG hlG); (try clear hcB hzB hlB); obtain ⟨hcG, hzG, hlG⟩ := hs.here (b := b) K32.rm; obtain ⟨hcB, hzB, hlB⟩ := hs.here (b := w.heap.size) K32.rm; have hC := (row_w b gb gc g x y _ _ HV.out (GrAt.of hs K32.rm) ok.out hgc hgm); (with_reducible refine hC.mono ?_); clear hC; rintro e w1 ⟨rfl, hb⟩; have hs := hs.below hb; clear hb; (try clear hcG hzG hlG); (try clear hcB hzB hlB); obtain ⟨hcG, hzG, hlG⟩ := hs.here (b := b) K32.rm; obtain ⟨hcB, hzB, hlB⟩ := hs.here (b := w.heap.size) K32.rm; have HS := Lib.hid hs; clear hs) | (go_at_call 100; (with_reducible apply K30.calls_at); exact K32.fndG; intro xw hs; (try simp only [World.size_alloc, World.size_setCell] at hs); refine (more_nilk _ z _ (by omega)).mono ?_; rintro e w1 ⟨rfl, hb⟩; have hs := hs.below hb; clear hb; (try clear hcG hzG hlG); (try clear hcB hzB hlB); obtain ⟨hcG, hzG, hlG⟩ := hs.here (b := b) K32.rm; obtain ⟨hcB, hzB, hlB⟩ := hs.here (b := w.heap.size) K32.rm; have HS := Lib.hid hs; clear hs))
    go_end0
    refine ⟨rfl, ?_⟩
    ((with_reducible apply K30.sep_end); exact K32.fndG; intro hs; (try simp only [World.size_alloc, World.size_setCell] at hs); exact hs.end2 K32.rm K32.rm K32.sub)
set_option maxHeartbeats 4000000 in
theorem Right_yes (b gb gc : Nat) (g : Gr) (x y k : Int) (z : Ce) (F : List Res) (w : World) (o m n : Nat) (hs : Sep w (gL b gb gc g F)) (ok0 : GrOk g) (hv : rowV g gb gc x y = .slice (some ⟨gb, o * 6, none⟩) m (gc - o)) (hn : (k < 0 ∧ n ≤ 0) ∨ (0 ≤ k ∧ k ≤ m ∧ k ≤ n ∧ (n : Int) ≤ k) ∨ (0 ≤ k ∧ m < k ∧ n ≤ m ∧ m ≤ n)) (hm1 : 1 ≤ m) (hf : o + m ≤ g.c.length) (hl8 : g.c.length ≤ 800) :
    Calls Tryz.prog 79 #[.pointer (some ⟨b, 0, none⟩), .int .i64 x, .int .i64 y, .int .i64 k, ceA z] w (GrP b gb gc { g with c := splice g.c o (moreL (segm g.c o m) n z) } F) := by
  have HV := Lib.hid hv
  have ok := Lib.hid ok0
  obtain ⟨hgc, hgm⟩ := gL_cap hs
  obtain ⟨hcG, hzG, hlG⟩ := hs.here (b := b) K32.rm
  have HS := Lib.hid hs
  obtain ⟨q1, q2, q3, q4, q5⟩ := ok0
  clear hs q5
  have HE := Lib.hid (enc_more g.c o m n z hf (by omega))
  have HLN : Hid ((splice g.c o (moreL (segm g.c o m) n z)).length = g.c.length) := Lib.hid (by rw [length_splice _ _ _ (by rw [more_len _ _ _ (by rw [segm_len _ _ _ hf]; omega), segm_len _ _ _ hf]; exact hf)])
  obtain ⟨cp, hcp⟩ : ∃ cp, cp = gc - o := ⟨_, rfl⟩
  rw [← hcp] at HV
  have hmc : m ≤ cp := by omega
  have hcm : cp ≤ 9223372036854775807 := by omega
  have hm3 : m ≤ 1000 := by omega
  have hm4 : m ≤ 1000000 := by omega
  have hf6 : o * 6 + m * 6 ≤ g.c.length * 6 := by omega
  have hnm : n ≤ m := by omega
  clear hv hcp
  rcases hn with ⟨hn1, hn2⟩ | ⟨hn1, hn2, hn3, hn4⟩ | ⟨hn1, hn2, hn3, hn4⟩
  all_goals
    go_enter Tryz.func79, Tryz.ntmps79
    go_wp2_with (first | (go_at_call 72; (with_reducible apply K30.calls_at); exact K32.fndG; intro xw hs; (try simp only [World.size_alloc, World.size_setCell] at hs); (try clear hcG hzG hlG); (try clear hcB hzB hlB); obtain ⟨hcG, hzG, hlG⟩ := hs.here (b := b) K32.rm; obtain ⟨hcB, hzB, hlB⟩ := hs.here (b := w.heap.size) K32.rm; have hC := (row_w b gb gc g x y _ _ HV.out (GrAt.of hs K32.rm) ok.out hgc hgm); (with_reducible refine hC.mono ?_); clear hC; rintro e w1 ⟨rfl, hb⟩; have hs := hs.below hb; clear hb; (try clear hcG hzG hlG); (try clear hcB hzB hlB); obtain ⟨hcG, hzG, hlG⟩ := hs.here (b := b) K32.rm; obtain ⟨hcB, hzB, hlB⟩ := hs.here (b := w.heap.size) K32.rm; have HS := Lib.hid hs; clear hs) | (go_at_call 100; (with_reducible apply K30.calls_at); exact K32.fndG; intro xw hs; (try simp only [World.size_alloc, World.size_setCell] at hs); have hs := hs.pick (r1 := .row (.slice (some ⟨gb, 0, none⟩) g.c.length gc) 58 6 g.c.length (g.c.flatMap ceV)) K32.rm; refine (more_k gb g.c.length gc (o * 6) m n _ _ (g.c.flatMap ceV) z _ _ hs (by omega) hf6 hm1 hnm hmc hm4 hcm (one_ceV _)).mono ?_; clear hs; rintro e w1 ⟨rfl, hs⟩; (try clear hcG hzG hlG); (try clear hcB hzB hlB); obtain ⟨hcG, hzG, hlG⟩ := hs.here (b := b) K32.rm; obtain ⟨hcB, hzB, hlB⟩ := hs.here (b := w.heap.size) K32.rm; have HS := Lib.hid hs; clear hs))
    go_end0
    refine ⟨rfl, ?_⟩
    rw [gL_eq b gb gc g F _ _ HLN.out HE.out]
    ((with_reducible apply K30.sep_end); exact K32.fndG; intro hs; (try simp only [World.size_alloc, World.size_setCell] at hs); exact hs.end2 K32.rm K32.rm K32.sub)
theorem Right_any (b gb gc : Nat) (g : Gr) (x y k : Int) (z : Ce) (F : List Res) (w : World) (hs : Sep w (gL b gb gc g F)) (ok : GrOk g) : Calls Tryz.prog 79 #[.pointer (some ⟨b, 0, none⟩), .int .i64 x, .int .i64 y, .int .i64 k, ceA z] w (GrP b gb gc (rightG g x y k z) F) := by
  by_cases hx : x < 0 ∨ g.w ≤ x ∨ y < 0 ∨ g.h ≤ y
  · have e : rightG g x y k z = g := by
      unfold rightG rowO
      rw [if_pos hx]
      simp [segm, splice, moreL]
    rw [e]
    exact Right_nil b gb gc g x y k z F w hs ok hx
  · obtain ⟨p1, p2, p3, p4, p5, p6⟩ := ok.rowEnd (x := x) (y := y) (by omega) (by omega) (by omega) (by omega)
    have e : rightG g x y k z = { g with c := splice g.c (y * g.w + x).toNat (moreL (segm g.c (y * g.w + x).toNat (g.w - x).toNat) (min (max k 0).toNat (g.w - x).toNat) z) } := by
      unfold rightG rowO
      rw [if_neg hx]
    rw [e]
    have hm : (g.w - x).toNat + 0 = (g.w - x) := by omega
    exact Right_yes b gb gc g x y k z F w (y * g.w + x).toNat _ _ hs ok (by unfold rowV; rw [if_neg hx]) (by omega) (by omega) (by omega) p6
theorem less_nilk (k : Int) (c : Ce) (w : World) (hk : k = 0) : Calls Tryz.prog 138 #[.slice none 0 0, .int .i64 k, ceA c] w fun e w' => e = .returned (.tuple #[]) ∧ Below w.heap.size w w' := by
  subst hk; exact less_nil c 0 w
set_option maxHeartbeats 4000000 in
theorem Left_nil (b gb gc : Nat) (g : Gr) (x y k : Int) (z : Ce) (F : List Res) (w : World) (hs : Sep w (gL b gb gc g F)) (ok0 : GrOk g) (hx : x < 0 ∨ g.w ≤ x ∨ y < 0 ∨ g.h ≤ y) :
    Calls Tryz.prog 115 #[.pointer (some ⟨b, 0, none⟩), .int .i64 x, .int .i64 y, .int .i64 k, ceA z] w (GrP b gb gc g F) := by
  have hv : rowV g gb gc x y = .slice none 0 0 := by unfold rowV; rw [if_pos hx]
  have HV := Lib.hid hv
  have ok := Lib.hid ok0
  obtain ⟨hgc, hgm⟩ := gL_cap hs
  obtain ⟨hcG, hzG, hlG⟩ := hs.here (b := b) K32.rm
  have HS := Lib.hid hs
  obtain ⟨q1, q2, q3, q4, q5⟩ := ok0
  clear hs q5
  clear hv hx
  have hk : k < 0 ∨ k = 0 ∨ 0 < k := by omega
  rcases hk with hk | rfl | hk
  all_goals
    go_enter Tryz.func115, Tryz.ntmps115
    go_wp2_with (first | (go_at_call 72; (with_reducible apply K30.calls_at); exact K32.fndG; intro xw hs; (try simp only [World.size_alloc, World.size_setCell] at hs); (try clear hcG hzG hlG); (try clear hcB hzB hlB); obtain ⟨hcG, hzG, hlG⟩ := hs.here (b := b) K32.rm; obtain ⟨hcB, hzB, hlB⟩ := hs.here (b := w.heap.size) K32.rm; have hC := (row_w b gb gc g x y _ _ HV.out (GrAt.of hs K32.rm) ok.out hgc hgm); (with_reducible refine hC.mono ?_); clear hC; rintro e w1 ⟨rfl, hb⟩; have hs := hs.below hb; clear hb; (try clear hcG hzG hlG); (try clear hcB hzB hlB); obtain ⟨hcG, hzG, hlG⟩ := hs.here (b := b) K32.rm; obtain ⟨hcB, hzB, hlB⟩ := hs.here (b := w.heap.size) K32.rm; have HS := Lib.hid hs; clear hs) | (go_at_call 138; (with_reducible apply K30.calls_at); exact K32.fndG; intro xw hs; (try simp only [World.size_alloc, World.size_setCell] at hs); refine (less_nilk _ z _ (by omega)).mono ?_; rintro e w1 ⟨rfl, hb⟩; have hs := hs.below hb; clear hb; (try clear hcG hzG hlG); (try clear hcB hzB hlB); obtain ⟨hcG, hzG, hlG⟩ := hs.here (b := b) K32.rm; obtain ⟨hcB, hzB, hlB⟩ := hs.here (b := w.heap.size) K32.rm; have HS := Lib.hid hs; clear hs))
    go_end0
    refine ⟨rfl, ?_⟩
    ((with_reducible apply K30.sep_end); exact K32.fndG; intro hs; (try simp only [World.size_alloc, World.size_setCell] at hs); exact hs.end2 K32.rm K32.rm K32.sub)
set_option maxHeartbeats 4000000 in
theorem Left_yes (b gb gc : Nat) (g : Gr) (x y k : Int) (z : Ce) (F : List Res) (w : World) (o m n : Nat) (hs : Sep w (gL b gb gc g F)) (ok0 : GrOk g) (hv : rowV g gb gc x y = .slice (some ⟨gb, o * 6, none⟩) m (gc - o)) (hn : (k < 0 ∧ n ≤ 0) ∨ (0 ≤ k ∧ k ≤ m ∧ k ≤ n ∧ (n : Int) ≤ k) ∨ (0 ≤ k ∧ m < k ∧ n ≤ m ∧ m ≤ n)) (hm1 : 1 ≤ m) (hf : o + m ≤ g.c.length) (hl8 : g.c.length ≤ 800) :
    Calls Tryz.prog 115 #[.pointer (some ⟨b, 0, none⟩), .int .i64 x, .int .i64 y, .int .i64 k, ceA z] w (GrP b gb gc { g with c := splice g.c o (lessL (segm g.c o m) n z) } F) := by
  have HV := Lib.hid hv
  have ok := Lib.hid ok0
  obtain ⟨hgc, hgm⟩ := gL_cap hs
  obtain ⟨hcG, hzG, hlG⟩ := hs.here (b := b) K32.rm
  have HS := Lib.hid hs
  obtain ⟨q1, q2, q3, q4, q5⟩ := ok0
  clear hs q5
  have HE := Lib.hid (enc_less g.c o m n z hf (by omega))
  have HLN : Hid ((splice g.c o (lessL (segm g.c o m) n z)).length = g.c.length) := Lib.hid (by rw [length_splice _ _ _ (by rw [less_len _ _ _ (by rw [segm_len _ _ _ hf]; omega), segm_len _ _ _ hf]; exact hf)])
  obtain ⟨cp, hcp⟩ : ∃ cp, cp = gc - o := ⟨_, rfl⟩
  rw [← hcp] at HV
  have hmc : m ≤ cp := by omega
  have hcm : cp ≤ 9223372036854775807 := by omega
  have hm3 : m ≤ 1000 := by omega
  have hm4 : m ≤ 1000000 := by omega
  have hf6 : o * 6 + m * 6 ≤ g.c.length * 6 := by omega
  have hnm : n ≤ m := by omega
  clear hv hcp
  rcases hn with ⟨hn1, hn2⟩ | ⟨hn1, hn2, hn3, hn4⟩ | ⟨hn1, hn2, hn3, hn4⟩
  all_goals
    go_enter Tryz.func115, Tryz.ntmps115
    go_wp2_with (first | (go_at_call 72; (with_reducible apply K30.calls_at); exact K32.fndG; intro xw hs; (try simp only [World.size_alloc, World.size_setCell] at hs); (try clear hcG hzG hlG); (try clear hcB hzB hlB); obtain ⟨hcG, hzG, hlG⟩ := hs.here (b := b) K32.rm; obtain ⟨hcB, hzB, hlB⟩ := hs.here (b := w.heap.size) K32.rm; have hC := (row_w b gb gc g x y _ _ HV.out (GrAt.of hs K32.rm) ok.out hgc hgm); (with_reducible refine hC.mono ?_); clear hC; rintro e w1 ⟨rfl, hb⟩; have hs := hs.below hb; clear hb; (try clear hcG hzG hlG); (try clear hcB hzB hlB); obtain ⟨hcG, hzG, hlG⟩ := hs.here (b := b) K32.rm; obtain ⟨hcB, hzB, hlB⟩ := hs.here (b := w.heap.size) K32.rm; have HS := Lib.hid hs; clear hs) | (go_at_call 138; (with_reducible apply K30.calls_at); exact K32.fndG; intro xw hs; (try simp only [World.size_alloc, World.size_setCell] at hs); have hs := hs.pick (r1 := .row (.slice (some ⟨gb, 0, none⟩) g.c.length gc) 58 6 g.c.length (g.c.flatMap ceV)) K32.rm; refine (less_k gb g.c.length gc (o * 6) m n _ _ (g.c.flatMap ceV) z _ _ hs (by omega) hf6 hm1 hnm hmc hm4 hcm (one_ceV _)).mono ?_; clear hs; rintro e w1 ⟨rfl, hs⟩; (try clear hcG hzG hlG); (try clear hcB hzB hlB); obtain ⟨hcG, hzG, hlG⟩ := hs.here (b := b) K32.rm; obtain ⟨hcB, hzB, hlB⟩ := hs.here (b := w.heap.size) K32.rm; have HS := Lib.hid hs; clear hs))
    go_end0
    refine ⟨rfl, ?_⟩
    rw [gL_eq b gb gc g F _ _ HLN.out HE.out]
    ((with_reducible apply K30.sep_end); exact K32.fndG; intro hs; (try simp only [World.size_alloc, World.size_setCell] at hs); exact hs.end2 K32.rm K32.rm K32.sub)
theorem Left_any (b gb gc : Nat) (g : Gr) (x y k : Int) (z : Ce) (F : List Res) (w : World) (hs : Sep w (gL b gb gc g F)) (ok : GrOk g) : Calls Tryz.prog 115 #[.pointer (some ⟨b, 0, none⟩), .int .i64 x, .int .i64 y, .int .i64 k, ceA z] w (GrP b gb gc (leftG g x y k z) F) := by
  by_cases hx : x < 0 ∨ g.w ≤ x ∨ y < 0 ∨ g.h ≤ y
  · have e : leftG g x y k z = g := by
      unfold leftG rowO
      rw [if_pos hx]
      simp [segm, splice, lessL]
    rw [e]
    exact Left_nil b gb gc g x y k z F w hs ok hx
  · obtain ⟨p1, p2, p3, p4, p5, p6⟩ := ok.rowEnd (x := x) (y := y) (by omega) (by omega) (by omega) (by omega)
    have e : leftG g x y k z = { g with c := splice g.c (y * g.w + x).toNat (lessL (segm g.c (y * g.w + x).toNat (g.w - x).toNat) (min (max k 0).toNat (g.w - x).toNat) z) } := by
      unfold leftG rowO
      rw [if_neg hx]
    rw [e]
    have hm : (g.w - x).toNat + 0 = (g.w - x) := by omega
    exact Left_yes b gb gc g x y k z F w (y * g.w + x).toNat _ _ hs ok (by unfold rowV; rw [if_neg hx]) (by omega) (by omega) (by omega) p6
theorem enc_fill (l : List Ce) (o n : Nat) (z : Ce) : splice (l.flatMap ceV) (o * 6) (repC n z) = (splice l o (List.replicate n z)).flatMap ceV := by rw [enc_splice]; rfl
set_option maxHeartbeats 4000000 in
theorem FillN00 (b gb gc : Nat) (g : Gr) (from_ to_ : Int) (z : Ce) (F : List Res) (w : World) (hs : Sep w (gL b gb gc g F)) (ok0 : GrOk g) (a0 : from_ < 0) (b0 : to_ ≤ g.c.length) (hx : to_ ≤ 0) (hl8 : g.c.length ≤ 800) :
    Calls Tryz.prog 61 #[.pointer (some ⟨b, 0, none⟩), .int .i64 from_, .int .i64 to_, ceA z] w (GrP b gb gc g F) := by
  have ok := Lib.hid ok0
  obtain ⟨hgc, hgm⟩ := gL_cap hs
  obtain ⟨hcG, hzG, hlG⟩ := hs.here (b := b) K32.rm
  have HS := Lib.hid hs
  obtain ⟨q1, q2, q3, q4, q5⟩ := ok0
  clear hs q5
  go_enter Tryz.func61, Tryz.ntmps61
  go_wp2_with (first | (refine K30.atR (id := 2) ?_; (with_reducible apply K30.wp_at); exact K32.fndG; intro xw hs; (try simp only [World.size_alloc, World.size_setCell] at hs); (try clear hcG hzG hlG); (try clear hcB hzB hlB); obtain ⟨hcG, hzG, hlG⟩ := hs.here (b := b) K32.rm; obtain ⟨hcB, hzB, hlB⟩ := hs.here (b := w.heap.size) K32.rm; have HS := Lib.hid hs; clear hs; refine K32.reg0 (w := xw) [] [] 11 ?_; simp only [numbered, List.take_succ_cons, List.take_zero, List.drop_succ_cons, List.drop_zero, List.take_nil, List.drop_nil, Nat.reduceAdd]; (iterate 11 (refine K32.zd ?_; (try go_simp))); refine wz_nil ?_; intro wq hbq hLq; clear hLq ; have hcwq := cellA hbq; have hfwq := frozA hbq; have hzwq := hbq.size; (try simp at hzwq); have hs := HS.out.below hbq; (try clear hcG hzG hlG); (try clear hcB hzB hlB); obtain ⟨hcG, hzG, hlG⟩ := hs.here (b := b) K32.rm; obtain ⟨hcB, hzB, hlB⟩ := hs.here (b := w.heap.size) K32.rm; have HS := Lib.hid hs; clear hs hcwq hfwq hzwq hbq) | (refine K30.atR (id := 4) ?_; (with_reducible apply K30.wp_at); exact K32.fndG; intro xw hs; (try simp only [World.size_alloc, World.size_setCell] at hs); (try clear hcG hzG hlG); (try clear hcB hzB hlB); obtain ⟨hcG, hzG, hlG⟩ := hs.here (b := b) K32.rm; obtain ⟨hcB, hzB, hlB⟩ := hs.here (b := w.heap.size) K32.rm; have HS := Lib.hid hs; clear hs; refine K32.reg0 (w := xw) [] [] 8 ?_; simp only [numbered, List.take_succ_cons, List.take_zero, List.drop_succ_cons, List.drop_zero, List.take_nil, List.drop_nil, Nat.reduceAdd]; (iterate 8 (refine K32.zd ?_; (try go_simp))); refine wz_nil ?_; intro wq hbq hLq; clear hLq ; have hcwq := cellA hbq; have hfwq := frozA hbq; have hzwq := hbq.size; (try simp at hzwq); have hs := HS.out.below hbq; (try clear hcG hzG hlG); (try clear hcB hzB hlB); obtain ⟨hcG, hzG, hlG⟩ := hs.here (b := b) K32.rm; obtain ⟨hcB, hzB, hlB⟩ := hs.here (b := w.heap.size) K32.rm; have HS := Lib.hid hs; clear hs hcwq hfwq hzwq hbq))
  go_end0
  refine ⟨rfl, ?_⟩
  ((with_reducible apply K30.sep_end); exact K32.fndG; intro hs; (try simp only [World.size_alloc, World.size_setCell] at hs); exact hs.end2 K32.rm K32.rm K32.sub)
set_option maxHeartbeats 4000000 in
theorem FillY00 (b gb gc : Nat) (g : Gr) (from_ to_ : Int) (z : Ce) (F : List Res) (w : World) (o n : Nat) (hs : Sep w (gL b gb gc g F)) (ok0 : GrOk g) (a0 : from_ < 0) (b0 : to_ ≤ g.c.length) (hx : 0 < to_) (ho : (0) ≤ o ∧ (o : Int) ≤ 0) (hn : to_ - 0 ≤ n ∧ (n : Int) ≤ to_ - 0) (hl8 : g.c.length ≤ 800) :
    Calls Tryz.prog 61 #[.pointer (some ⟨b, 0, none⟩), .int .i64 from_, .int .i64 to_, ceA z] w (GrP b gb gc { g with c := splice g.c o (List.replicate n z) } F) := by
  have ok := Lib.hid ok0
  obtain ⟨hgc, hgm⟩ := gL_cap hs
  obtain ⟨hcG, hzG, hlG⟩ := hs.here (b := b) K32.rm
  have HS := Lib.hid hs
  obtain ⟨q1, q2, q3, q4, q5⟩ := ok0
  clear hs q5
  obtain ⟨ho1, ho2⟩ := ho
  obtain ⟨hn1, hn2⟩ := hn
  have HE := Lib.hid (enc_fill g.c o n z)
  have HLN : Hid ((splice g.c o (List.replicate n z)).length = g.c.length) := Lib.hid (by rw [length_splice _ _ _ (by rw [List.length_replicate]; omega)])
  have hf6 : o * 6 + n * 6 ≤ g.c.length * 6 := by omega
  go_enter Tryz.func61, Tryz.ntmps61
  go_wp2_with (first | (refine K30.atR (id := 2) ?_; (with_reducible apply K30.wp_at); exact K32.fndG; intro xw hs; (try simp only [World.size_alloc, World.size_setCell] at hs); (try clear hcG hzG hlG); (try clear hcB hzB hlB); obtain ⟨hcG, hzG, hlG⟩ := hs.here (b := b) K32.rm; obtain ⟨hcB, hzB, hlB⟩ := hs.here (b := w.heap.size) K32.rm; have HS := Lib.hid hs; clear hs; refine K32.reg0 (w := xw) [] [] 11 ?_; simp only [numbered, List.take_succ_cons, List.take_zero, List.drop_succ_cons, List.drop_zero, List.take_nil, List.drop_nil, Nat.reduceAdd]; (iterate 11 (refine K32.zd ?_; (try go_simp))); refine wz_nil ?_; intro wq hbq hLq; clear hLq ; have hcwq := cellA hbq; have hfwq := frozA hbq; have hzwq := hbq.size; (try simp at hzwq); have hs := HS.out.below hbq; (try clear hcG hzG hlG); (try clear hcB hzB hlB); obtain ⟨hcG, hzG, hlG⟩ := hs.here (b := b) K32.rm; obtain ⟨hcB, hzB, hlB⟩ := hs.here (b := w.heap.size) K32.rm; have HS := Lib.hid hs; clear hs hcwq hfwq hzwq hbq) | (refine K30.atR (id := 4) ?_; (with_reducible apply K30.wp_at); exact K32.fndG; intro xw hs; (try simp only [World.size_alloc, World.size_setCell] at hs); (try clear hcG hzG hlG); (try clear hcB hzB hlB); obtain ⟨hcG, hzG, hlG⟩ := hs.here (b := b) K32.rm; obtain ⟨hcB, hzB, hlB⟩ := hs.here (b := w.heap.size) K32.rm; have HS := Lib.hid hs; clear hs; refine K32.reg0 (w := xw) [] [] 8 ?_; simp only [numbered, List.take_succ_cons, List.take_zero, List.drop_succ_cons, List.drop_zero, List.take_nil, List.drop_nil, Nat.reduceAdd]; (iterate 8 (refine K32.zd ?_; (try go_simp))); refine wz_nil ?_; intro wq hbq hLq; clear hLq ; have hcwq := cellA hbq; have hfwq := frozA hbq; have hzwq := hbq.size; (try simp at hzwq); have hs := HS.out.below hbq; (try clear hcG hzG hlG); (try clear hcB hzB hlB); obtain ⟨hcG, hzG, hlG⟩ := hs.here (b := b) K32.rm; obtain ⟨hcB, hzB, hlB⟩ := hs.here (b := w.heap.size) K32.rm; have HS := Lib.hid hs; clear hs hcwq hfwq hzwq hbq) | (go_at_call 76; (with_reducible apply K30.calls_at); exact K32.fndG; intro xw hs; (try simp only [World.size_alloc, World.size_setCell] at hs); have hs := hs.pick (r1 := .row (.slice (some ⟨gb, 0, none⟩) g.c.length gc) 58 6 g.c.length (g.c.flatMap ceV)) K32.rm; refine (fill_k gb g.c.length gc (o * 6) _ n _ _ (g.c.flatMap ceV) z _ _ hs (by omega) (by first | (right; rfl) | (right; congr 2; omega) | (left; omega)) hf6 (by omega)).mono ?_; clear hs; rintro e w1 ⟨rfl, hs⟩; (try clear hcG hzG hlG); (try clear hcB hzB hlB); obtain ⟨hcG, hzG, hlG⟩ := hs.here (b := b) K32.rm; obtain ⟨hcB, hzB, hlB⟩ := hs.here (b := w.heap.size) K32.rm; have HS := Lib.hid hs; clear hs))
  go_end0
  refine ⟨rfl, ?_⟩
  rw [gL_eq b gb gc g F _ _ HLN.out HE.out]
  ((with_reducible apply K30.sep_end); exact K32.fndG; intro hs; (try simp only [World.size_alloc, World.size_setCell] at hs); exact hs.end2 K32.rm K32.rm K32.sub)
set_option maxHeartbeats 4000000 in
theorem FillN01 (b gb gc : Nat) (g : Gr) (from_ to_ : Int) (z : Ce) (F : List Res) (w : World) (hs : Sep w (gL b gb gc g F)) (ok0 : GrOk g) (a0 : from_ < 0) (b0 : g.c.length < to_) (hx : (g.c.length : Int) ≤ 0) (hl8 : g.c.length ≤ 800) :
    Calls Tryz.prog 61 #[.pointer (some ⟨b, 0, none⟩), .int .i64 from_, .int .i64 to_, ceA z] w (GrP b gb gc g F) := by
  have ok := Lib.hid ok0
  obtain ⟨hgc, hgm⟩ := gL_cap hs
  obtain ⟨hcG, hzG, hlG⟩ := hs.here (b := b) K32.rm
  have HS := Lib.hid hs
  obtain ⟨q1, q2, q3, q4, q5⟩ := ok0
  clear hs q5
  go_enter Tryz.func61, Tryz.ntmps61
  go_wp2_with (first | (refine K30.atR (id := 2) ?_; (with_reducible apply K30.wp_at); exact K32.fndG; intro xw hs; (try simp only [World.size_alloc, World.size_setCell] at hs); (try clear hcG hzG hlG); (try clear hcB hzB hlB); obtain ⟨hcG, hzG, hlG⟩ := hs.here (b := b) K32.rm; obtain ⟨hcB, hzB, hlB⟩ := hs.here (b := w.heap.size) K32.rm; have HS := Lib.hid hs; clear hs; refine K32.reg0 (w := xw) [] [] 11 ?_; simp only [numbered, List.take_succ_cons, List.take_zero, List.drop_succ_cons, List.drop_zero, List.take_nil, List.drop_nil, Nat.reduceAdd]; (iterate 11 (refine K32.zd ?_; (try go_simp))); refine wz_nil ?_; intro wq hbq hLq; clear hLq ; have hcwq := cellA hbq; have hfwq := frozA hbq; have hzwq := hbq.size; (try simp at hzwq); have hs := HS.out.below hbq; (try clear hcG hzG hlG); (try clear hcB hzB hlB); obtain ⟨hcG, hzG, hlG⟩ := hs.here (b := b) K32.rm; obtain ⟨hcB, hzB, hlB⟩ := hs.here (b := w.heap.size) K32.rm; have HS := Lib.hid hs; clear hs hcwq hfwq hzwq hbq) | (refine K30.atR (id := 4) ?_; (with_reducible apply K30.wp_at); exact K32.fndG; intro xw hs; (try simp only [World.size_alloc, World.size_setCell] at hs); (try clear hcG hzG hlG); (try clear hcB hzB hlB); obtain ⟨hcG, hzG, hlG⟩ := hs.here (b := b) K32.rm; obtain ⟨hcB, hzB, hlB⟩ := hs.here (b := w.heap.size) K32.rm; have HS := Lib.hid hs; clear hs; refine K32.reg0 (w := xw) [] [] 8 ?_; simp only [numbered, List.take_succ_cons, List.take_zero, List.drop_succ_cons, List.drop_zero, List.take_nil, List.drop_nil, Nat.reduceAdd]; (iterate 8 (refine K32.zd ?_; (try go_simp))); refine wz_nil ?_; intro wq hbq hLq; clear hLq ; have hcwq := cellA hbq; have hfwq := frozA hbq; have hzwq := hbq.size; (try simp at hzwq); have hs := HS.out.below hbq; (try clear hcG hzG hlG); (try clear hcB hzB hlB); obtain ⟨hcG, hzG, hlG⟩ := hs.here (b := b) K32.rm; obtain ⟨hcB, hzB, hlB⟩ := hs.here (b := w.heap.size) K32.rm; have HS := Lib.hid hs; clear hs hcwq hfwq hzwq hbq))
  go_end0
  refine ⟨rfl, ?_⟩
  ((with_reducible apply K30.sep_end); exact K32.fndG; intro hs; (try simp only [World.size_alloc, World.size_setCell] at hs); exact hs.end2 K32.rm K32.rm K32.sub)
set_option maxHeartbeats 4000000 in
theorem FillY01 (b gb gc : Nat) (g : Gr) (from_ to_ : Int) (z : Ce) (F : List Res) (w : World) (o n : Nat) (hs : Sep w (gL b gb gc g F)) (ok0 : GrOk g) (a0 : from_ < 0) (b0 : g.c.length < to_) (hx : 0 < (g.c.length : Int)) (ho : (0) ≤ o ∧ (o : Int) ≤ 0) (hn : (g.c.length : Int) - 0 ≤ n ∧ (n : Int) ≤ (g.c.length : Int) - 0) (hl8 : g.c.length ≤ 800) :
    Calls Tryz.prog 61 #[.pointer (some ⟨b, 0, none⟩), .int .i64 from_, .int .i64 to_, ceA z] w (GrP b gb gc { g with c := splice g.c o (List.replicate n z) } F) := by
  have ok := Lib.hid ok0
  obtain ⟨hgc, hgm⟩ := gL_cap hs
  obtain ⟨hcG, hzG, hlG⟩ := hs.here (b := b) K32.rm
  have HS := Lib.hid hs
  obtain ⟨q1, q2, q3, q4, q5⟩ := ok0
  clear hs q5
  obtain ⟨ho1, ho2⟩ := ho
  obtain ⟨hn1, hn2⟩ := hn
  have HE := Lib.hid (enc_fill g.c o n z)
  have HLN : Hid ((splice g.c o (List.replicate n z)).length = g.c.length) := Lib.hid (by rw [length_splice _ _ _ (by rw [List.length_replicate]; omega)])
  have hf6 : o * 6 + n * 6 ≤ g.c.length * 6 := by omega
  go_enter Tryz.func61, Tryz.ntmps61
  go_wp2_with (first | (refine K30.atR (id := 2) ?_; (with_reducible apply K30.wp_at); exact K32.fndG; intro xw hs; (try simp only [World.size_alloc, World.size_setCell] at hs); (try clear hcG hzG hlG); (try clear hcB hzB hlB); obtain ⟨hcG, hzG, hlG⟩ := hs.here (b := b) K32.rm; obtain ⟨hcB, hzB, hlB⟩ := hs.here (b := w.heap.size) K32.rm; have HS := Lib.hid hs; clear hs; refine K32.reg0 (w := xw) [] [] 11 ?_; simp only [numbered, List.take_succ_cons, List.take_zero, List.drop_succ_cons, List.drop_zero, List.take_nil, List.drop_nil, Nat.reduceAdd]; (iterate 11 (refine K32.zd ?_; (try go_simp))); refine wz_nil ?_; intro wq hbq hLq; clear hLq ; have hcwq := cellA hbq; have hfwq := frozA hbq; have hzwq := hbq.size; (try simp at hzwq); have hs := HS.out.below hbq; (try clear hcG hzG hlG); (try clear hcB hzB hlB); obtain ⟨hcG, hzG, hlG⟩ := hs.here (b := b) K32.rm; obtain ⟨hcB, hzB, hlB⟩ := hs.here (b := w.heap.size) K32.rm; have HS := Lib.hid hs; clear hs hcwq hfwq hzwq hbq) | (refine K30.atR (id := 4) ?_; (with_reducible apply K30.wp_at); exact K32.fndG; intro xw hs; (try simp only [World.size_alloc, World.size_setCell] at hs); (try clear hcG hzG hlG); (try clear hcB hzB hlB); obtain ⟨hcG, hzG, hlG⟩ := hs.here (b := b) K32.rm; obtain ⟨hcB, hzB, hlB⟩ := hs.here (b := w.heap.size) K32.rm; have HS := Lib.hid hs; clear hs; refine K32.reg0 (w := xw) [] [] 8 ?_; simp only [numbered, List.take_succ_cons, List.take_zero, List.drop_succ_cons, List.drop_zero, List.take_nil, List.drop_nil, Nat.reduceAdd]; (iterate 8 (refine K32.zd ?_; (try go_simp))); refine wz_nil ?_; intro wq hbq hLq; clear hLq ; have hcwq := cellA hbq; have hfwq := frozA hbq; have hzwq := hbq.size; (try simp at hzwq); have hs := HS.out.below hbq; (try clear hcG hzG hlG); (try clear hcB hzB hlB); obtain ⟨hcG, hzG, hlG⟩ := hs.here (b := b) K32.rm; obtain ⟨hcB, hzB, hlB⟩ := hs.here (b := w.heap.size) K32.rm; have HS := Lib.hid hs; clear hs hcwq hfwq hzwq hbq) | (go_at_call 76; (with_reducible apply K30.calls_at); exact K32.fndG; intro xw hs; (try simp only [World.size_alloc, World.size_setCell] at hs); have hs := hs.pick (r1 := .row (.slice (some ⟨gb, 0, none⟩) g.c.length gc) 58 6 g.c.length (g.c.flatMap ceV)) K32.rm; refine (fill_k gb g.c.length gc (o * 6) _ n _ _ (g.c.flatMap ceV) z _ _ hs (by omega) (by first | (right; rfl) | (right; congr 2; omega) | (left; omega)) hf6 (by omega)).mono ?_; clear hs; rintro e w1 ⟨rfl, hs⟩; (try clear hcG hzG hlG); (try clear hcB hzB hlB); obtain ⟨hcG, hzG, hlG⟩ := hs.here (b := b) K32.rm; obtain ⟨hcB, hzB, hlB⟩ := hs.here (b := w.heap.size) K32.rm; have HS := Lib.hid hs; clear hs))
  go_end0
  refine ⟨rfl, ?_⟩
  rw [gL_eq b gb gc g F _ _ HLN.out HE.out]
  ((with_reducible apply K30.sep_end); exact K32.fndG; intro hs; (try simp only [World.size_alloc, World.size_setCell] at hs); exact hs.end2 K32.rm K32.rm K32.sub)
set_option maxHeartbeats 4000000 in
theorem FillN10 (b gb gc : Nat) (g : Gr) (from_ to_ : Int) (z : Ce) (F : List Res) (w : World) (hs : Sep w (gL b gb gc g F)) (ok0 : GrOk g) (a0 : 0 ≤ from_) (b0 : to_ ≤ g.c.length) (hx : to_ ≤ from_) (hl8 : g.c.length ≤ 800) :
    Calls Tryz.prog 61 #[.pointer (some ⟨b, 0, none⟩), .int .i64 from_, .int .i64 to_, ceA z] w (GrP b gb gc g F) := by
  have ok := Lib.hid ok0
  obtain ⟨hgc, hgm⟩ := gL_cap hs
  obtain ⟨hcG, hzG, hlG⟩ := hs.here (b := b) K32.rm
  have HS := Lib.hid hs
  obtain ⟨q1, q2, q3, q4, q5⟩ := ok0
  clear hs q5
  go_enter Tryz.func61, Tryz.ntmps61
  go_wp2_with (first | (refine K30.atR (id := 2) ?_; (with_reducible apply K30.wp_at); exact K32.fndG; intro xw hs; (try simp only [World.size_alloc, World.size_setCell] at hs); (try clear hcG hzG hlG); (try clear hcB hzB hlB); obtain ⟨hcG, hzG, hlG⟩ := hs.here (b := b) K32.rm; obtain ⟨hcB, hzB, hlB⟩ := hs.here (b := w.heap.size) K32.rm; have HS := Lib.hid hs; clear hs; refine K32.reg0 (w := xw) [] [] 11 ?_; simp only [numbered, List.take_succ_cons, List.take_zero, List.drop_succ_cons, List.drop_zero, List.take_nil, List.drop_nil, Nat.reduceAdd]; (iterate 11 (refine K32.zd ?_; (try go_simp))); refine wz_nil ?_; intro wq hbq hLq; clear hLq ; have hcwq := cellA hbq; have hfwq := frozA hbq; have hzwq := hbq.size; (try simp at hzwq); have hs := HS.out.below hbq; (try clear hcG hzG hlG); (try clear hcB hzB hlB); obtain ⟨hcG, hzG, hlG⟩ := hs.here (b := b) K32.rm; obtain ⟨hcB, hzB, hlB⟩ := hs.here (b := w.heap.size) K32.rm; have HS := Lib.hid hs; clear hs hcwq hfwq hzwq hbq) | (refine K30.atR (id := 4) ?_; (with_reducible apply K30.wp_at); exact K32.fndG; intro xw hs; (try simp only [World.size_alloc, World.size_setCell] at hs); (try clear hcG hzG hlG); (try clear hcB hzB hlB); obtain ⟨hcG, hzG, hlG⟩ := hs.here (b := b) K32.rm; obtain ⟨hcB, hzB, hlB⟩ := hs.here (b := w.heap.size) K32.rm; have HS := Lib.hid hs; clear hs; refine K32.reg0 (w := xw) [] [] 8 ?_; simp only [numbered, List.take_succ_cons, List.take_zero, List.drop_succ_cons, List.drop_zero, List.take_nil, List.drop_nil, Nat.reduceAdd]; (iterate 8 (refine K32.zd ?_; (try go_simp))); refine wz_nil ?_; intro wq hbq hLq; clear hLq ; have hcwq := cellA hbq; have hfwq := frozA hbq; have hzwq := hbq.size; (try simp at hzwq); have hs := HS.out.below hbq; (try clear hcG hzG hlG); (try clear hcB hzB hlB); obtain ⟨hcG, hzG, hlG⟩ := hs.here (b := b) K32.rm; obtain ⟨hcB, hzB, hlB⟩ := hs.here (b := w.heap.size) K32.rm; have HS := Lib.hid hs; clear hs hcwq hfwq hzwq hbq))
  go_end0
  refine ⟨rfl, ?_⟩
  ((with_reducible apply K30.sep_end); exact K32.fndG; intro hs; (try simp only [World.size_alloc, World.size_setCell] at hs); exact hs.end2 K32.rm K32.rm K32.sub)
set_option maxHeartbeats 4000000 in
theorem FillY10 (b gb gc : Nat) (g : Gr) (from_ to_ : Int) (z : Ce) (F : List Res) (w : World) (o n : Nat) (hs : Sep w (gL b gb gc g F)) (ok0 : GrOk g) (a0 : 0 ≤ from_) (b0 : to_ ≤ g.c.length) (hx : from_ < to_) (ho : (from_) ≤ o ∧ (o : Int) ≤ from_) (hn : to_ - from_ ≤ n ∧ (n : Int) ≤ to_ - from_) (hl8 : g.c.length ≤ 800) :
    Calls Tryz.prog 61 #[.pointer (some ⟨b, 0, none⟩), .int .i64 from_, .int .i64 to_, ceA z] w (GrP b gb gc { g with c := splice g.c o (List.replicate n z) } F) := by
  have ok := Lib.hid ok0
  obtain ⟨hgc, hgm⟩ := gL_cap hs
  obtain ⟨hcG, hzG, hlG⟩ := hs.here (b := b) K32.rm
  have HS := Lib.hid hs
  obtain ⟨q1, q2, q3, q4, q5⟩ := ok0
  clear hs q5
  obtain ⟨ho1, ho2⟩ := ho
  obtain ⟨hn1, hn2⟩ := hn
  have HE := Lib.hid (enc_fill g.c o n z)
  have HLN : Hid ((splice g.c o (List.replicate n z)).length = g.c.length) := Lib.hid (by rw [length_splice _ _ _ (by rw [List.length_replicate]; omega)])
  have hf6 : o * 6 + n * 6 ≤ g.c.length * 6 := by omega
  go_enter Tryz.func61, Tryz.ntmps61
  go_wp2_with (first | (refine K30.atR (id := 2) ?_; (with_reducible apply K30.wp_at); exact K32.fndG; intro xw hs; (try simp only [World.size_alloc, World.size_setCell] at hs); (try clear hcG hzG hlG); (try clear hcB hzB hlB); obtain ⟨hcG, hzG, hlG⟩ := hs.here (b := b) K32.rm; obtain ⟨hcB, hzB, hlB⟩ := hs.here (b := w.heap.size) K32.rm; have HS := Lib.hid hs; clear hs; refine K32.reg0 (w := xw) [] [] 11 ?_; simp only [numbered, List.take_succ_cons, List.take_zero, List.drop_succ_cons, List.drop_zero, List.take_nil, List.drop_nil, Nat.reduceAdd]; (iterate 11 (refine K32.zd ?_; (try go_simp))); refine wz_nil ?_; intro wq hbq hLq; clear hLq ; have hcwq := cellA hbq; have hfwq := frozA hbq; have hzwq := hbq.size; (try simp at hzwq); have hs := HS.out.below hbq; (try clear hcG hzG hlG); (try clear hcB hzB hlB); obtain ⟨hcG, hzG, hlG⟩ := hs.here (b := b) K32.rm; obtain ⟨hcB, hzB, hlB⟩ := hs.here (b := w.heap.size) K32.rm; have HS := Lib.hid hs; clear hs hcwq hfwq hzwq hbq) | (refine K30.atR (id := 4) ?_; (with_reducible apply K30.wp_at); exact K32.fndG; intro xw hs; (try simp only [World.size_alloc, World.size_setCell] at hs); (try clear hcG hzG hlG); (try clear hcB hzB hlB); obtain ⟨hcG, hzG, hlG⟩ := hs.here (b := b) K32.rm; obtain ⟨hcB, hzB, hlB⟩ := hs.here (b := w.heap.size) K32.rm; have HS := Lib.hid hs; clear hs; refine K32.reg0 (w := xw) [] [] 8 ?_; simp only [numbered, List.take_succ_cons, List.take_zero, List.drop_succ_cons, List.drop_zero, List.take_nil, List.drop_nil, Nat.reduceAdd]; (iterate 8 (refine K32.zd ?_; (try go_simp))); refine wz_nil ?_; intro wq hbq hLq; clear hLq ; have hcwq := cellA hbq; have hfwq := frozA hbq; have hzwq := hbq.size; (try simp at hzwq); have hs := HS.out.below hbq; (try clear hcG hzG hlG); (try clear hcB hzB hlB); obtain ⟨hcG, hzG, hlG⟩ := hs.here (b := b) K32.rm; obtain ⟨hcB, hzB, hlB⟩ := hs.here (b := w.heap.size) K32.rm; have HS := Lib.hid hs; clear hs hcwq hfwq hzwq hbq) | (go_at_call 76; (with_reducible apply K30.calls_at); exact K32.fndG; intro xw hs; (try simp only [World.size_alloc, World.size_setCell] at hs); have hs := hs.pick (r1 := .row (.slice (some ⟨gb, 0, none⟩) g.c.length gc) 58 6 g.c.length (g.c.flatMap ceV)) K32.rm; refine (fill_k gb g.c.length gc (o * 6) _ n _ _ (g.c.flatMap ceV) z _ _ hs (by omega) (by first | (right; rfl) | (right; congr 2; omega) | (left; omega)) hf6 (by omega)).mono ?_; clear hs; rintro e w1 ⟨rfl, hs⟩; (try clear hcG hzG hlG); (try clear hcB hzB hlB); obtain ⟨hcG, hzG, hlG⟩ := hs.here (b := b) K32.rm; obtain ⟨hcB, hzB, hlB⟩ := hs.here (b := w.heap.size) K32.rm; have HS := Lib.hid hs; clear hs))
  go_end0
  refine ⟨rfl, ?_⟩
  rw [gL_eq b gb gc g F _ _ HLN.out HE.out]
  ((with_reducible apply K30.sep_end); exact K32.fndG; intro hs; (try simp only [World.size_alloc, World.size_setCell] at hs); exact hs.end2 K32.rm K32.rm K32.sub)
set_option maxHeartbeats 4000000 in
theorem FillN11 (b gb gc : Nat) (g : Gr) (from_ to_ : Int) (z : Ce) (F : List Res) (w : World) (hs : Sep w (gL b gb gc g F)) (ok0 : GrOk g) (a0 : 0 ≤ from_) (b0 : g.c.length < to_) (hx : (g.c.length : Int) ≤ from_) (hl8 : g.c.length ≤ 800) :
    Calls Tryz.prog 61 #[.pointer (some ⟨b, 0, none⟩), .int .i64 from_, .int .i64 to_, ceA z] w (GrP b gb gc g F) := by
  have ok := Lib.hid ok0
  obtain ⟨hgc, hgm⟩ := gL_cap hs
  obtain ⟨hcG, hzG, hlG⟩ := hs.here (b := b) K32.rm
  have HS := Lib.hid hs
  obtain ⟨q1, q2, q3, q4, q5⟩ := ok0
  clear hs q5
  go_enter Tryz.func61, Tryz.ntmps61
  go_wp2_with (first | (refine K30.atR (id := 2) ?_; (with_reducible apply K30.wp_at); exact K32.fndG; intro xw hs; (try simp only [World.size_alloc, World.size_setCell] at hs); (try clear hcG hzG hlG); (try clear hcB hzB hlB); obtain ⟨hcG, hzG, hlG⟩ := hs.here (b := b) K32.rm; obtain ⟨hcB, hzB, hlB⟩ := hs.here (b := w.heap.size) K32.rm; have HS := Lib.hid hs; clear hs; refine K32.reg0 (w := xw) [] [] 11 ?_; simp only [numbered, List.take_succ_cons, List.take_zero, List.drop_succ_cons, List.drop_zero, List.take_nil, List.drop_nil, Nat.reduceAdd]; (iterate 11 (refine K32.zd ?_; (try go_simp))); refine wz_nil ?_; intro wq hbq hLq; clear hLq ; have hcwq := cellA hbq; have hfwq := frozA hbq; have hzwq := hbq.size; (try simp at hzwq); have hs := HS.out.below hbq; (try clear hcG hzG hlG); (try clear hcB hzB hlB); obtain ⟨hcG, hzG, hlG⟩ := hs.here (b := b) K32.rm; obtain ⟨hcB, hzB, hlB⟩ := hs.here (b := w.heap.size) K32.rm; have HS := Lib.hid hs; clear hs hcwq hfwq hzwq hbq) | (refine K30.atR (id := 4) ?_; (with_reducible apply K30.wp_at); exact K32.fndG; intro xw hs; (try simp only [World.size_alloc, World.size_setCell] at hs); (try clear hcG hzG hlG); (try clear hcB hzB hlB); obtain ⟨hcG, hzG, hlG⟩ := hs.here (b := b) K32.rm; obtain ⟨hcB, hzB, hlB⟩ := hs.here (b := w.heap.size) K32.rm; have HS := Lib.hid hs; clear hs; refine K32.reg0 (w := xw) [] [] 8 ?_; simp only [numbered, List.take_succ_cons, List.take_zero, List.drop_succ_cons, List.drop_zero, List.take_nil, List.drop_nil, Nat.reduceAdd]; (iterate 8 (refine K32.zd ?_; (try go_simp))); refine wz_nil ?_; intro wq hbq hLq; clear hLq ; have hcwq := cellA hbq; have hfwq := frozA hbq; have hzwq := hbq.size; (try simp at hzwq); have hs := HS.out.below hbq; (try clear hcG hzG hlG); (try clear hcB hzB hlB); obtain ⟨hcG, hzG, hlG⟩ := hs.here (b := b) K32.rm; obtain ⟨hcB, hzB, hlB⟩ := hs.here (b := w.heap.size) K32.rm; have HS := Lib.hid hs; clear hs hcwq hfwq hzwq hbq))
  go_end0
  refine ⟨rfl, ?_⟩
  ((with_reducible apply K30.sep_end); exact K32.fndG; intro hs; (try simp only [World.size_alloc, World.size_setCell] at hs); exact hs.end2 K32.rm K32.rm K32.sub)
set_option maxHeartbeats 4000000 in
theorem FillY11 (b gb gc : Nat) (g : Gr) (from_ to_ : Int) (z : Ce) (F : List Res) (w : World) (o n : Nat) (hs : Sep w (gL b gb gc g F)) (ok0 : GrOk g) (a0 : 0 ≤ from_) (b0 : g.c.length < to_) (hx : from_ < (g.c.length : Int)) (ho : (from_) ≤ o ∧ (o : Int) ≤ from_) (hn : (g.c.length : Int) - from_ ≤ n ∧ (n : Int) ≤ (g.c.length : Int) - from_) (hl8 : g.c.length ≤ 800) :
    Calls Tryz.prog 61 #[.pointer (some ⟨b, 0, none⟩), .int .i64 from_, .int .i64 to_, ceA z] w (GrP b gb gc { g with c := splice g.c o (List.replicate n z) } F) := by
  have ok := Lib.hid ok0
  obtain ⟨hgc, hgm⟩ := gL_cap hs
  obtain ⟨hcG, hzG, hlG⟩ := hs.here (b := b) K32.rm
  have HS := Lib.hid hs
  obtain ⟨q1, q2, q3, q4, q5⟩ := ok0
  clear hs q5
  obtain ⟨ho1, ho2⟩ := ho
  obtain ⟨hn1, hn2⟩ := hn
  have HE := Lib.hid (enc_fill g.c o n z)
  have HLN : Hid ((splice g.c o (List.replicate n z)).length = g.c.length) := Lib.hid (by rw [length_splice _ _ _ (by rw [List.length_replicate]; omega)])
  have hf6 : o * 6 + n * 6 ≤ g.c.length * 6 := by omega
  go_enter Tryz.func61, Tryz.ntmps61
  go_wp2_with (first | (refine K30.atR (id := 2) ?_; (with_reducible apply K30.wp_at); exact K32.fndG; intro xw hs; (try simp only [World.size_alloc, World.size_setCell] at hs); (try clear hcG hzG hlG); (try clear hcB hzB hlB); obtain ⟨hcG, hzG, hlG⟩ := hs.here (b := b) K32.rm; obtain ⟨hcB, hzB, hlB⟩ := hs.here (b := w.heap.size) K32.rm; have HS := Lib.hid hs; clear hs; refine K32.reg0 (w := xw) [] [] 11 ?_; simp only [numbered, List.take_succ_cons, List.take_zero, List.drop_succ_cons, List.drop_zero, List.take_nil, List.drop_nil, Nat.reduceAdd]; (iterate 11 (refine K32.zd ?_; (try go_simp))); refine wz_nil ?_; intro wq hbq hLq; clear hLq ; have hcwq := cellA hbq; have hfwq := frozA hbq; have hzwq := hbq.size; (try simp at hzwq); have hs := HS.out.below hbq; (try clear hcG hzG hlG); (try clear hcB hzB hlB); obtain ⟨hcG, hzG, hlG⟩ := hs.here (b := b) K32.rm; obtain ⟨hcB, hzB, hlB⟩ := hs.here (b := w.heap.size) K32.rm; have HS := Lib.hid hs; clear hs hcwq hfwq hzwq hbq) | (refine K30.atR (id := 4) ?_; (with_reducible apply K30.wp_at); exact K32.fndG; intro xw hs; (try simp only [World.size_alloc, World.size_setCell] at hs); (try clear hcG hzG hlG); (try clear hcB hzB hlB); obtain ⟨hcG, hzG, hlG⟩ := hs.here (b := b) K32.rm; obtain ⟨hcB, hzB, hlB⟩ := hs.here (b := w.heap.size) K32.rm; have HS := Lib.hid hs; clear hs; refine K32.reg0 (w := xw) [] [] 8 ?_; simp only [numbered, List.take_succ_cons, List.take_zero, List.drop_succ_cons, List.drop_zero, List.take_nil, List.drop_nil, Nat.reduceAdd]; (iterate 8 (refine K32.zd ?_; (try go_simp))); refine wz_nil ?_; intro wq hbq hLq; clear hLq ; have hcwq := cellA hbq; have hfwq := frozA hbq; have hzwq := hbq.size; (try simp at hzwq); have hs := HS.out.below hbq; (try clear hcG hzG hlG); (try clear hcB hzB hlB); obtain ⟨hcG, hzG, hlG⟩ := hs.here (b := b) K32.rm; obtain ⟨hcB, hzB, hlB⟩ := hs.here (b := w.heap.size) K32.rm; have HS := Lib.hid hs; clear hs hcwq hfwq hzwq hbq) | (go_at_call 76; (with_reducible apply K30.calls_at); exact K32.fndG; intro xw hs; (try simp only [World.size_alloc, World.size_setCell] at hs); have hs := hs.pick (r1 := .row (.slice (some ⟨gb, 0, none⟩) g.c.length gc) 58 6 g.c.length (g.c.flatMap ceV)) K32.rm; refine (fill_k gb g.c.length gc (o * 6) _ n _ _ (g.c.flatMap ceV) z _ _ hs (by omega) (by first | (right; rfl) | (right; congr 2; omega) | (left; omega)) hf6 (by omega)).mono ?_; clear hs; rintro e w1 ⟨rfl, hs⟩; (try clear hcG hzG hlG); (try clear hcB hzB hlB); obtain ⟨hcG, hzG, hlG⟩ := hs.here (b := b) K32.rm; obtain ⟨hcB, hzB, hlB⟩ := hs.here (b := w.heap.size) K32.rm; have HS := Lib.hid hs; clear hs))
  go_end0
  refine ⟨rfl, ?_⟩
  rw [gL_eq b gb gc g F _ _ HLN.out HE.out]
  ((with_reducible apply K30.sep_end); exact K32.fndG; intro hs; (try simp only [World.size_alloc, World.size_setCell] at hs); exact hs.end2 K32.rm K32.rm K32.sub)
theorem Fill_any (b gb gc : Nat) (g : Gr) (p q : Int) (z : Ce) (F : List Res) (w : World) (hs : Sep w (gL b gb gc g F)) (ok : GrOk g) : Calls Tryz.prog 61 #[.pointer (some ⟨b, 0, none⟩), .int .i64 p, .int .i64 q, ceA z] w (GrP b gb gc (fillG g p q z) F) := by
  have hl8 := (ok.mul (y := 0) (by omega) (by have := ok.h1; omega)).2.2
  unfold fillG
  by_cases a : p < 0
  · rw [show max p 0 = 0 by omega]
    by_cases c : q ≤ g.c.length
    · rw [Int.min_eq_left c]
      by_cases hx : q ≤ 0
      · rw [if_neg (by omega)]; exact FillN00 b gb gc g p q z F w hs ok a c hx hl8
      · rw [if_pos (by omega)]; exact FillY00 b gb gc g p q z F w _ _ hs ok a c (by omega) (by omega) (by omega) hl8
    · rw [Int.min_eq_right (by omega)]
      by_cases hx : (g.c.length : Int) ≤ 0
      · rw [if_neg (by omega)]; exact FillN01 b gb gc g p q z F w hs ok a (by omega) hx hl8
      · rw [if_pos (by omega)]; exact FillY01 b gb gc g p q z F w _ _ hs ok a (by omega) (by omega) (by omega) (by omega) hl8
  · rw [show max p 0 = p by omega]
    by_cases c : q ≤ g.c.length
    · rw [Int.min_eq_left c]
      by_cases hx : q ≤ p
      · rw [if_neg (by omega)]; exact FillN10 b gb gc g p q z F w hs ok (by omega) c hx hl8
      · rw [if_pos (by omega)]; exact FillY10 b gb gc g p q z F w _ _ hs ok (by omega) c (by omega) (by omega) (by omega) hl8
    · rw [Int.min_eq_right (by omega)]
      by_cases hx : (g.c.length : Int) ≤ p
      · rw [if_neg (by omega)]; exact FillN11 b gb gc g p q z F w hs ok (by omega) (by omega) hx hl8
      · rw [if_pos (by omega)]; exact FillY11 b gb gc g p q z F w _ _ hs ok (by omega) (by omega) (by omega) (by omega) (by omega) hl8
end Go.Proofs.YtnjgnbdebkckfaaGreatDoor.G6
namespace Go.Proofs.YtnjgnbdebkckfaaGreatDoor.G7
set_option maxRecDepth 100000
open Go.RowKit K1 K3 K5 K11 K12 K14 K20 K21 K22 K25 K30 K31 M0 C1 G1 G2 G3 G4 G5 G6
attribute [local go_sem] cell_pastA froz_pastA
attribute [local go_sem] gcells
/-- what a slice of cells reads as -/
structure SrcAt (w : World) (sp : Option Addr) (L : List Ce) : Prop where
  out : ∃ sb so, sp = some ⟨sb, so, none⟩ ∧ sb < w.heap.size ∧ ∀ j v, (L.flatMap ceV)[j]? = some v → w.cell? ⟨sb, so + j, none⟩ = some v
theorem SrcAt.low {w w' : World} {sp : Option Addr} {L : List Ce} (h : SrcAt w sp L) (hb : Below w.heap.size w w') : SrcAt w' sp L := by
  obtain ⟨sb, so, h1, h2, h3⟩ := h
  exact ⟨sb, so, h1, Nat.lt_of_lt_of_le h2 hb.size, fun j v hj => (World.cell?_of_block (hb.block sb h2)).trans (h3 j v hj)⟩
theorem SrcAt.get {w : World} {sp : Option Addr} {L : List Ce} (h : SrcAt w sp L) (m : Nat) : ∃ ad, sp = some ad ∧ ∀ j v, ((L.take m).flatMap ceV)[j]? = some v → w.cell? (ad.add j) = some v := by
  obtain ⟨sb, so, rfl, h2, h3⟩ := h
  refine ⟨_, rfl, fun j v hj => ?_⟩
  have ha : (⟨sb, so, none⟩ : Addr).add j = ⟨sb, so + j, none⟩ := by unfold Addr.add; split <;> simp_all
  rw [ha]
  refine h3 j v ?_
  rw [enc_take, List.getElem?_take] at hj
  split at hj
  · exact hj
  · cases hj
structure SetP (b gb gc : Nat) (g : Gr) (F : List Res) (k : Nat) (e : Ending) (w' : World) : Prop where
  out : e = .returned (.int .i64 k) ∧ Sep w' (gL b gb gc g F)
set_option maxHeartbeats 4000000 in
theorem Set_w (b gb gc : Nat) (g : Gr) (x y : Int) (sp : Option Addr) (sLen sCap : Nat) (L : List Ce) (F : List Res) (w : World) (o m cp : Nat) (dp : Option Addr) (hs : Sep w (gL b gb gc g F)) (ok0 : GrOk g) (hL : L.length = sLen) (hv : rowV g gb gc x y = .slice dp m cp) (hdp : m = 0 ∨ dp = some ⟨gb, o * 6, none⟩) (hf : o + m ≤ g.c.length) (hsrc : 0 < sLen → SrcAt w sp L) (hl8 : sLen ≤ 1000000) :
    Calls Tryz.prog 73 #[.pointer (some ⟨b, 0, none⟩), .int .i64 x, .int .i64 y, .slice sp sLen sCap] w (SetP b gb gc { g with c := splice g.c o (L.take m) } F (min sLen m)) := by
  have HV := Lib.hid hv
  have HSRC := Lib.hid hsrc
  have htl : (L.take m).length = min sLen m := by rw [List.length_take, hL]; exact Nat.min_comm _ _
  have HTL := Lib.hid htl
  have hmr := Nat.min_le_right sLen m
  have HE := Lib.hid (enc_splice g.c (L.take m) o)
  have HLN : Hid ((splice g.c o (L.take m)).length = g.c.length) := Lib.hid (by rw [length_splice _ _ _ (Nat.le_trans (Nat.add_le_add_left (by rw [htl]; exact hmr) o) hf)])
  have HEL : Hid (((L.take m).flatMap ceV).length = Nat.min sLen m * 6) := Lib.hid (by rw [enc_len, htl])
  have ok := Lib.hid ok0
  obtain ⟨hgc, hgm⟩ := gL_cap hs
  obtain ⟨hcG, hzG, hlG⟩ := hs.here (b := b) K32.rm
  have HS := Lib.hid hs
  obtain ⟨q1, q2, q3, q4, q5⟩ := ok0
  clear hs q5
  clear hv hsrc htl hL hmr
  go_enter Tryz.func73, Tryz.ntmps73
  go_wp2_with (first | (go_at_call 72; have hs := HS.out; (try clear hcG hzG hlG); obtain ⟨hcG, hzG, hlG⟩ := hs.here (b := b) K32.rm; have hC := (row_w b gb gc g x y _ _ HV.out (GrAt.of hs K32.rm) ok.out hgc hgm); (with_reducible refine hC.mono ?_); clear hC; rintro e w1 ⟨rfl, hb⟩; have HSRC := Lib.hid (fun h => (HSRC.out h).low hb); have hs := hs.below hb; clear hb; (try clear hcG hzG hlG); obtain ⟨hcG, hzG, hlG⟩ := hs.here (b := b) K32.rm; have HS := Lib.hid hs; clear hs) | (refine K30.atOp (d := 14) ?_; have hs := HS.out.pick (r1 := .row (.slice (some ⟨gb, 0, none⟩) g.c.length gc) 58 6 g.c.length (g.c.flatMap ceV)) K32.rm; refine wpList_copyS rfl (.tmp 12) (.tmp 13) 45 45 rfl 58 Tryz.underlying45 6 sizeC _ _ _ _ _ _ rfl rfl gb (o * 6) g.c.length gc 58 _ _ hs ((L.take m).flatMap ceV) HEL.out (fun h0 => ⟨hdp.resolve_left (fun h1 => by subst h1; exact absurd h0 (by show ¬ 0 < min _ _; omega)), (HSRC.out (by change 0 < min _ _ at h0; omega)).get m⟩) (by rw [HEL.out]; show o * 6 + min _ _ * 6 ≤ _; omega) (one_ceV _) ?_; intro w1 hs2 hz; clear hs; (try clear hcG hzG hlG); obtain ⟨hcG, hzG, hlG⟩ := hs2.here (b := b) K32.rm; have HS := Lib.hid hs2; clear hs2))
  go_ret
  refine ⟨by rfl, ?_⟩
  rw [gL_eq b gb gc g F _ _ HLN.out HE.out.symm]
  ((with_reducible apply K30.sep_end); exact K32.fndG; intro hs; (try simp only [World.size_alloc, World.size_setCell] at hs); exact hs.end2 K32.rm K32.rm K32.sub)
theorem Set_any (b gb gc : Nat) (g : Gr) (x y : Int) (sp : Option Addr) (sLen sCap : Nat) (L : List Ce) (F : List Res) (w : World) (hs : Sep w (gL b gb gc g F)) (ok : GrOk g) (hL : L.length = sLen) (hsrc : 0 < sLen → SrcAt w sp L) (hl8 : sLen ≤ 1000000) :
    Calls Tryz.prog 73 #[.pointer (some ⟨b, 0, none⟩), .int .i64 x, .int .i64 y, .slice sp sLen sCap] w (SetP b gb gc (setG g x y L) F (min sLen (rowO g x y).2)) := by
  by_cases hx : x < 0 ∨ g.w ≤ x ∨ y < 0 ∨ g.h ≤ y
  · have e : rowO g x y = (0, 0) := by unfold rowO; rw [if_pos hx]
    unfold setG
    rw [e]
    exact Set_w b gb gc g x y sp sLen sCap L F w 0 0 0 none hs ok hL (by unfold rowV; rw [if_pos hx]) (.inl rfl) (by omega) hsrc hl8
  · obtain ⟨p1, p2, p3, p4, p5, p6⟩ := ok.rowEnd (x := x) (y := y) (by omega) (by omega) (by omega) (by omega)
    have e : rowO g x y = ((y * g.w + x).toNat, (g.w - x).toNat) := by unfold rowO; rw [if_neg hx]
    unfold setG
    rw [e]
    exact Set_w b gb gc g x y sp sLen sCap L F w (y * g.w + x).toNat _ _ _ hs ok hL (by unfold rowV; rw [if_neg hx]) (.inr rfl) (by omega) hsrc hl8
end Go.Proofs.YtnjgnbdebkckfaaGreatDoor.G7
namespace Go.Proofs.YtnjgnbdebkckfaaGreatDoor.G8
set_option maxRecDepth 100000
open Go.RowKit K1 K3 K5 K11 K12 K14 K20 K21 K22 K25 K30 K31 M0 C1 G1 G2 G3 G4 G5 G6 G7
attribute [local go_sem] cell_pastA froz_pastA
attribute [local go_sem] gcells
theorem newG_ok (w h : Int) : GrOk (newG w h) := by
  have h1 : 2 ≤ endW w := by unfold endW; omega
  have h2 : endW w ≤ 40 := by unfold endW; omega
  have h3 : 1 ≤ endH h := by unfold endH; omega
  have h4 : endH h ≤ 20 := by unfold endH; omega
  refine ⟨h1, h2, h3, h4, ?_⟩
  have a := Int.mul_nonneg (show 0 ≤ endW w by omega) (show 0 ≤ endH h by omega)
  unfold newG
  simp only [List.length_replicate]
  omega
def zagg : Value := .agg #[.int .i32 0, .int .i64 0, .int .i64 0, .bool false, .bool false, .bool false]
theorem infoC : (Tryz.prog.info? 58).map (fun i => (i.zero, i.size, i.bytes)) = some (some zagg, 6, 32) := by kernel_rfl
def zCe : Ce := ⟨0, At.zero⟩
def zcell : Array Value := #[.int .i32 0, .int .i64 0, .int .i64 0, .bool false, .bool false, .bool false]
theorem makeC (W : World) (m : Int) (h0 : 0 ≤ m) (h1 : m ≤ 800) : (Instr.makeSlice 45 (.int .i64 m) (.int .i64 m)).run Tryz.prog W = .ok (.slice (some ⟨W.heap.size, 0, none⟩) m.toNat m.toNat) (W.alloc (.cells (madeCells zcell (m.toNat * 6)) 58)) := by
  obtain ⟨i0, hi, hz0, hz1, hz2⟩ := info_parts infoC
  have h := run_makeSlice (P := Tryz.prog) W 45 58 i0 zagg Tryz.underlying45 hi hz0 .i64 .i64 m m h0 (Int.le_refl _) (by rw [hz1]; omega) (by rw [hz2]; omega) (by omega)
  rw [hz1] at h
  exact h
theorem made_enc (n : Nat) : (madeCells zcell (n * 6)).toList = (List.replicate n zCe).flatMap ceV := by
  apply List.ext_getElem?
  intro i
  by_cases h : i < n * 6
  · have h1 : (madeCells zcell (n * 6)).toList[i]? = some zcell[i % 6]! := by simp [madeCells, h]; rfl
    rw [h1]
    have key : ∀ (n i : Nat), i < n * 6 → ((List.replicate n zCe).flatMap ceV)[i]? = some zcell[i % 6]! := by
      intro n
      induction n with
      | zero => intro i h; omega
      | succ n ih =>
        intro i h
        rw [List.replicate_succ, List.flatMap_cons]
        have h6 : (ceV zCe).length = 6 := rfl
        by_cases hi : i < 6
        · rw [List.getElem?_append_left (by rw [h6]; exact hi)]
          rcases (show i = 0 ∨ i = 1 ∨ i = 2 ∨ i = 3 ∨ i = 4 ∨ i = 5 by omega) with rfl | rfl | rfl | rfl | rfl | rfl <;> rfl
        · rw [List.getElem?_append_right (by rw [h6]; omega), h6, ih (i - 6) (by omega)]
          congr 2
          omega
    exact (key n i h).symm
  · rw [List.getElem?_eq_none (by simp [madeCells]; omega), List.getElem?_eq_none (by rw [enc_len]; simp; omega)]
theorem fill_new (ew eh : Int) (n : Nat) (hn : (n : Int) = ew * eh) (h1 : 0 < n) (c : Ce) : fillG ⟨ew, eh, List.replicate n zCe⟩ 0 (ew * eh) c = ⟨ew, eh, List.replicate n c⟩ := by
  unfold fillG
  rw [← hn]
  simp only [List.length_replicate]
  rw [if_pos (by omega)]
  have e1 : (max (0 : Int) 0).toNat = 0 := rfl
  have e2 : (min (n : Int) n - max 0 0).toNat = n := by omega
  rw [e1, e2]
  simp [splice]
theorem blank_zero (w : World) : Calls Tryz.prog 62 #[.agg #[.int .i64 0, .int .i64 0, .bool false, .bool false, .bool false]] w fun e w' => e = .returned (ceA (blankC At.zero)) ∧ Below w.heap.size w w' := blank_any At.zero w
structure NewP (F : List Res) (g : Gr) (e : Ending) (w' : World) : Prop where
  out : ∃ b gb, e = .returned (.pointer (some ⟨b, 0, none⟩)) ∧ Sep w' (gL b gb g.c.length g F)
set_option maxHeartbeats 4000000 in
theorem New_any (x y : Int) (F : List Res) (w : World) (hs : Sep w F) : Calls Tryz.prog 43 #[.int .i64 x, .int .i64 y] w (NewP F (newG x y)) := by
  have HS := Lib.hid hs
  have ok := newG_ok x y
  clear hs
  go_enter Tryz.func43, Tryz.ntmps43
  go_upto_region 1 with fail
  go_cut [0, 1] (fun s0 s1 wx => s0 = .int .i64 (endW x) ∧ s1 = .int .i64 (endH y) ∧ wx = w)
  case first =>
    have hx : x < 2 ∨ (2 ≤ x ∧ x ≤ 40) ∨ 40 < x := by omega
    have hy : y < 1 ∨ (1 ≤ y ∧ y ≤ 20) ∨ 20 < y := by omega
    rcases hx with hx | ⟨hx, hx2⟩ | hx <;> rcases hy with hy | ⟨hy, hy2⟩ | hy
    all_goals (go_wp2_with fail; go_meet; exact ⟨by unfold endW; congr 1; omega, by unfold endH; congr 1; omega, rfl⟩)
  case rest =>
    obtain ⟨rfl, rfl, rfl⟩ := hcut
    have hmul := mul_rng (x := endH y) (y := endW x) (by have := ok.h1; change 1 ≤ endH y at this; omega) ok.h20 (by have := ok.w2; change 2 ≤ endW x at this; omega) ok.w40
    rw [Int.mul_comm] at hmul
    obtain ⟨p1, p2⟩ := hmul
    have hp : 0 < endW x * endH y := Int.mul_pos (by have := ok.w2; change 2 ≤ endW x at this; omega) (by have := ok.h1; change 1 ≤ endH y at this; omega)
    obtain ⟨n, hn⟩ : ∃ n : Nat, (n : Int) = endW x * endH y := ⟨(endW x * endH y).toNat, by omega⟩
    have hnn : (endW x * endH y).toNat = n := by omega
    have hmk := makeC wc (endW x * endH y) p1 p2
    rw [hnn] at hmk
    have HN := Lib.hid hn
    have hn0 : 0 < n := by omega
    have hn8 : n ≤ 800 := by omega
    clear hnn hn
    go_wp2_with (first | (go_at_call 62; refine K32.ca (fun xw hs => ?_); (try simp only [World.size_alloc, World.size_setCell] at hs); skip; have hC := (blank_zero xw); (with_reducible refine hC.mono ?_); clear hC; rintro e w1 ⟨rfl, hb⟩; have hs := hs.below hb; clear hb; skip; have HS := Lib.hid hs; clear hs) | (go_at_call 61; refine K32.ca (fun xw hs => ?_); (try simp only [World.size_alloc, World.size_setCell] at hs); have hs := hs.pick2 (r1 := .blk wc.heap.size (madeCells zcell (n * 6)).toList 58) K32.rm K32.rm; have hs := hs.asRow (n := n) (c := n) (s := 6) (xs := (List.replicate n zCe).flatMap ceV) (by rw [made_enc, enc_len, List.length_replicate]) (Nat.le_refl _) (by unfold maxLen; omega) (by rw [made_enc, List.take_of_length_le (by rw [enc_len, List.length_replicate]; omega)]); have hs := hs.perm (List.Perm.swap _ _ _); refine (Fill_any (wc.heap.size + 1) wc.heap.size n ⟨endW x, endH y, List.replicate n zCe⟩ _ _ (blankC At.zero) F _ ?_ ?_).mono ?_; (focus (first | (simpa only [gL, gcells, List.length_replicate] using hs; done))); (focus exact ⟨ok.w2, ok.w40, ok.h1, ok.h20, by simp only [List.length_replicate]; exact HN.out⟩); clear hs; rintro e w1 ⟨⟨rfl, hs⟩⟩; have HS := Lib.hid hs; clear hs))
    go_ret
    refine ⟨⟨wc.heap.size + 1, wc.heap.size, rfl, ?_⟩⟩
    have e : newG x y = ⟨endW x, endH y, List.replicate n (blankC At.zero)⟩ := by unfold newG; rw [← HN.out]; rfl
    rw [e]
    have h2 := HS.out
    rw [fill_new _ _ _ HN.out hn0] at h2
    simpa only [List.length_replicate] using h2
end Go.Proofs.YtnjgnbdebkckfaaGreatDoor.G8
namespace Go.Proofs.YtnjgnbdebkckfaaGreatDoor.G9
set_option maxRecDepth 100000
open Go.RowKit K1 K3 K5 K11 K12 K14 K20 K21 K22 K25 K30 K31 M0 C1 G1 G2 G3 G4 G5 G6 G7 G8
attribute [local go_sem] cell_pastA froz_pastA
theorem src_news {w w' : World} {sb so : Nat} {xs : List Value} (hc : ∀ j v, xs[j]? = some v → w.cell? ⟨sb, so + j, none⟩ = some v) (hb : sb < w.heap.size) (hB : Below w.heap.size w w') : ∀ j u, xs[j]? = some u → w'.cell? ((⟨sb, so, none⟩ : Addr).add j) = some u := by
  intro j u hj
  have ha : (⟨sb, so, none⟩ : Addr).add j = ⟨sb, so + j, none⟩ := by unfold Addr.add; split <;> simp_all
  rw [ha]
  exact (World.cell?_of_block (hB.block sb hb)).trans (hc j u hj)
structure CloneP (F : List Res) (L : List Ce) (e : Ending) (w' : World) : Prop where
  out : ∃ g cap, e = .returned (.slice (some ⟨g, 0, none⟩) L.length cap) ∧ Sep w' (.row (.slice (some ⟨g, 0, none⟩) L.length cap) 58 6 L.length (L.flatMap ceV) :: F)
set_option maxHeartbeats 4000000 in
theorem clone_any (sb so n cap : Nat) (L : List Ce) (F : List Res) (w : World) (hs : Sep w F) (hL : L.length = n) (h1 : 1 ≤ n) (h8 : n ≤ 1000000) (hc : ∀ j v, (L.flatMap ceV)[j]? = some v → w.cell? ⟨sb, so + j, none⟩ = some v) (hb : sb < w.heap.size) :
    Calls Tryz.prog 63 #[.slice (some ⟨sb, so, none⟩) n cap] w (CloneP F L) := by
  subst hL
  have hl : Sep w (.low w.heap.size w :: F) → True := fun _ => trivial
  have HS := Lib.hid hs
  have HC0 := Lib.hid hc
  obtain ⟨i0, ih, ia, ib, ic⟩ := info_parts infoC
  have iI := Lib.hid ih
  clear ih
  have hq := fun w => Lib.run_eql_slice_nil (P := Tryz.prog) w 45 58 (some ⟨sb, so, none⟩) L.length cap 0 0 Tryz.underlying45
  simp only [Option.isNone_some] at hq
  clear hs hc hl
  go_enter Tryz.func63, Tryz.ntmps63
  go_wp2_with (at_builtin; refine wpList_appS rfl (.tmp 5) (.tmp 6) 45 rfl 58 i0 zagg 6 32 Tryz.underlying45 iI.out ia ib ic rfl (by decide) (.slice (some ⟨w.heap.size, 0, none⟩) 0 0) 0 [] F rfl (HS.out.allocT.asRow (n := 0) (c := 0) (s := 6) rfl (Nat.le_refl _) (by unfold maxLen; omega) rfl) ⟨sb, so, none⟩ L.length _ (L.flatMap ceV) rfl (enc_len _) (src_news HC0.out hb ((Below.refl _ _).alloc (Nat.le_refl _) _)) (one_ceV _) (by omega) (by omega) (by decide) ?_; intro g2 cap2 w2 hs2 hz2; have HS2 := Lib.hid hs2; clear hs2)
  go_ret
  have h2 := HS2.out
  rw [Nat.zero_add, List.nil_append] at h2
  exact ⟨⟨_, _, by simp, h2⟩⟩
end Go.Proofs.YtnjgnbdebkckfaaGreatDoor.G9
