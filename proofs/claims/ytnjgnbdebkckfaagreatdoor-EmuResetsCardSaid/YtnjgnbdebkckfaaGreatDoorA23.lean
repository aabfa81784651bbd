/- T9, T10 -/
import Derived.Test.YtnjgnbdebkckfaaGreatDoorA2
import Derived.Test.YtnjgnbdebkckfaaGreatDoorA6
import Derived.Test.YtnjgnbdebkckfaaGreatDoorA10
import Derived.Test.YtnjgnbdebkckfaaGreatDoorA21
import Derived.Test.YtnjgnbdebkckfaaGreatDoorA22
import Derived.Lib.Hide
set_option linter.unusedVariables false
set_option linter.unusedSimpArgs false
set_option linter.unnecessarySimpa false
namespace Go.Proofs.YtnjgnbdebkckfaaGreatDoor.T9
set_option maxRecDepth 100000
open Go.RowKit K1 K3 K5 K11 K12 K14 K20 K21 K22 K25 K30 K31 M0 C1 G1 G2 G3 G4 G5 G6 G7 G8 E3 E4 ME MF S3 T1 T2 T3 T4 T5 T6 T7 T8
attribute [local go_sem] cell_pastA froz_pastA
set_option maxHeartbeats 4000000 in
theorem home_any (b cb gb gc : Nat) (pv : Value) (pm po : Option Addr) (sv av : Value) (t : Te) (F : List Res) (w : World) (hs : Sep w (.blk b (emQ t.m pv pm po sv av) 108 :: gL cb gb gc t.cg F)) (hcur : (if t.m.alt = true then po else pm) = some ⟨cb, 0, none⟩)  : Calls Tryz.prog 123 #[.pointer (some ⟨b, 0, none⟩)] w (EmP b cb gb gc pv pm po sv av (homeE t).m (homeE t).cg F) := by
  have HCUR := Lib.hid hcur
  have HS := Lib.hid hs
  obtain ⟨hcE, hzE, hlE⟩ := hs.here (b := b) K32.rm
  have hcE0 := (hcE 0).trans (emV_0 ..); have hcE1 := (hcE 1).trans (emV_1 ..); have hcE31 := (hcE 31).trans (emV_31 ..); have hcE7 := (hcE 7).trans (emV_7 ..); have hcE26 := (hcE 26).trans (emV_26 ..)
  clear hs hcur hcE
  by_cases h : t.m.cu.origin = true
  · have e : homeE t = { t with m := { t.m with cu := { t.m.cu with x := 0, y := t.m.top }, late := false } } := by unfold homeE; rw [if_pos h]
    rw [e]
    clear e
    rw [h] at hcE7
    clear h
    go_enter Tryz.func123, Tryz.ntmps123
    go_wp2_with fail
    (first | go_end0 | refine bodyPost_ret (results_none rfl _ _ _) rfl ?_)
    refine ⟨⟨rfl, ?_⟩⟩
    exact K32.e3
  · have e : homeE t = { t with m := { t.m with cu := { t.m.cu with x := 0, y := 0 }, late := false } } := by unfold homeE; rw [if_neg h]
    rw [e]
    clear e
    rw [Bool.eq_false_iff.2 h] at hcE7
    clear h
    go_enter Tryz.func123, Tryz.ntmps123
    go_wp2_with fail
    (first | go_end0 | refine bodyPost_ret (results_none rfl _ _ _) rfl ?_)
    refine ⟨⟨rfl, ?_⟩⟩
    exact K32.e3
set_option maxHeartbeats 4000000 in
theorem region_any (b cb gb gc : Nat) (pv : Value) (pm po : Option Addr) (sv av : Value) (t : Te) (l : List Int) (nv : Value) (F : List Res) (w : World) (hs : Sep w (.blk b (emQ t.m pv pm po sv av) 108 :: gL cb gb gc t.cg (.row nv 3 1 l.length (ints l) :: F))) (hcur : (if t.m.alt = true then po else pm) = some ⟨cb, 0, none⟩) (ok : TeOk t) (hl : NumOk l) : Calls Tryz.prog 119 #[.pointer (some ⟨b, 0, none⟩), nv] w (EmP b cb gb gc pv pm po sv av (regionE t l).m (regionE t l).cg (.row nv 3 1 l.length (ints l) :: F)) := by
  have L8 := Lib.hid hl
  obtain ⟨r1, r2⟩ := countN_rng hl 0
  obtain ⟨r3, r4⟩ := atN_rng hl 1
  have y0 := ok.cu.y0; have y1 := ok.cu.y1; have bt := ok.tb; have bt0 := ok.top; have bh := ok.bc; have h20 := ok.cg.h20; have yh := ok.yc; have h1 := ok.cg.h1; have x0 := ok.cu.x0; have x1 := ok.cu.x1; have w2 := ok.cg.w2; have w40 := ok.cg.w40; have xw := ok.xc
  have HCUR := Lib.hid hcur
  have HS := Lib.hid hs
  have OK := Lib.hid ok
  obtain ⟨hcE, hzE, hlE⟩ := hs.here (b := b) K32.rm
  have hcE26 := (hcE 26).trans (emV_26 ..); have hcE27 := (hcE 27).trans (emV_27 ..)
  clear hs ok hcur hcE
  clear hl
  have hc : atN l 1 < 1 ∨ (1 ≤ atN l 1 ∧ t.cg.h < atN l 1) ∨ (1 ≤ atN l 1 ∧ atN l 1 ≤ t.cg.h) := by omega
  rcases hc with hc | ⟨hc, hd⟩ | ⟨hc, hd⟩
  · by_cases hh : countN l 0 - 1 < t.cg.h - 1
    · have hB : (if atN l 1 < 1 ∨ t.cg.h < atN l 1 then t.cg.h else atN l 1) = t.cg.h := if_pos (.inl hc)
      have e : regionE t l = homeE { t with m := { t.m with top := countN l 0 - 1, bottom := t.cg.h } } := by unfold regionE; rw [hB, if_pos (by omega)]
      clear hB
      rw [e]
      clear e
      go_enter Tryz.func119, Tryz.ntmps119
      go_wp2_with (first | (go_at_call 51; refine K32.ca (fun xw hs => ?_); (try simp only [emV_sets] at hs); have hC := (grid_c b _ t.m.alt pm po (some ⟨cb, 0, none⟩) xw (EmAt.of hs K32.rm) (by rfl) (by rfl) (by rfl) HCUR.out); (with_reducible refine hC.mono ?_); clear hC; rintro e w1 ⟨rfl, hb⟩; have hs := hs.below hb; clear hb; (try clear hcE26 hcE27 hzE hlE); obtain ⟨hcE26, hcE27, hzE, hlE⟩ := T1.f26_27 hs K32.rm; have HS := Lib.hid hs; clear hs) | (go_at_call 45; refine K32.ca (fun xw hs => ?_); (try simp only [emV_sets] at hs); have hC := (G1.H_any cb gb gc t.cg xw (GrAt.of hs K32.rm)); (with_reducible refine hC.mono ?_); clear hC; rintro e w1 ⟨rfl, hb⟩; have hs := hs.below hb; clear hb; (try clear hcE26 hcE27 hzE hlE); obtain ⟨hcE26, hcE27, hzE, hlE⟩ := T1.f26_27 hs K32.rm; have HS := Lib.hid hs; clear hs) | (go_at_call 85; refine K32.ca (fun xw hs => ?_); (try simp only [emV_sets] at hs); have hC := (count0 nv l xw (rd_ints (hs.hereRow (v := nv) K32.rm)) L8.out.1); (with_reducible refine hC.mono ?_); clear hC; rintro e w1 ⟨rfl, hb⟩; have hs := hs.below hb; clear hb; (try clear hcE26 hcE27 hzE hlE); obtain ⟨hcE26, hcE27, hzE, hlE⟩ := T1.f26_27 hs K32.rm; have HS := Lib.hid hs; clear hs) | (go_at_call 112; refine K32.ca (fun xw hs => ?_); (try simp only [emV_sets] at hs); have hC := (at1 nv l xw (rd_ints (hs.hereRow (v := nv) K32.rm)) L8.out.1); (with_reducible refine hC.mono ?_); clear hC; rintro e w1 ⟨rfl, hb⟩; have hs := hs.below hb; clear hb; (try clear hcE26 hcE27 hzE hlE); obtain ⟨hcE26, hcE27, hzE, hlE⟩ := T1.f26_27 hs K32.rm; have HS := Lib.hid hs; clear hs) | (go_at_call 123; refine K32.ca (fun xw hs => ?_); (try simp only [emV_sets] at hs); have hs := hs.pick3 (r1 := .blk b (emQ (({ t with m := { t.m with top := countN l 0 - 1, bottom := t.cg.h } } : Te).m) pv pm po sv av) 108) (r2 := .blk cb (gcells t.cg gb gc) 121) (r3 := .row (.slice (some ⟨gb, 0, none⟩) t.cg.c.length gc) 58 6 t.cg.c.length (t.cg.c.flatMap ceV)) K32.rm K32.rm K32.rm; refine (home_any b cb gb gc pv pm po sv av ({ t with m := { t.m with top := countN l 0 - 1, bottom := t.cg.h } } : Te) _ _ hs HCUR.out).mono ?_; clear hs; rintro e w1 ⟨⟨rfl, hs⟩⟩; (try clear hcE26 hcE27 hzE hlE); obtain ⟨hcE26, hcE27, hzE, hlE⟩ := T1.f26_27 hs K32.rm; have HS := Lib.hid hs; clear hs))
      (first | go_end0 | refine bodyPost_ret (results_none rfl _ _ _) rfl ?_)
      refine ⟨⟨rfl, ?_⟩⟩
      exact K32.e3
    · have hB : (if atN l 1 < 1 ∨ t.cg.h < atN l 1 then t.cg.h else atN l 1) = t.cg.h := if_pos (.inl hc)
      have e : regionE t l = t := by unfold regionE; rw [hB, if_neg (by omega)]
      clear hB
      rw [e]
      clear e
      go_enter Tryz.func119, Tryz.ntmps119
      go_wp2_with (first | (go_at_call 51; refine K32.ca (fun xw hs => ?_); (try simp only [emV_sets] at hs); have hC := (grid_c b _ t.m.alt pm po (some ⟨cb, 0, none⟩) xw (EmAt.of hs K32.rm) (by rfl) (by rfl) (by rfl) HCUR.out); (with_reducible refine hC.mono ?_); clear hC; rintro e w1 ⟨rfl, hb⟩; have hs := hs.below hb; clear hb; (try clear hcE26 hcE27 hzE hlE); obtain ⟨hcE26, hcE27, hzE, hlE⟩ := T1.f26_27 hs K32.rm; have HS := Lib.hid hs; clear hs) | (go_at_call 45; refine K32.ca (fun xw hs => ?_); (try simp only [emV_sets] at hs); have hC := (G1.H_any cb gb gc t.cg xw (GrAt.of hs K32.rm)); (with_reducible refine hC.mono ?_); clear hC; rintro e w1 ⟨rfl, hb⟩; have hs := hs.below hb; clear hb; (try clear hcE26 hcE27 hzE hlE); obtain ⟨hcE26, hcE27, hzE, hlE⟩ := T1.f26_27 hs K32.rm; have HS := Lib.hid hs; clear hs) | (go_at_call 85; refine K32.ca (fun xw hs => ?_); (try simp only [emV_sets] at hs); have hC := (count0 nv l xw (rd_ints (hs.hereRow (v := nv) K32.rm)) L8.out.1); (with_reducible refine hC.mono ?_); clear hC; rintro e w1 ⟨rfl, hb⟩; have hs := hs.below hb; clear hb; (try clear hcE26 hcE27 hzE hlE); obtain ⟨hcE26, hcE27, hzE, hlE⟩ := T1.f26_27 hs K32.rm; have HS := Lib.hid hs; clear hs) | (go_at_call 112; refine K32.ca (fun xw hs => ?_); (try simp only [emV_sets] at hs); have hC := (at1 nv l xw (rd_ints (hs.hereRow (v := nv) K32.rm)) L8.out.1); (with_reducible refine hC.mono ?_); clear hC; rintro e w1 ⟨rfl, hb⟩; have hs := hs.below hb; clear hb; (try clear hcE26 hcE27 hzE hlE); obtain ⟨hcE26, hcE27, hzE, hlE⟩ := T1.f26_27 hs K32.rm; have HS := Lib.hid hs; clear hs))
      (first | go_end0 | refine bodyPost_ret (results_none rfl _ _ _) rfl ?_)
      refine ⟨⟨rfl, ?_⟩⟩
      exact K32.e3
  · by_cases hh : countN l 0 - 1 < t.cg.h - 1
    · have hB : (if atN l 1 < 1 ∨ t.cg.h < atN l 1 then t.cg.h else atN l 1) = t.cg.h := if_pos (.inr hd)
      have e : regionE t l = homeE { t with m := { t.m with top := countN l 0 - 1, bottom := t.cg.h } } := by unfold regionE; rw [hB, if_pos (by omega)]
      clear hB
      rw [e]
      clear e
      go_enter Tryz.func119, Tryz.ntmps119
      go_wp2_with (first | (go_at_call 51; refine K32.ca (fun xw hs => ?_); (try simp only [emV_sets] at hs); have hC := (grid_c b _ t.m.alt pm po (some ⟨cb, 0, none⟩) xw (EmAt.of hs K32.rm) (by rfl) (by rfl) (by rfl) HCUR.out); (with_reducible refine hC.mono ?_); clear hC; rintro e w1 ⟨rfl, hb⟩; have hs := hs.below hb; clear hb; (try clear hcE26 hcE27 hzE hlE); obtain ⟨hcE26, hcE27, hzE, hlE⟩ := T1.f26_27 hs K32.rm; have HS := Lib.hid hs; clear hs) | (go_at_call 45; refine K32.ca (fun xw hs => ?_); (try simp only [emV_sets] at hs); have hC := (G1.H_any cb gb gc t.cg xw (GrAt.of hs K32.rm)); (with_reducible refine hC.mono ?_); clear hC; rintro e w1 ⟨rfl, hb⟩; have hs := hs.below hb; clear hb; (try clear hcE26 hcE27 hzE hlE); obtain ⟨hcE26, hcE27, hzE, hlE⟩ := T1.f26_27 hs K32.rm; have HS := Lib.hid hs; clear hs) | (go_at_call 85; refine K32.ca (fun xw hs => ?_); (try simp only [emV_sets] at hs); have hC := (count0 nv l xw (rd_ints (hs.hereRow (v := nv) K32.rm)) L8.out.1); (with_reducible refine hC.mono ?_); clear hC; rintro e w1 ⟨rfl, hb⟩; have hs := hs.below hb; clear hb; (try clear hcE26 hcE27 hzE hlE); obtain ⟨hcE26, hcE27, hzE, hlE⟩ := T1.f26_27 hs K32.rm; have HS := Lib.hid hs; clear hs) | (go_at_call 112; refine K32.ca (fun xw hs => ?_); (try simp only [emV_sets] at hs); have hC := (at1 nv l xw (rd_ints (hs.hereRow (v := nv) K32.rm)) L8.out.1); (with_reducible refine hC.mono ?_); clear hC; rintro e w1 ⟨rfl, hb⟩; have hs := hs.below hb; clear hb; (try clear hcE26 hcE27 hzE hlE); obtain ⟨hcE26, hcE27, hzE, hlE⟩ := T1.f26_27 hs K32.rm; have HS := Lib.hid hs; clear hs) | (go_at_call 123; refine K32.ca (fun xw hs => ?_); (try simp only [emV_sets] at hs); have hs := hs.pick3 (r1 := .blk b (emQ (({ t with m := { t.m with top := countN l 0 - 1, bottom := t.cg.h } } : Te).m) pv pm po sv av) 108) (r2 := .blk cb (gcells t.cg gb gc) 121) (r3 := .row (.slice (some ⟨gb, 0, none⟩) t.cg.c.length gc) 58 6 t.cg.c.length (t.cg.c.flatMap ceV)) K32.rm K32.rm K32.rm; refine (home_any b cb gb gc pv pm po sv av ({ t with m := { t.m with top := countN l 0 - 1, bottom := t.cg.h } } : Te) _ _ hs HCUR.out).mono ?_; clear hs; rintro e w1 ⟨⟨rfl, hs⟩⟩; (try clear hcE26 hcE27 hzE hlE); obtain ⟨hcE26, hcE27, hzE, hlE⟩ := T1.f26_27 hs K32.rm; have HS := Lib.hid hs; clear hs))
      (first | go_end0 | refine bodyPost_ret (results_none rfl _ _ _) rfl ?_)
      refine ⟨⟨rfl, ?_⟩⟩
      exact K32.e3
    · have hB : (if atN l 1 < 1 ∨ t.cg.h < atN l 1 then t.cg.h else atN l 1) = t.cg.h := if_pos (.inr hd)
      have e : regionE t l = t := by unfold regionE; rw [hB, if_neg (by omega)]
      clear hB
      rw [e]
      clear e
      go_enter Tryz.func119, Tryz.ntmps119
      go_wp2_with (first | (go_at_call 51; refine K32.ca (fun xw hs => ?_); (try simp only [emV_sets] at hs); have hC := (grid_c b _ t.m.alt pm po (some ⟨cb, 0, none⟩) xw (EmAt.of hs K32.rm) (by rfl) (by rfl) (by rfl) HCUR.out); (with_reducible refine hC.mono ?_); clear hC; rintro e w1 ⟨rfl, hb⟩; have hs := hs.below hb; clear hb; (try clear hcE26 hcE27 hzE hlE); obtain ⟨hcE26, hcE27, hzE, hlE⟩ := T1.f26_27 hs K32.rm; have HS := Lib.hid hs; clear hs) | (go_at_call 45; refine K32.ca (fun xw hs => ?_); (try simp only [emV_sets] at hs); have hC := (G1.H_any cb gb gc t.cg xw (GrAt.of hs K32.rm)); (with_reducible refine hC.mono ?_); clear hC; rintro e w1 ⟨rfl, hb⟩; have hs := hs.below hb; clear hb; (try clear hcE26 hcE27 hzE hlE); obtain ⟨hcE26, hcE27, hzE, hlE⟩ := T1.f26_27 hs K32.rm; have HS := Lib.hid hs; clear hs) | (go_at_call 85; refine K32.ca (fun xw hs => ?_); (try simp only [emV_sets] at hs); have hC := (count0 nv l xw (rd_ints (hs.hereRow (v := nv) K32.rm)) L8.out.1); (with_reducible refine hC.mono ?_); clear hC; rintro e w1 ⟨rfl, hb⟩; have hs := hs.below hb; clear hb; (try clear hcE26 hcE27 hzE hlE); obtain ⟨hcE26, hcE27, hzE, hlE⟩ := T1.f26_27 hs K32.rm; have HS := Lib.hid hs; clear hs) | (go_at_call 112; refine K32.ca (fun xw hs => ?_); (try simp only [emV_sets] at hs); have hC := (at1 nv l xw (rd_ints (hs.hereRow (v := nv) K32.rm)) L8.out.1); (with_reducible refine hC.mono ?_); clear hC; rintro e w1 ⟨rfl, hb⟩; have hs := hs.below hb; clear hb; (try clear hcE26 hcE27 hzE hlE); obtain ⟨hcE26, hcE27, hzE, hlE⟩ := T1.f26_27 hs K32.rm; have HS := Lib.hid hs; clear hs))
      (first | go_end0 | refine bodyPost_ret (results_none rfl _ _ _) rfl ?_)
      refine ⟨⟨rfl, ?_⟩⟩
      exact K32.e3
  · by_cases hh : countN l 0 - 1 < (atN l 1) - 1
    · have hB : (if atN l 1 < 1 ∨ t.cg.h < atN l 1 then t.cg.h else atN l 1) = (atN l 1) := if_neg (by omega)
      have e : regionE t l = homeE { t with m := { t.m with top := countN l 0 - 1, bottom := (atN l 1) } } := by unfold regionE; rw [hB, if_pos (by omega)]
      clear hB
      rw [e]
      clear e
      go_enter Tryz.func119, Tryz.ntmps119
      go_wp2_with (first | (go_at_call 51; refine K32.ca (fun xw hs => ?_); (try simp only [emV_sets] at hs); have hC := (grid_c b _ t.m.alt pm po (some ⟨cb, 0, none⟩) xw (EmAt.of hs K32.rm) (by rfl) (by rfl) (by rfl) HCUR.out); (with_reducible refine hC.mono ?_); clear hC; rintro e w1 ⟨rfl, hb⟩; have hs := hs.below hb; clear hb; (try clear hcE26 hcE27 hzE hlE); obtain ⟨hcE26, hcE27, hzE, hlE⟩ := T1.f26_27 hs K32.rm; have HS := Lib.hid hs; clear hs) | (go_at_call 45; refine K32.ca (fun xw hs => ?_); (try simp only [emV_sets] at hs); have hC := (G1.H_any cb gb gc t.cg xw (GrAt.of hs K32.rm)); (with_reducible refine hC.mono ?_); clear hC; rintro e w1 ⟨rfl, hb⟩; have hs := hs.below hb; clear hb; (try clear hcE26 hcE27 hzE hlE); obtain ⟨hcE26, hcE27, hzE, hlE⟩ := T1.f26_27 hs K32.rm; have HS := Lib.hid hs; clear hs) | (go_at_call 85; refine K32.ca (fun xw hs => ?_); (try simp only [emV_sets] at hs); have hC := (count0 nv l xw (rd_ints (hs.hereRow (v := nv) K32.rm)) L8.out.1); (with_reducible refine hC.mono ?_); clear hC; rintro e w1 ⟨rfl, hb⟩; have hs := hs.below hb; clear hb; (try clear hcE26 hcE27 hzE hlE); obtain ⟨hcE26, hcE27, hzE, hlE⟩ := T1.f26_27 hs K32.rm; have HS := Lib.hid hs; clear hs) | (go_at_call 112; refine K32.ca (fun xw hs => ?_); (try simp only [emV_sets] at hs); have hC := (at1 nv l xw (rd_ints (hs.hereRow (v := nv) K32.rm)) L8.out.1); (with_reducible refine hC.mono ?_); clear hC; rintro e w1 ⟨rfl, hb⟩; have hs := hs.below hb; clear hb; (try clear hcE26 hcE27 hzE hlE); obtain ⟨hcE26, hcE27, hzE, hlE⟩ := T1.f26_27 hs K32.rm; have HS := Lib.hid hs; clear hs) | (go_at_call 123; refine K32.ca (fun xw hs => ?_); (try simp only [emV_sets] at hs); have hs := hs.pick3 (r1 := .blk b (emQ (({ t with m := { t.m with top := countN l 0 - 1, bottom := (atN l 1) } } : Te).m) pv pm po sv av) 108) (r2 := .blk cb (gcells t.cg gb gc) 121) (r3 := .row (.slice (some ⟨gb, 0, none⟩) t.cg.c.length gc) 58 6 t.cg.c.length (t.cg.c.flatMap ceV)) K32.rm K32.rm K32.rm; refine (home_any b cb gb gc pv pm po sv av ({ t with m := { t.m with top := countN l 0 - 1, bottom := (atN l 1) } } : Te) _ _ hs HCUR.out).mono ?_; clear hs; rintro e w1 ⟨⟨rfl, hs⟩⟩; (try clear hcE26 hcE27 hzE hlE); obtain ⟨hcE26, hcE27, hzE, hlE⟩ := T1.f26_27 hs K32.rm; have HS := Lib.hid hs; clear hs))
      (first | go_end0 | refine bodyPost_ret (results_none rfl _ _ _) rfl ?_)
      refine ⟨⟨rfl, ?_⟩⟩
      exact K32.e3
    · have hB : (if atN l 1 < 1 ∨ t.cg.h < atN l 1 then t.cg.h else atN l 1) = (atN l 1) := if_neg (by omega)
      have e : regionE t l = t := by unfold regionE; rw [hB, if_neg (by omega)]
      clear hB
      rw [e]
      clear e
      go_enter Tryz.func119, Tryz.ntmps119
      go_wp2_with (first | (go_at_call 51; refine K32.ca (fun xw hs => ?_); (try simp only [emV_sets] at hs); have hC := (grid_c b _ t.m.alt pm po (some ⟨cb, 0, none⟩) xw (EmAt.of hs K32.rm) (by rfl) (by rfl) (by rfl) HCUR.out); (with_reducible refine hC.mono ?_); clear hC; rintro e w1 ⟨rfl, hb⟩; have hs := hs.below hb; clear hb; (try clear hcE26 hcE27 hzE hlE); obtain ⟨hcE26, hcE27, hzE, hlE⟩ := T1.f26_27 hs K32.rm; have HS := Lib.hid hs; clear hs) | (go_at_call 45; refine K32.ca (fun xw hs => ?_); (try simp only [emV_sets] at hs); have hC := (G1.H_any cb gb gc t.cg xw (GrAt.of hs K32.rm)); (with_reducible refine hC.mono ?_); clear hC; rintro e w1 ⟨rfl, hb⟩; have hs := hs.below hb; clear hb; (try clear hcE26 hcE27 hzE hlE); obtain ⟨hcE26, hcE27, hzE, hlE⟩ := T1.f26_27 hs K32.rm; have HS := Lib.hid hs; clear hs) | (go_at_call 85; refine K32.ca (fun xw hs => ?_); (try simp only [emV_sets] at hs); have hC := (count0 nv l xw (rd_ints (hs.hereRow (v := nv) K32.rm)) L8.out.1); (with_reducible refine hC.mono ?_); clear hC; rintro e w1 ⟨rfl, hb⟩; have hs := hs.below hb; clear hb; (try clear hcE26 hcE27 hzE hlE); obtain ⟨hcE26, hcE27, hzE, hlE⟩ := T1.f26_27 hs K32.rm; have HS := Lib.hid hs; clear hs) | (go_at_call 112; refine K32.ca (fun xw hs => ?_); (try simp only [emV_sets] at hs); have hC := (at1 nv l xw (rd_ints (hs.hereRow (v := nv) K32.rm)) L8.out.1); (with_reducible refine hC.mono ?_); clear hC; rintro e w1 ⟨rfl, hb⟩; have hs := hs.below hb; clear hb; (try clear hcE26 hcE27 hzE hlE); obtain ⟨hcE26, hcE27, hzE, hlE⟩ := T1.f26_27 hs K32.rm; have HS := Lib.hid hs; clear hs))
      (first | go_end0 | refine bodyPost_ret (results_none rfl _ _ _) rfl ?_)
      refine ⟨⟨rfl, ?_⟩⟩
      exact K32.e3
structure RpP (b : Nat) (pv : Value) (pm po : Option Addr) (sv : Value) (m : Em) (n : Nat) (xs : List Value) (F : List Res) (e : Ending) (w' : World) : Prop where
  out : ∃ av, e = .returned (.tuple #[]) ∧ Sep w' (.blk b (emQ m pv pm po sv av) 108 :: .row av 5 1 n xs :: F)
set_option maxHeartbeats 4000000 in
theorem reply_any (b : Nat) (pv : Value) (pm po : Option Addr) (sv av : Value) (t : Te) (n : Nat) (xs : List Value) (s : ByteArray) (F : List Res) (w : World) (hs : Sep w (.blk b (emQ t.m pv pm po sv av) 108 :: .row av 5 1 n xs :: F)) (hn : n ≤ 1000000) (hsz : s.size ≤ 1000) :
    Calls Tryz.prog 122 #[.pointer (some ⟨b, 0, none⟩), .string s] w (RpP b pv pm po sv t.m (n + s.size) (xs ++ Lib.strCells s) F) := by
  obtain ⟨ad, cp, rfl⟩ := E3.own_form (hs.hereRow (v := av) K32.rm)
  obtain ⟨i0, ih, ia, ib, ic⟩ := info_parts infoU
  have iI := Lib.hid ih
  clear ih
  obtain ⟨hcE, hzE, hlE⟩ := hs.here (b := b) K32.rm
  have hcE33 := (hcE 33).trans (emV_33 ..)
  have HS := Lib.hid hs
  clear hs hcE
  go_enter Tryz.func122, Tryz.ntmps122
  go_wp2_with (first | (refine K30.atOp (d := 10) ?_; at_builtin; (with_reducible apply K30.list_at); exact K32.fnd; intro xw hs; (try simp only [emV_sets] at hs); have hs := hs.pick (r1 := .row (.slice ad n cp) 5 1 n xs) K32.rm; refine wpList_appStrS rfl (.tmp 8) (.tmp 9) 36 9 rfl 5 i0 Tryz.underlying36 Tryz.underlying9 iI.out ia ib ic _ n xs _ rfl hs _ rfl (by omega) ?_; intro v2 w2 hs2 hz2; clear hs; obtain ⟨a2, c2, rfl⟩ := E3.own_form (hs2.rowAt 0 rfl); (try clear hcE hzE hlE); obtain ⟨hcE, hzE, hlE⟩ := hs2.here (b := b) K32.rm; (try clear hcE33); have hcE33 := (hcE 33).trans (emV_33 ..); clear hcE; have HS := Lib.hid hs2; clear hs2))
  (first | go_end0 | refine bodyPost_ret (results_none rfl _ _ _) rfl ?_)
  refine ⟨⟨.slice a2 (n + s.size) c2, rfl, ?_⟩⟩
  ((with_reducible apply K30.sep_end); exact K32.fnd; intro hs; (try simp only [emV_sets] at hs); exact hs.end2 K32.rm K32.rm K32.sub)
end Go.Proofs.YtnjgnbdebkckfaaGreatDoor.T9
namespace Go.Proofs.YtnjgnbdebkckfaaGreatDoor.T10
set_option maxRecDepth 100000
open Go.RowKit K1 K3 K5 K11 K12 K14 K20 K21 K22 K25 K30 K31 M0 C1 C4 G1 G2 G3 G4 G5 G6 G7 G8 E3 E4 ME MF S3 S4 T1 T2 T3 T4 T5 T6 T7 T8 T9
attribute [local go_sem] cell_pastA froz_pastA
structure StP (b cb gb gc : Nat) (pv : Value) (pm po : Option Addr) (sb : Nat) (t : Te) (R : List UInt8) (l : List Int) (nv : Value) (F : List Res) (e : Ending) (w' : World) : Prop where
  out : ∃ av, e = .returned (.tuple #[]) ∧ Sep w' (.blk b (emQ t.m pv pm po (.pointer (some ⟨sb, 0, none⟩)) av) 108 :: gL cb gb gc t.cg (.blk sb (scells t.s) 126 :: .row av 5 1 (R).length ((R).map K14.u8) :: .row nv 3 1 l.length (ints l) :: F))
theorem digN_eq : ∀ (k n : Nat), n < 10 ^ (k + 1) → digN (k + 1) n = Lib.decDigits n
  | 0, n, h => by
    rw [Lib.decDigits]
    unfold digN
    rw [if_pos (by simpa using h), dif_pos (by simpa using h)]
  | k + 1, n, h => by
    rw [Lib.decDigits]
    unfold digN
    by_cases hn : n < 10
    · rw [if_pos hn, dif_pos hn]
    · rw [if_neg hn, dif_neg hn, digN_eq k (n / 10) (by rw [Nat.pow_succ] at h; omega)]
theorem digits_z (z : Int) (w : World) (h0 : 0 ≤ z) (h1 : z < 100) : Calls Tryz.prog 144 #[.int .i64 z] w fun e w' => e = .returned (.string ⟨(digF z).toArray⟩) ∧ Below w.heap.size w w' := by
  obtain ⟨i, rfl⟩ : ∃ i : Nat, z = i := ⟨z.toNat, by omega⟩
  have e : digF (i : Int) = Lib.decDigits i := digN_eq 19 i (Nat.lt_of_lt_of_le (show i < 100 by omega) (by decide))
  rw [e]
  go_enter Tryz.func144, Tryz.ntmps144
  go_wp2_with (first | (go_at_call 155; refine (Tryz.strconv_Itoa_small i (by omega) _).mono ?_; rintro e w1 ⟨rfl, rfl⟩))
  go_ret
  exact ⟨rfl, Below.refl _ _⟩
theorem strCells_u8 (l : List UInt8) : Lib.strCells ⟨l.toArray⟩ = l.map K14.u8 := by simp [Lib.strCells, K14.u8]
theorem reply_l (b : Nat) (pv : Value) (pm po : Option Addr) (sv av : Value) (t : Te) (R l : List UInt8) (s : ByteArray) (F : List Res) (w : World) (hs : Sep w (.blk b (emQ t.m pv pm po sv av) 108 :: .row av 5 1 (R).length ((R).map K14.u8) :: F)) (hn : R.length ≤ 1000000) (hl : l.length ≤ 1000) (he : s = ⟨l.toArray⟩) :
    Calls Tryz.prog 122 #[.pointer (some ⟨b, 0, none⟩), .string s] w (RpP b pv pm po sv t.m (R ++ l).length ((R ++ l).map K14.u8) F) := by
  subst he
  have h := reply_any b pv pm po sv av t R.length (R.map K14.u8) ⟨l.toArray⟩ F w hs hn (by show l.toArray.size ≤ 1000; simpa using hl)
  rw [strCells_u8] at h
  have e1 : R.length + (⟨l.toArray⟩ : ByteArray).size = (R ++ l).length := by show R.length + l.toArray.size = _; simp
  have e2 : R.map K14.u8 ++ l.map K14.u8 = (R ++ l).map K14.u8 := by simp
  rw [e1, e2] at h
  exact h
theorem nums_row {w : World} {v : Value} {l : List Int} (h : w.ownsRow 0 3 1 v l.length (ints l)) : Nums w v l := by
  rcases h.2 with ⟨rfl, h0⟩ | ⟨g, c, cur, rfl, _⟩
  · have : l = [] := List.length_eq_zero_iff.1 h0
    subst this
    exact ⟨none, 0, rfl, Nat.zero_le _, by decide, .inl rfl⟩
  · obtain ⟨h1, h2⟩ := K25.own_cap h
    obtain ⟨_, _, h3, _, _⟩ := K30.row_cells h
    refine ⟨_, c, rfl, h1, h2, .inr ⟨g, 0, rfl, h3, fun k x hx => ?_⟩⟩
    rw [Nat.zero_add]
    exact K25.own_at h (by unfold ints; rw [List.getElem?_map, hx]; rfl)
theorem dig_len (z : Int) (h0 : 0 ≤ z) (h1 : z < 100) : (digF z).length ≤ 2 := by
  unfold digF
  have h : ∀ n : Fin 100, (digN 20 n.1).length ≤ 2 := by decide
  exact h ⟨z.toNat, by omega⟩
theorem report_any (b cb gb gc : Nat) (pv : Value) (pm po : Option Addr) (sv av : Value) (t : Te) (k : Int) (R : List UInt8) (F : List Res) (w : World) (hs : Sep w (.blk b (emQ t.m pv pm po sv av) 108 :: .row av 5 1 (R).length ((R).map K14.u8) :: F)) (ok : TeOk t) (hR : R.length ≤ 1000000) :
    Calls Tryz.prog 121 #[.pointer (some ⟨b, 0, none⟩), .int .i64 k] w (RpP b pv pm po sv t.m (R ++ reportR t k).length ((R ++ reportR t k).map K14.u8) F) := by
  have y0 := ok.cu.y0; have y1 := ok.cu.y1; have bt := ok.tb; have bt0 := ok.top; have bh := ok.bc; have h20 := ok.cg.h20; have yh := ok.yc; have h1 := ok.cg.h1; have x0 := ok.cu.x0; have x1 := ok.cu.x1; have w2 := ok.cg.w2; have w40 := ok.cg.w40; have xw := ok.xc
  obtain ⟨hcE, hzE, hlE⟩ := hs.here (b := b) K32.rm
  have hcE0 := (hcE 0).trans (emV_0 ..); have hcE1 := (hcE 1).trans (emV_1 ..); have hcE7 := (hcE 7).trans (emV_7 ..); have hcE26 := (hcE 26).trans (emV_26 ..)
  have HS := Lib.hid hs
  clear hs ok hcE
  have hk : k = 5 ∨ k = 6 ∨ (k ≠ 5 ∧ k ≠ 6) := by omega
  rcases hk with rfl | rfl | ⟨k5, k6⟩
  · have e : reportR t 5 = [27, 91, 48, 110] := by unfold reportR; rfl
    rw [e]
    clear e
    go_enter Tryz.func121, Tryz.ntmps121
    go_wp2_with (first | (go_at_call 122; refine K32.ca (fun xw hs => ?_); (try simp only [emV_sets] at hs); have hs := hs.pick2 (r1 := .blk b (emQ t.m pv pm po sv av) 108) (r2 := .row av 5 1 (R).length ((R).map K14.u8)) K32.rm K32.rm; refine (reply_l b pv pm po sv av t R [27, 91, 48, 110] _ _ _ hs hR (by first | decide | (have := HL.out; omega)) (by first | rfl | (apply ByteArray.ext; simp))).mono ?_; clear hs; rintro e w1 ⟨⟨av1, rfl, hs⟩⟩; (try clear hcE0 hcE1 hcE7 hcE26 hzE hlE); obtain ⟨hcE0, hcE1, hcE7, hcE26, hzE, hlE⟩ := T1.f0_1_7_26 hs K32.rm; have HS := Lib.hid hs; clear hs))
    (first | go_end0 | refine bodyPost_ret (results_none rfl _ _ _) rfl ?_)
    exact ⟨⟨av1, rfl, HS.out⟩⟩
  · by_cases ho : t.m.cu.origin = true
    · have e : reportR t 6 = ([27, 91] ++ digF (max (t.m.cu.y - t.m.top) 0 + 1) ++ [59] ++ digF (t.m.cu.x + 1) ++ [82]) := by unfold reportR repY; rw [ho]; rfl
      have d1 := dig_len (max (t.m.cu.y - t.m.top) 0 + 1) (by omega) (by omega)
      have d2 := dig_len (t.m.cu.x + 1) (by omega) (by omega)
      have HL := Lib.hid (show (([27, 91] ++ digF (max (t.m.cu.y - t.m.top) 0 + 1) ++ [59] ++ digF (t.m.cu.x + 1) ++ [82])).length ≤ 1000 by simp only [List.length_append, List.length_cons, List.length_nil]; omega)
      rw [e]
      rw [ho] at hcE7
      clear e ho
      go_enter Tryz.func121, Tryz.ntmps121
      go_wp2_with (first | (refine K32.atW 7 (fun xw hs => ?_); (try simp only [emV_sets] at hs); (try clear hcE0 hcE1 hcE7 hcE26 hzE hlE); obtain ⟨hcE0, hcE1, hcE7, hcE26, hzE, hlE⟩ := T1.f0_1_7_26 hs K32.rm; have HS := Lib.hid hs; clear hs; refine K32.reg0 (w := xw) [] [] 15 ?_; simp only [numbered, List.take_succ_cons, List.take_zero, List.drop_succ_cons, List.drop_zero, List.take_nil, List.drop_nil, Nat.reduceAdd]; (iterate 15 (refine K32.zc ?_; apply Exists.intro; refine ⟨fun bs hok wx hwx hL => ?_, ?_⟩; (focus ((have hwx : Below _ _ wx := hwx; have hcx := cellA hwx; have hfx := frozA hwx; have hzx := hwx.size; (try simp at hzx)); unfold zAt; (try simp [go_sem, K32.ev, ↓IntWalk.iteOmega, *]); (try simp (disch := omega) only [K32.unw]); (try simp only [zUpon]); (first | (refine ⟨rfl, ?_⟩; go_at_call 144; refine (digits_z _ wx (by omega) (by omega)).mono ?_; rintro e wy ⟨rfl, hby⟩; exact ⟨_, rfl, rfl, hby⟩) | exact ⟨rfl, Below.refl _ _⟩))); (try go_simp))); refine wz_nil ?_; intro wq hbq hLq; clear hLq ; have hcwq := cellA hbq; have hfwq := frozA hbq; have hzwq := hbq.size; (try simp at hzwq); have hs := HS.out.below hbq; (try clear hcE0 hcE1 hcE7 hcE26 hzE hlE); obtain ⟨hcE0, hcE1, hcE7, hcE26, hzE, hlE⟩ := T1.f0_1_7_26 hs K32.rm; have HS := Lib.hid hs; clear hs hcwq hfwq hzwq hbq) | (go_at_call 122; refine K32.ca (fun xw hs => ?_); (try simp only [emV_sets] at hs); have hs := hs.pick2 (r1 := .blk b (emQ t.m pv pm po sv av) 108) (r2 := .row av 5 1 (R).length ((R).map K14.u8)) K32.rm K32.rm; refine (reply_l b pv pm po sv av t R ([27, 91] ++ digF (max (t.m.cu.y - t.m.top) 0 + 1) ++ [59] ++ digF (t.m.cu.x + 1) ++ [82]) _ _ _ hs hR (by first | decide | (have := HL.out; omega)) (by first | rfl | (apply ByteArray.ext; simp))).mono ?_; clear hs; rintro e w1 ⟨⟨av1, rfl, hs⟩⟩; (try clear hcE0 hcE1 hcE7 hcE26 hzE hlE); obtain ⟨hcE0, hcE1, hcE7, hcE26, hzE, hlE⟩ := T1.f0_1_7_26 hs K32.rm; have HS := Lib.hid hs; clear hs))
      (first | go_end0 | refine bodyPost_ret (results_none rfl _ _ _) rfl ?_)
      refine ⟨⟨av1, rfl, ?_⟩⟩
      simpa using HS.out
    · have e : reportR t 6 = ([27, 91] ++ digF (t.m.cu.y + 1) ++ [59] ++ digF (t.m.cu.x + 1) ++ [82]) := by unfold reportR repY; rw [Bool.eq_false_iff.2 ho]; rfl
      have d1 := dig_len (t.m.cu.y + 1) (by omega) (by omega)
      have d2 := dig_len (t.m.cu.x + 1) (by omega) (by omega)
      have HL := Lib.hid (show (([27, 91] ++ digF (t.m.cu.y + 1) ++ [59] ++ digF (t.m.cu.x + 1) ++ [82])).length ≤ 1000 by simp only [List.length_append, List.length_cons, List.length_nil]; omega)
      rw [e]
      rw [Bool.eq_false_iff.2 ho] at hcE7
      clear e ho
      go_enter Tryz.func121, Tryz.ntmps121
      go_wp2_with (first | (refine K32.atW 7 (fun xw hs => ?_); (try simp only [emV_sets] at hs); (try clear hcE0 hcE1 hcE7 hcE26 hzE hlE); obtain ⟨hcE0, hcE1, hcE7, hcE26, hzE, hlE⟩ := T1.f0_1_7_26 hs K32.rm; have HS := Lib.hid hs; clear hs; refine K32.reg0 (w := xw) [] [] 15 ?_; simp only [numbered, List.take_succ_cons, List.take_zero, List.drop_succ_cons, List.drop_zero, List.take_nil, List.drop_nil, Nat.reduceAdd]; (iterate 15 (refine K32.zc ?_; apply Exists.intro; refine ⟨fun bs hok wx hwx hL => ?_, ?_⟩; (focus ((have hwx : Below _ _ wx := hwx; have hcx := cellA hwx; have hfx := frozA hwx; have hzx := hwx.size; (try simp at hzx)); unfold zAt; (try simp [go_sem, K32.ev, ↓IntWalk.iteOmega, *]); (try simp (disch := omega) only [K32.unw]); (try simp only [zUpon]); (first | (refine ⟨rfl, ?_⟩; go_at_call 144; refine (digits_z _ wx (by omega) (by omega)).mono ?_; rintro e wy ⟨rfl, hby⟩; exact ⟨_, rfl, rfl, hby⟩) | exact ⟨rfl, Below.refl _ _⟩))); (try go_simp))); refine wz_nil ?_; intro wq hbq hLq; clear hLq ; have hcwq := cellA hbq; have hfwq := frozA hbq; have hzwq := hbq.size; (try simp at hzwq); have hs := HS.out.below hbq; (try clear hcE0 hcE1 hcE7 hcE26 hzE hlE); obtain ⟨hcE0, hcE1, hcE7, hcE26, hzE, hlE⟩ := T1.f0_1_7_26 hs K32.rm; have HS := Lib.hid hs; clear hs hcwq hfwq hzwq hbq) | (go_at_call 122; refine K32.ca (fun xw hs => ?_); (try simp only [emV_sets] at hs); have hs := hs.pick2 (r1 := .blk b (emQ t.m pv pm po sv av) 108) (r2 := .row av 5 1 (R).length ((R).map K14.u8)) K32.rm K32.rm; refine (reply_l b pv pm po sv av t R ([27, 91] ++ digF (t.m.cu.y + 1) ++ [59] ++ digF (t.m.cu.x + 1) ++ [82]) _ _ _ hs hR (by first | decide | (have := HL.out; omega)) (by first | rfl | (apply ByteArray.ext; simp))).mono ?_; clear hs; rintro e w1 ⟨⟨av1, rfl, hs⟩⟩; (try clear hcE0 hcE1 hcE7 hcE26 hzE hlE); obtain ⟨hcE0, hcE1, hcE7, hcE26, hzE, hlE⟩ := T1.f0_1_7_26 hs K32.rm; have HS := Lib.hid hs; clear hs))
      (first | go_end0 | refine bodyPost_ret (results_none rfl _ _ _) rfl ?_)
      refine ⟨⟨av1, rfl, ?_⟩⟩
      simpa using HS.out
  · have e : reportR t k = [] := by unfold reportR; rw [if_neg k5, if_neg k6]
    rw [e]
    clear e
    go_enter Tryz.func121, Tryz.ntmps121
    go_wp2_with fail
    (first | go_end0 | refine bodyPost_ret (results_none rfl _ _ _) rfl ?_)
    refine ⟨⟨av, rfl, ?_⟩⟩
    rw [List.append_nil]
    exact HS.out
end Go.Proofs.YtnjgnbdebkckfaaGreatDoor.T10
