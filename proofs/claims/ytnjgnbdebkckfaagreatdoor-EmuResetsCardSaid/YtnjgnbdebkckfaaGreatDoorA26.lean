/- T16 -/
import Derived.Test.YtnjgnbdebkckfaaGreatDoorA2
import Derived.Test.YtnjgnbdebkckfaaGreatDoorA25
import Derived.Lib.Hide
set_option linter.unusedVariables false
set_option linter.unusedSimpArgs false
set_option linter.unnecessarySimpa false
namespace Go.Proofs.YtnjgnbdebkckfaaGreatDoor.T16
set_option maxRecDepth 100000
open Go.RowKit K1 K3 K5 K11 K12 K14 K20 K21 K22 K25 K30 K31 M0 C1 G1 G2 G3 G4 G5 G6 G7 G8 G9 G10 E3 E12 E14 E25 ME MF S3 S4 T1 T2 T3 T4 T5 T6 T7 T8 T9 T10 T11 T12 T13 T14 T15
attribute [local go_sem] cell_pastA froz_pastA
theorem alt_okE {t : Te} (ok : TeOk t) (a : Bool) : TeOk ({ t with m := { t.m with late := false, alt := a } } : Te) := alt_ok ok false a
set_option maxHeartbeats 4000000 in
theorem swap_off (b sb cb gb gc xb hb hc : Nat) (pp pm po va : Option Addr) (vn vc : Nat) (t : Te) (F : List Res) (w : World) (hs : Sep w (teL b (.pointer pp) (.slice va vn vc) pm po sb cb gb gc xb hb hc t F)) (hcur : (if t.m.alt = true then po else pm) = some ⟨cb, 0, none⟩) (hoth : (if t.m.alt = true then pm else po) = some ⟨xb, 0, none⟩) (ok : TeOk t) (ha : t.m.alt = true) : Calls Tryz.prog 124 #[.pointer (some ⟨b, 0, none⟩), .bool false] w (TeP b (.pointer pp) (.slice va vn vc) (swapE t false) F) := by
  have e : swapE t false = restoreE ({ t with m := { t.m with late := false, alt := false } } : Te) := by unfold swapE; rw [ha]; rfl
  rw [e]
  clear e
  have hs : Sep w (.blk b (emQ t.m (.pointer pp) pm po (.pointer (some ⟨sb, 0, none⟩)) (.slice va vn vc)) 108 :: gL cb gb gc t.cg (gL xb hb hc t.og (.blk sb (scells t.s) 126 :: F))) := hs
  have e1 : t.cg = t.o := by unfold Te.cg; rw [ha]; rfl
  have e2 : t.og = t.g := by unfold Te.og; rw [ha]; rfl
  rw [e1, e2] at hs
  have OK := Lib.hid ok
  obtain ⟨hcE, hzE, hlE⟩ := hs.here (b := b) K32.rm
  have hcE0 := (hcE 0).trans (emV_0 ..); have hcE1 := (hcE 1).trans (emV_1 ..); have hcE31 := (hcE 31).trans (emV_31 ..); have hcE25 := (hcE 25).trans (emV_25 ..); have hcE2 := (hcE 2).trans (emV_2 ..); have hcE3 := (hcE 3).trans (emV_3 ..); have hcE4 := (hcE 4).trans (emV_4 ..); have hcE5 := (hcE 5).trans (emV_5 ..); have hcE6 := (hcE 6).trans (emV_6 ..); have hcE30 := (hcE 30).trans (emV_30 ..); have hcE28 := (hcE 28).trans (emV_28 ..); have hcE7 := (hcE 7).trans (emV_7 ..); have hcE26 := (hcE 26).trans (emV_26 ..)
  have HS := Lib.hid hs
  rw [ha] at hcE25
  have hx : pm = some ⟨xb, 0, none⟩ := by rw [ha] at hoth; exact hoth
  have hc0 : po = some ⟨cb, 0, none⟩ := by rw [ha] at hcur; exact hcur
  have HA := Lib.hid ha
  have HX := Lib.hid hx
  have HC0 := Lib.hid hc0
  clear hs ok hcur hoth hcE e1 e2 ha hx hc0
  go_enter Tryz.func124, Tryz.ntmps124
  go_wp2_with (first | (go_at_call 103; refine K32.ca (fun xw hs => ?_); (try simp only [emV_sets] at hs); have hs := hs.pick3 (r1 := .blk b (emQ (({ t with m := { t.m with late := false, alt := false } } : Te).m) (.pointer pp) pm po (.pointer (some ⟨sb, 0, none⟩)) (.slice va vn vc)) 108) (r2 := .blk xb (gcells t.g hb hc) 121) (r3 := .row (.slice (some ⟨hb, 0, none⟩) t.g.c.length hc) 58 6 t.g.c.length (t.g.c.flatMap ceV)) K32.rm K32.rm K32.rm; refine (restore_any b xb hb hc (.pointer pp) pm po (.pointer (some ⟨sb, 0, none⟩)) (.slice va vn vc) ({ t with m := { t.m with late := false, alt := false } } : Te) _ _ hs HX.out OK.out.g OK.out.kept).mono ?_; clear hs; rintro e w1 ⟨⟨rfl, hs⟩⟩; (try clear hcE0 hcE1 hcE2 hcE3 hcE4 hcE5 hcE6 hcE7 hcE25 hcE26 hcE28 hcE30 hcE31 hzE hlE); obtain ⟨hcE0, hcE1, hcE2, hcE3, hcE4, hcE5, hcE6, hcE7, hcE25, hcE26, hcE28, hcE30, hcE31, hzE, hlE⟩ := T1.f0_1_2_3_4_5_6_7_25_26_28_30_31 hs K32.rm; have HS := Lib.hid hs; clear hs))
  (first | go_end0 | refine bodyPost_ret (results_none rfl _ _ _) rfl ?_)
  refine ⟨⟨rfl, ⟨⟨sb, xb, hb, hc, cb, gb, gc, pm, po, HX.out, HC0.out, ?_⟩⟩⟩⟩
  exact HS.out.end6 (s1 := .blk b (emQ ((restoreE ({ t with m := { t.m with late := false, alt := false } } : Te)).m) (.pointer pp) pm po (.pointer (some ⟨sb, 0, none⟩)) (.slice va vn vc)) 108) (s2 := .blk xb (gcells (restoreE ({ t with m := { t.m with late := false, alt := false } } : Te)).cg hb hc) 121) (s3 := .row (.slice (some ⟨hb, 0, none⟩) (restoreE ({ t with m := { t.m with late := false, alt := false } } : Te)).cg.c.length hc) 58 6 (restoreE ({ t with m := { t.m with late := false, alt := false } } : Te)).cg.c.length ((restoreE ({ t with m := { t.m with late := false, alt := false } } : Te)).cg.c.flatMap ceV)) (s4 := .blk cb (gcells t.o gb gc) 121) (s5 := .row (.slice (some ⟨gb, 0, none⟩) t.o.c.length gc) 58 6 t.o.c.length (t.o.c.flatMap ceV)) (s6 := .blk sb (scells t.s) 126) K32.rm K32.rm K32.rm K32.rm K32.rm K32.rm K32.sub
set_option maxHeartbeats 4000000 in
theorem swap_on (b sb cb gb gc xb hb hc : Nat) (pp pm po va : Option Addr) (vn vc : Nat) (t : Te) (F : List Res) (w : World) (hs : Sep w (teL b (.pointer pp) (.slice va vn vc) pm po sb cb gb gc xb hb hc t F)) (hcur : (if t.m.alt = true then po else pm) = some ⟨cb, 0, none⟩) (hoth : (if t.m.alt = true then pm else po) = some ⟨xb, 0, none⟩) (ok : TeOk t) (ha : t.m.alt = false) : Calls Tryz.prog 124 #[.pointer (some ⟨b, 0, none⟩), .bool true] w (TeP b (.pointer pp) (.slice va vn vc) (swapE t true) F) := by
  have e : swapE t true = (saveE ({ t with m := { t.m with late := false, alt := true } } : Te)).setCg (fillG t.o 0 (t.o.w * t.o.h) (blankC t.m.cu.pen)) := by unfold swapE; rw [ha]; rfl
  rw [e]
  clear e
  have OKU := Lib.hid (alt_okE ok true)
  have z4 := ok.o.len
  have z5 := (ok.o.mul (y := 0) (by omega) (by have := ok.o.h1; omega)).2.2
  have hs : Sep w (.blk b (emQ t.m (.pointer pp) pm po (.pointer (some ⟨sb, 0, none⟩)) (.slice va vn vc)) 108 :: gL cb gb gc t.cg (gL xb hb hc t.og (.blk sb (scells t.s) 126 :: F))) := hs
  have e1 : t.cg = t.g := by unfold Te.cg; rw [ha]; rfl
  have e2 : t.og = t.o := by unfold Te.og; rw [ha]; rfl
  rw [e1, e2] at hs
  have OK := Lib.hid ok
  obtain ⟨hcE, hzE, hlE⟩ := hs.here (b := b) K32.rm
  have hcE0 := (hcE 0).trans (emV_0 ..); have hcE1 := (hcE 1).trans (emV_1 ..); have hcE31 := (hcE 31).trans (emV_31 ..); have hcE25 := (hcE 25).trans (emV_25 ..); have hcE2 := (hcE 2).trans (emV_2 ..); have hcE3 := (hcE 3).trans (emV_3 ..); have hcE4 := (hcE 4).trans (emV_4 ..); have hcE5 := (hcE 5).trans (emV_5 ..); have hcE6 := (hcE 6).trans (emV_6 ..); have hcE30 := (hcE 30).trans (emV_30 ..); have hcE28 := (hcE 28).trans (emV_28 ..); have hcE7 := (hcE 7).trans (emV_7 ..); have hcE26 := (hcE 26).trans (emV_26 ..)
  have HS := Lib.hid hs
  rw [ha] at hcE25
  have hx : po = some ⟨xb, 0, none⟩ := by rw [ha] at hoth; exact hoth
  have hc0 : pm = some ⟨cb, 0, none⟩ := by rw [ha] at hcur; exact hcur
  have HA := Lib.hid ha
  have HX := Lib.hid hx
  have HC0 := Lib.hid hc0
  clear hs ok hcur hoth hcE e1 e2 ha hx hc0
  go_enter Tryz.func124, Tryz.ntmps124
  go_wp2_with (first | (go_at_call 102; refine K32.ca (fun xw hs => ?_); (try simp only [emV_sets] at hs); have hs := hs.pick3 (r1 := .blk b (emQ (({ t with m := { t.m with late := false, alt := true } } : Te).m) (.pointer pp) pm po (.pointer (some ⟨sb, 0, none⟩)) (.slice va vn vc)) 108) (r2 := .blk xb (gcells t.o hb hc) 121) (r3 := .row (.slice (some ⟨hb, 0, none⟩) t.o.c.length hc) 58 6 t.o.c.length (t.o.c.flatMap ceV)) K32.rm K32.rm K32.rm; refine (save_any b xb hb hc (.pointer pp) pm po (.pointer (some ⟨sb, 0, none⟩)) (.slice va vn vc) ({ t with m := { t.m with late := false, alt := true } } : Te) _ _ hs HX.out OKU.out).mono ?_; clear hs; rintro e w1 ⟨⟨rfl, hs⟩⟩; (try clear hcE0 hcE1 hcE2 hcE3 hcE4 hcE5 hcE6 hcE7 hcE25 hcE26 hcE28 hcE30 hcE31 hzE hlE); obtain ⟨hcE0, hcE1, hcE2, hcE3, hcE4, hcE5, hcE6, hcE7, hcE25, hcE26, hcE28, hcE30, hcE31, hzE, hlE⟩ := T1.f0_1_2_3_4_5_6_7_25_26_28_30_31 hs K32.rm; have HS := Lib.hid hs; clear hs) | (go_at_call 51; refine K32.ca (fun xw hs => ?_); (try simp only [emV_sets] at hs); have hC := (grid_c b _ true pm po (some ⟨xb, 0, none⟩) xw (EmAt.of hs K32.rm) (by rfl) (by rfl) (by rfl) HX.out); (with_reducible refine hC.mono ?_); clear hC; rintro e w1 ⟨rfl, hb⟩; have hs := hs.below hb; clear hb; (try clear hcE0 hcE1 hcE2 hcE3 hcE4 hcE5 hcE6 hcE7 hcE25 hcE26 hcE28 hcE30 hcE31 hzE hlE); obtain ⟨hcE0, hcE1, hcE2, hcE3, hcE4, hcE5, hcE6, hcE7, hcE25, hcE26, hcE28, hcE30, hcE31, hzE, hlE⟩ := T1.f0_1_2_3_4_5_6_7_25_26_28_30_31 hs K32.rm; have HS := Lib.hid hs; clear hs) | (go_at_call 47; refine K32.ca (fun xw hs => ?_); (try simp only [emV_sets] at hs); have hC := (G1.W_any xb hb hc t.o xw (GrAt.of hs K32.rm)); (with_reducible refine hC.mono ?_); clear hC; rintro e w1 ⟨rfl, hb⟩; have hs := hs.below hb; clear hb; (try clear hcE0 hcE1 hcE2 hcE3 hcE4 hcE5 hcE6 hcE7 hcE25 hcE26 hcE28 hcE30 hcE31 hzE hlE); obtain ⟨hcE0, hcE1, hcE2, hcE3, hcE4, hcE5, hcE6, hcE7, hcE25, hcE26, hcE28, hcE30, hcE31, hzE, hlE⟩ := T1.f0_1_2_3_4_5_6_7_25_26_28_30_31 hs K32.rm; have HS := Lib.hid hs; clear hs) | (go_at_call 45; refine K32.ca (fun xw hs => ?_); (try simp only [emV_sets] at hs); have hC := (G1.H_any xb hb hc t.o xw (GrAt.of hs K32.rm)); (with_reducible refine hC.mono ?_); clear hC; rintro e w1 ⟨rfl, hb⟩; have hs := hs.below hb; clear hb; (try clear hcE0 hcE1 hcE2 hcE3 hcE4 hcE5 hcE6 hcE7 hcE25 hcE26 hcE28 hcE30 hcE31 hzE hlE); obtain ⟨hcE0, hcE1, hcE2, hcE3, hcE4, hcE5, hcE6, hcE7, hcE25, hcE26, hcE28, hcE30, hcE31, hzE, hlE⟩ := T1.f0_1_2_3_4_5_6_7_25_26_28_30_31 hs K32.rm; have HS := Lib.hid hs; clear hs) | (go_at_call 80; refine K32.ca (fun xw hs => ?_); (try simp only [emV_sets] at hs); have hC := (blankE_c b _ t.m.cu.pen xw (EmAt.of hs K32.rm) (by rfl) (by rfl) (by rfl) (by rfl) (by rfl)); (with_reducible refine hC.mono ?_); clear hC; rintro e w1 ⟨rfl, hb⟩; have hs := hs.below hb; clear hb; (try clear hcE0 hcE1 hcE2 hcE3 hcE4 hcE5 hcE6 hcE7 hcE25 hcE26 hcE28 hcE30 hcE31 hzE hlE); obtain ⟨hcE0, hcE1, hcE2, hcE3, hcE4, hcE5, hcE6, hcE7, hcE25, hcE26, hcE28, hcE30, hcE31, hzE, hlE⟩ := T1.f0_1_2_3_4_5_6_7_25_26_28_30_31 hs K32.rm; have HS := Lib.hid hs; clear hs) | (go_at_call 61; refine K32.ca (fun xw hs => ?_); (try simp only [emV_sets] at hs); have hs := hs.pick2 (r1 := .blk xb (gcells t.o hb hc) 121) (r2 := .row (.slice (some ⟨hb, 0, none⟩) t.o.c.length hc) 58 6 t.o.c.length (t.o.c.flatMap ceV)) K32.rm K32.rm; refine (Fill_any xb hb hc t.o 0 (t.o.w * t.o.h) (blankC t.m.cu.pen) _ _ hs OK.out.o).mono ?_; clear hs; rintro e w1 ⟨⟨rfl, hs⟩⟩; (try clear hcE0 hcE1 hcE2 hcE3 hcE4 hcE5 hcE6 hcE7 hcE25 hcE26 hcE28 hcE30 hcE31 hzE hlE); obtain ⟨hcE0, hcE1, hcE2, hcE3, hcE4, hcE5, hcE6, hcE7, hcE25, hcE26, hcE28, hcE30, hcE31, hzE, hlE⟩ := T1.f0_1_2_3_4_5_6_7_25_26_28_30_31 hs K32.rm; have HS := Lib.hid hs; clear hs))
  (first | go_end0 | refine bodyPost_ret (results_none rfl _ _ _) rfl ?_)
  have k1 := setCg_m (saveE ({ t with m := { t.m with late := false, alt := true } } : Te)) (fillG t.o 0 (t.o.w * t.o.h) (blankC t.m.cu.pen))
  have k2 := setCg_cg (saveE ({ t with m := { t.m with late := false, alt := true } } : Te)) (fillG t.o 0 (t.o.w * t.o.h) (blankC t.m.cu.pen))
  have k3 := setCg_og (saveE ({ t with m := { t.m with late := false, alt := true } } : Te)) (fillG t.o 0 (t.o.w * t.o.h) (blankC t.m.cu.pen))
  have k4 := setCg_s (saveE ({ t with m := { t.m with late := false, alt := true } } : Te)) (fillG t.o 0 (t.o.w * t.o.h) (blankC t.m.cu.pen))
  refine ⟨⟨rfl, ⟨⟨sb, xb, hb, hc, cb, gb, gc, pm, po, ?_, ?_, ?_⟩⟩⟩⟩
  · rw [k1]; exact HX.out
  · rw [k1]; exact HC0.out
  · unfold teL
    rw [k1, k2, k3, k4]
    exact HS.out.end6 (s1 := .blk b (emQ ((saveE ({ t with m := { t.m with late := false, alt := true } } : Te)).m) (.pointer pp) pm po (.pointer (some ⟨sb, 0, none⟩)) (.slice va vn vc)) 108) (s2 := .blk xb (gcells (fillG t.o 0 (t.o.w * t.o.h) (blankC t.m.cu.pen)) hb hc) 121) (s3 := .row (.slice (some ⟨hb, 0, none⟩) (fillG t.o 0 (t.o.w * t.o.h) (blankC t.m.cu.pen)).c.length hc) 58 6 (fillG t.o 0 (t.o.w * t.o.h) (blankC t.m.cu.pen)).c.length ((fillG t.o 0 (t.o.w * t.o.h) (blankC t.m.cu.pen)).c.flatMap ceV)) (s4 := .blk cb (gcells t.g gb gc) 121) (s5 := .row (.slice (some ⟨gb, 0, none⟩) t.g.c.length gc) 58 6 t.g.c.length (t.g.c.flatMap ceV)) (s6 := .blk sb (scells t.s) 126) K32.rm K32.rm K32.rm K32.rm K32.rm K32.rm K32.sub
set_option maxHeartbeats 4000000 in
theorem swap_same (b sb cb gb gc xb hb hc : Nat) (pp pm po va : Option Addr) (vn vc : Nat) (t : Te) (F : List Res) (w : World) (hs : Sep w (teL b (.pointer pp) (.slice va vn vc) pm po sb cb gb gc xb hb hc t F)) (hcur : (if t.m.alt = true then po else pm) = some ⟨cb, 0, none⟩) (hoth : (if t.m.alt = true then pm else po) = some ⟨xb, 0, none⟩) (ok : TeOk t) : Calls Tryz.prog 124 #[.pointer (some ⟨b, 0, none⟩), .bool t.m.alt] w (TeP b (.pointer pp) (.slice va vn vc) (t) F) := by
  have hs0 := hs
  have hs : Sep w (.blk b (emQ t.m (.pointer pp) pm po (.pointer (some ⟨sb, 0, none⟩)) (.slice va vn vc)) 108 :: gL cb gb gc t.cg (gL xb hb hc t.og (.blk sb (scells t.s) 126 :: F))) := hs
  obtain ⟨hcE, hzE, hlE⟩ := hs.here (b := b) K32.rm
  have hcE25 := (hcE 25).trans (emV_25 ..)
  have HS0 := Lib.hid hs0
  clear hs hs0 hcE
  go_enter Tryz.func124, Tryz.ntmps124
  go_wp2_with fail
  (first | go_end0 | refine bodyPost_ret (results_none rfl _ _ _) rfl ?_)
  exact ⟨⟨rfl, teAt_same HS0.out hcur hoth (.refl t)⟩⟩
theorem swap_any (b sb cb gb gc xb hb hc : Nat) (pp pm po va : Option Addr) (vn vc : Nat) (t : Te) (on : Bool) (F : List Res) (w : World) (hs : Sep w (teL b (.pointer pp) (.slice va vn vc) pm po sb cb gb gc xb hb hc t F)) (hcur : (if t.m.alt = true then po else pm) = some ⟨cb, 0, none⟩) (hoth : (if t.m.alt = true then pm else po) = some ⟨xb, 0, none⟩) (ok : TeOk t) : Calls Tryz.prog 124 #[.pointer (some ⟨b, 0, none⟩), .bool on] w (TeP b (.pointer pp) (.slice va vn vc) (swapE t on) F) := by
  by_cases h : on = t.m.alt
  · have e : swapE t on = t := by unfold swapE; rw [if_pos h]
    rw [e, h]
    exact swap_same b sb cb gb gc xb hb hc pp pm po va vn vc t F w hs hcur hoth ok
  · cases on with
    | true => exact swap_on b sb cb gb gc xb hb hc pp pm po va vn vc t F w hs hcur hoth ok (by cases ha : t.m.alt <;> simp_all)
    | false => exact swap_off b sb cb gb gc xb hb hc pp pm po va vn vc t F w hs hcur hoth ok (by cases ha : t.m.alt <;> simp_all)
set_option maxHeartbeats 4000000 in
theorem priv_any (b sb cb gb gc xb hb hc : Nat) (pp pm po va : Option Addr) (vn vc : Nat) (t : Te) (k : Int) (on : Bool) (F : List Res) (w : World) (hs : Sep w (teL b (.pointer pp) (.slice va vn vc) pm po sb cb gb gc xb hb hc t F)) (hcur : (if t.m.alt = true then po else pm) = some ⟨cb, 0, none⟩) (hoth : (if t.m.alt = true then pm else po) = some ⟨xb, 0, none⟩) (ok : TeOk t) : Calls Tryz.prog 88 #[.pointer (some ⟨b, 0, none⟩), .int .i64 k, .bool on] w (TeP b (.pointer pp) (.slice va vn vc) (privE t k on) F) := by
  have hs : Sep w (.blk b (emQ t.m (.pointer pp) pm po (.pointer (some ⟨sb, 0, none⟩)) (.slice va vn vc)) 108 :: gL cb gb gc t.cg (gL xb hb hc t.og (.blk sb (scells t.s) 126 :: F))) := hs
  have HCUR := Lib.hid hcur
  have HOTH := Lib.hid hoth
  have OK := Lib.hid ok
  obtain ⟨hcE, hzE, hlE⟩ := hs.here (b := b) K32.rm
  have hcE7 := (hcE 7).trans (emV_7 ..); have hcE28 := (hcE 28).trans (emV_28 ..); have hcE30 := (hcE 30).trans (emV_30 ..)
  have HS := Lib.hid hs
  clear hs ok hcur hoth hcE
  by_cases hb' : k = 6 ∨ k = 7 ∨ k = 25 ∨ k = 1049
  · rcases hb' with rfl | rfl | rfl | rfl
    · have e : privE t 6 on = homeE ({ t with m := { t.m with cu := { t.m.cu with origin := on } } } : Te) := by unfold privE; rfl
      rw [e]
      clear e
      go_enter Tryz.func88, Tryz.ntmps88
      go_wp2_with (first | (go_at_call 123; refine K32.ca (fun xw hs => ?_); (try simp only [emV_sets] at hs); have hs := hs.pick3 (r1 := .blk b (emQ (({ t with m := { t.m with cu := { t.m.cu with origin := on } } } : Te).m) (.pointer pp) pm po (.pointer (some ⟨sb, 0, none⟩)) (.slice va vn vc)) 108) (r2 := .blk cb (gcells t.cg gb gc) 121) (r3 := .row (.slice (some ⟨gb, 0, none⟩) t.cg.c.length gc) 58 6 t.cg.c.length (t.cg.c.flatMap ceV)) K32.rm K32.rm K32.rm; refine (home_any b cb gb gc (.pointer pp) pm po (.pointer (some ⟨sb, 0, none⟩)) (.slice va vn vc) ({ t with m := { t.m with cu := { t.m.cu with origin := on } } } : Te) _ _ hs HCUR.out).mono ?_; clear hs; rintro e w1 ⟨⟨rfl, hs⟩⟩; (try clear hcE7 hcE28 hcE30 hzE hlE); obtain ⟨hcE7, hcE28, hcE30, hzE, hlE⟩ := T1.f7_28_30 hs K32.rm; have HS := Lib.hid hs; clear hs))
      (first | go_end0 | refine bodyPost_ret (results_none rfl _ _ _) rfl ?_)
      refine ⟨⟨rfl, ⟨⟨sb, cb, gb, gc, xb, hb, hc, pm, po, HCUR.out, HOTH.out, ?_⟩⟩⟩⟩
      (with_reducible apply K30.sep_end)
      exact K32.fnd
      intro hs
      (try simp only [emV_sets] at hs)
      exact hs.end6 (s1 := .blk b (emQ ((homeE ({ t with m := { t.m with cu := { t.m.cu with origin := on } } } : Te)).m) (.pointer pp) pm po (.pointer (some ⟨sb, 0, none⟩)) (.slice va vn vc)) 108) (s2 := .blk cb (gcells (homeE ({ t with m := { t.m with cu := { t.m.cu with origin := on } } } : Te)).cg gb gc) 121) (s3 := .row (.slice (some ⟨gb, 0, none⟩) (homeE ({ t with m := { t.m with cu := { t.m.cu with origin := on } } } : Te)).cg.c.length gc) 58 6 (homeE ({ t with m := { t.m with cu := { t.m.cu with origin := on } } } : Te)).cg.c.length ((homeE ({ t with m := { t.m with cu := { t.m.cu with origin := on } } } : Te)).cg.c.flatMap ceV)) (s4 := .blk xb (gcells t.og hb hc) 121) (s5 := .row (.slice (some ⟨hb, 0, none⟩) t.og.c.length hc) 58 6 t.og.c.length (t.og.c.flatMap ceV)) (s6 := .blk sb (scells t.s) 126) K32.rm K32.rm K32.rm K32.rm K32.rm K32.rm K32.sub
    · have e : privE t 7 on = { t with m := { t.m with wrap := on } } := by unfold privE; rfl
      rw [e]
      clear e
      go_enter Tryz.func88, Tryz.ntmps88
      go_wp2_with fail
      (first | go_end0 | refine bodyPost_ret (results_none rfl _ _ _) rfl ?_)
      refine ⟨⟨rfl, ⟨⟨sb, cb, gb, gc, xb, hb, hc, pm, po, HCUR.out, HOTH.out, ?_⟩⟩⟩⟩
      (with_reducible apply K30.sep_end)
      exact K32.fnd
      intro hs
      (try simp only [emV_sets] at hs)
      exact hs.end6 (s1 := .blk b (emQ ((({ t with m := { t.m with wrap := on } } : Te)).m) (.pointer pp) pm po (.pointer (some ⟨sb, 0, none⟩)) (.slice va vn vc)) 108) (s2 := .blk cb (gcells (({ t with m := { t.m with wrap := on } } : Te)).cg gb gc) 121) (s3 := .row (.slice (some ⟨gb, 0, none⟩) (({ t with m := { t.m with wrap := on } } : Te)).cg.c.length gc) 58 6 (({ t with m := { t.m with wrap := on } } : Te)).cg.c.length ((({ t with m := { t.m with wrap := on } } : Te)).cg.c.flatMap ceV)) (s4 := .blk xb (gcells t.og hb hc) 121) (s5 := .row (.slice (some ⟨hb, 0, none⟩) t.og.c.length hc) 58 6 t.og.c.length (t.og.c.flatMap ceV)) (s6 := .blk sb (scells t.s) 126) K32.rm K32.rm K32.rm K32.rm K32.rm K32.rm K32.sub
    · have e : privE t 25 on = { t with m := { t.m with hidden := !on } } := by unfold privE; rfl
      rw [e]
      clear e
      go_enter Tryz.func88, Tryz.ntmps88
      go_wp2_with fail
      (first | go_end0 | refine bodyPost_ret (results_none rfl _ _ _) rfl ?_)
      refine ⟨⟨rfl, ⟨⟨sb, cb, gb, gc, xb, hb, hc, pm, po, HCUR.out, HOTH.out, ?_⟩⟩⟩⟩
      (with_reducible apply K30.sep_end)
      exact K32.fnd
      intro hs
      (try simp only [emV_sets] at hs)
      exact hs.end6 (s1 := .blk b (emQ ((({ t with m := { t.m with hidden := !on } } : Te)).m) (.pointer pp) pm po (.pointer (some ⟨sb, 0, none⟩)) (.slice va vn vc)) 108) (s2 := .blk cb (gcells (({ t with m := { t.m with hidden := !on } } : Te)).cg gb gc) 121) (s3 := .row (.slice (some ⟨gb, 0, none⟩) (({ t with m := { t.m with hidden := !on } } : Te)).cg.c.length gc) 58 6 (({ t with m := { t.m with hidden := !on } } : Te)).cg.c.length ((({ t with m := { t.m with hidden := !on } } : Te)).cg.c.flatMap ceV)) (s4 := .blk xb (gcells t.og hb hc) 121) (s5 := .row (.slice (some ⟨hb, 0, none⟩) t.og.c.length hc) 58 6 t.og.c.length (t.og.c.flatMap ceV)) (s6 := .blk sb (scells t.s) 126) K32.rm K32.rm K32.rm K32.rm K32.rm K32.rm K32.sub
    · have e : privE t 1049 on = swapE t on := by unfold privE; rfl
      rw [e]
      clear e
      go_enter Tryz.func88, Tryz.ntmps88
      go_wp2_with (first | (go_at_call 124; refine (swap_any b sb cb gb gc xb hb hc pp pm po va vn vc t on F _ HS.out HCUR.out HOTH.out OK.out).mono ?_; rintro e w1 ⟨⟨rfl, ht⟩⟩))
      (first | go_end0 | refine bodyPost_ret (results_none rfl _ _ _) rfl ?_)
      exact ⟨⟨rfl, ht⟩⟩
  · have e : privE t k on = t := by unfold privE; rw [if_neg (by omega), if_neg (by omega), if_neg (by omega), if_neg (by omega)]
    rw [e]
    have hk6 : k ≠ 6 := by omega
    have hk7 : k ≠ 7 := by omega
    have hk25 : k ≠ 25 := by omega
    have hk1049 : k ≠ 1049 := by omega
    clear e hb'
    go_enter Tryz.func88, Tryz.ntmps88
    go_wp2_with fail
    (first | go_end0 | refine bodyPost_ret (results_none rfl _ _ _) rfl ?_)
    refine ⟨⟨rfl, ⟨⟨sb, cb, gb, gc, xb, hb, hc, pm, po, HCUR.out, HOTH.out, ?_⟩⟩⟩⟩
    (with_reducible apply K30.sep_end)
    exact K32.fnd
    intro hs
    (try simp only [emV_sets] at hs)
    exact hs.end6 (s1 := .blk b (emQ ((t).m) (.pointer pp) pm po (.pointer (some ⟨sb, 0, none⟩)) (.slice va vn vc)) 108) (s2 := .blk cb (gcells (t).cg gb gc) 121) (s3 := .row (.slice (some ⟨gb, 0, none⟩) (t).cg.c.length gc) 58 6 (t).cg.c.length ((t).cg.c.flatMap ceV)) (s4 := .blk xb (gcells t.og hb hc) 121) (s5 := .row (.slice (some ⟨hb, 0, none⟩) t.og.c.length hc) 58 6 t.og.c.length (t.og.c.flatMap ceV)) (s6 := .blk sb (scells t.s) 126) K32.rm K32.rm K32.rm K32.rm K32.rm K32.rm K32.sub
end Go.Proofs.YtnjgnbdebkckfaaGreatDoor.T16
