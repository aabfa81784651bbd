/- T22, T23, T24 -/
import Derived.Test.YtnjgnbdebkckfaaGreatDoorA2
import Derived.Test.YtnjgnbdebkckfaaGreatDoorA11
import Derived.Test.YtnjgnbdebkckfaaGreatDoorA30
import Derived.Test.YtnjgnbdebkckfaaGreatDoorA31
import Derived.Lib.Hide
set_option linter.unusedVariables false
set_option linter.unusedSimpArgs false
set_option linter.unnecessarySimpa false
namespace Go.Proofs.YtnjgnbdebkckfaaGreatDoor.T22
set_option maxRecDepth 100000
open Go.RowKit K1 K3 K5 K11 K12 K14 K20 K21 K22 K25 K30 K31 M0 C1 G1 G2 G3 G4 G5 G6 G7 G8 G9 G10 E3 E12 E14 E25 ME MF S3 S4 T1 T2 T3 T4 T5 T6 T7 T8 T9 T10 T11 T12 T13 T14 T15 T16 E2 E15 K7 K9 T17 T18 T19 T20 T21 U1 U3 MP
attribute [local go_sem] cell_pastA froz_pastA
def textE (t : Te) : List (List UInt8) := gridT t.cg t.cg.h.toNat
theorem textE_len (t : Te) : (textE t).length = t.cg.h.toNat := by unfold textE gridT; simp
structure TxP (b : Nat) (m : Tm) (F : List Res) (e : Ending) (w' : World) : Prop where
  out : ∃ v, e = .returned v ∧ TmAt b m (.row v 9 1 (textE m.t).length ((textE m.t).map strW) :: F) w'
theorem tm_in {b sb cb gb gc xb hb hc pb : Nat} {pm po : Option Addr} {o : Bool} {iv nv tv : Value} {m : Tm} {F : List Res} {w : World} (hs : Sep w (.blk b (emQ m.t.m (.pointer (some ⟨pb, 0, none⟩)) pm po (.pointer (some ⟨sb, 0, none⟩)) (.slice none 0 0)) 108 :: gL cb gb gc m.t.cg (gL xb hb hc m.t.og (.blk sb (scells m.t.s) 126 :: pL pb o 102 m.p iv nv tv F)))) (h1 : (if m.t.m.alt = true then po else pm) = some ⟨cb, 0, none⟩) (h2 : (if m.t.m.alt = true then pm else po) = some ⟨xb, 0, none⟩) : TmAt b m F w :=
  ⟨⟨pb, o, iv, nv, tv, ⟨⟨sb, cb, gb, gc, xb, hb, hc, pm, po, h1, h2, hs⟩⟩⟩⟩
/-- a new part, and the shown grid ahead: each back to its place -/
theorem tm_new1 {b sb cb gb gc xb hb hc pb : Nat} {pm po : Option Addr} {o : Bool} {iv nv tv : Value} {m : Tm} {F : List Res} {w : World} {r : Res} (hs : Sep w (r :: gL cb gb gc m.t.cg (.blk b (emQ m.t.m (.pointer (some ⟨pb, 0, none⟩)) pm po (.pointer (some ⟨sb, 0, none⟩)) (.slice none 0 0)) 108 :: gL xb hb hc m.t.og (.blk sb (scells m.t.s) 126 :: pL pb o 102 m.p iv nv tv F)))) : Sep w (.blk b (emQ m.t.m (.pointer (some ⟨pb, 0, none⟩)) pm po (.pointer (some ⟨sb, 0, none⟩)) (.slice none 0 0)) 108 :: gL cb gb gc m.t.cg (gL xb hb hc m.t.og (.blk sb (scells m.t.s) 126 :: pL pb o 102 m.p iv nv tv (r :: F)))) := by
  have h1 := hs.perm (List.Perm.cons r (List.perm_append_comm_assoc ([.blk cb (gcells m.t.cg gb gc) 121, .row (.slice (some ⟨gb, 0, none⟩) m.t.cg.c.length gc) 58 6 m.t.cg.c.length (m.t.cg.c.flatMap ceV)] : List Res) ([.blk b (emQ m.t.m (.pointer (some ⟨pb, 0, none⟩)) pm po (.pointer (some ⟨sb, 0, none⟩)) (.slice none 0 0)) 108] : List Res) (gL xb hb hc m.t.og (.blk sb (scells m.t.s) 126 :: pL pb o 102 m.p iv nv tv F))))
  unfold pL at h1 ⊢
  exact h1.perm (List.perm_middle (l₁ := [_, _, _, _, _, _, _, _, _, _])).symm
set_option maxHeartbeats 4000000 in
theorem text_m (b : Nat) (m : Tm) (F : List Res) (w : World) (h : TmAt b m F w) (ok : TmOk m) : Calls Tryz.prog 25 #[.pointer (some ⟨b, 0, none⟩)] w (TxP b m F) := by
  obtain ⟨pb, o, iv, nv, tv, sb, cb, gb, gc, xb, hb, hc, pm, po, h1, h2, h3⟩ := h
  obtain ⟨g, hg⟩ := main_some h1 h2
  have hs : Sep w (.blk b (emQ m.t.m (.pointer (some ⟨pb, 0, none⟩)) pm po (.pointer (some ⟨sb, 0, none⟩)) (.slice none 0 0)) 108 :: gL cb gb gc m.t.cg (gL xb hb hc m.t.og (.blk sb (scells m.t.s) 126 :: pL pb o 102 m.p iv nv tv F))) := h3
  obtain ⟨hcE, hzE, hlE⟩ := hs.here (b := b) K32.rm
  have hcE23 := (hcE 23).trans (emV_23 ..); have hcE25 := (hcE 25).trans (emV_25 ..); have hcE0 := (hcE 0).trans (emV_0 ..); have hcE1 := (hcE 1).trans (emV_1 ..); have hcE30 := (hcE 30).trans (emV_30 ..); have hcE26 := (hcE 26).trans (emV_26 ..); have hcE27 := (hcE 27).trans (emV_27 ..)
  rw [hg] at hcE23
  have HS := Lib.hid hs
  have H1 := Lib.hid h1
  have H2 := Lib.hid h2
  have OK := Lib.hid ok
  clear hs h1 h2 h3 hg ok hcE
  have RK := Lib.hid (show RunesOk m.t.cg from ⟨fun c hcm => by have h0 := OK.out.t.cc c hcm; have h1 := h0.r0; have h2 := h0.r1; omega⟩)
  go_enter Tryz.func25, Tryz.ntmps25
  go_wp2_with (first | (go_at_call 48; refine (none_any b none g _ hcE23).mono ?_; rintro e w1 ⟨rfl, hbw⟩; have hs := HS.out.below hbw; (try clear hcE0 hcE1 hcE23 hcE25 hcE26 hcE27 hcE30 hzE hlE); obtain ⟨hcE0, hcE1, hcE23, hcE25, hcE26, hcE27, hcE30, hzE, hlE⟩ := T1.f0_1_23_25_26_27_30 hs K32.rm; have HS := Lib.hid hs; clear hs hbw) | (go_at_call 51; have hs := HS.out; have hC := (grid_c b _ m.t.m.alt pm po (some ⟨cb, 0, none⟩) _ (EmAt.of hs K32.rm) (by rfl) (by rfl) (by rfl) H1.out); (with_reducible refine hC.mono ?_); clear hC; rintro e w1 ⟨rfl, hb⟩; have hs := hs.below hb; clear hb; (try clear hcE0 hcE1 hcE23 hcE25 hcE26 hcE27 hcE30 hzE hlE); obtain ⟨hcE0, hcE1, hcE23, hcE25, hcE26, hcE27, hcE30, hzE, hlE⟩ := T1.f0_1_23_25_26_27_30 hs K32.rm; have HS := Lib.hid hs; clear hs) | (go_at_call 52; have hs := HS.out.pick2 (r1 := .blk cb (gcells m.t.cg gb gc) 121) (r2 := .row (.slice (some ⟨gb, 0, none⟩) m.t.cg.c.length gc) 58 6 m.t.cg.c.length (m.t.cg.c.flatMap ceV)) K32.rm K32.rm; refine (GText_any cb gb gc m.t.cg _ _ hs OK.out.t.cg RK.out).mono ?_; clear hs; rintro e w2 ⟨⟨v, rfl, hs⟩⟩; have HS := Lib.hid hs; clear hs))
  go_ret
  refine ⟨⟨v, rfl, tm_in (sb := sb) (cb := cb) (gb := gb) (gc := gc) (xb := xb) (hb := hb) (hc := hc) (pb := pb) (pm := pm) (po := po) (o := o) (iv := iv) (nv := nv) (tv := tv) ?_ H1.out H2.out⟩⟩
  rw [textE_len]
  exact tm_new1 HS.out
end Go.Proofs.YtnjgnbdebkckfaaGreatDoor.T22
namespace Go.Proofs.YtnjgnbdebkckfaaGreatDoor.T23
set_option maxRecDepth 100000
open Go.RowKit K1 K3 K5 K11 K12 K14 K20 K21 K22 K25 K30 K31 M0 C1 G1 G2 G3 G4 G5 G6 G7 G8 G9 G10 E3 E12 E14 E25 ME MF S3 S4 T1 T2 T3 T4 T5 T6 T7 T8 T9 T10 T11 T12 T13 T14 T15 T16 E2 E15 K7 K9 T17 T18 T19 T20 T21 T22 U1 U3 MP
attribute [local go_sem] cell_pastA froz_pastA
structure CelQ (B : Nat) (g : Gr) (w : World) (e : Ending) (w' : World) : Prop where
  out : ∃ p : Nat × Nat, e = .returned (.slice (some ⟨p.1, 0, none⟩) g.c.length p.2) ∧ Below w.heap.size w w' ∧ w'.ownsRow B 58 6 (.slice (some ⟨p.1, 0, none⟩) g.c.length p.2) g.c.length (g.c.flatMap ceV)
theorem cells_q (B b gb gc : Nat) (g : Gr) (w : World) (hB : B ≤ w.heap.size) (h : GrAt w b gb gc g) (ok : GrOk g) (hc : ∀ j v, (g.c.flatMap ceV)[j]? = some v → w.cell? ⟨gb, 0 + j, none⟩ = some v) (hlt : gb < w.heap.size) : Calls Tryz.prog 53 #[.pointer (some ⟨b, 0, none⟩)] w (CelQ B g w) := by
  have HC := Lib.hid hc
  obtain ⟨p1, p2⟩ := GrOk.pos ok
  have hcG0 := h.w0
  have hcG1 := h.h0
  have hcG2 := h.c0
  have hl := h.lt
  clear h hc
  go_enter Tryz.func53, Tryz.ntmps53
  go_wp2_with (go_at_call 63; refine (clone_b B gb 0 _ gc g.c _ hB rfl (by omega) (by omega) HC.out hlt).mono ?_; rintro e w1 ⟨⟨p, rfl, hb, ho⟩⟩)
  go_ret
  exact ⟨⟨p, rfl, hb, ho⟩⟩
def scrV (t : Te) (k cap : Nat) : Value := .agg #[.int .i64 t.cg.w, .int .i64 t.cg.h, .slice (some ⟨k, 0, none⟩) t.cg.c.length cap, .int .i64 t.m.cu.x, .int .i64 t.m.cu.y, .bool t.m.hidden]
structure ScP (b : Nat) (m : Tm) (F : List Res) (e : Ending) (w' : World) : Prop where
  out : ∃ k cap, e = .returned (scrV m.t k cap) ∧ TmAt b m (.row (.slice (some ⟨k, 0, none⟩) m.t.cg.c.length cap) 58 6 m.t.cg.c.length (m.t.cg.c.flatMap ceV) :: F) w'
theorem tm_new2 {b sb cb gb gc xb hb hc pb : Nat} {pm po : Option Addr} {o : Bool} {iv nv tv : Value} {m : Tm} {F : List Res} {w : World} {r : Res} (hs : Sep w (r :: .blk b (emQ m.t.m (.pointer (some ⟨pb, 0, none⟩)) pm po (.pointer (some ⟨sb, 0, none⟩)) (.slice none 0 0)) 108 :: gL cb gb gc m.t.cg (gL xb hb hc m.t.og (.blk sb (scells m.t.s) 126 :: pL pb o 102 m.p iv nv tv F)))) : Sep w (.blk b (emQ m.t.m (.pointer (some ⟨pb, 0, none⟩)) pm po (.pointer (some ⟨sb, 0, none⟩)) (.slice none 0 0)) 108 :: gL cb gb gc m.t.cg (gL xb hb hc m.t.og (.blk sb (scells m.t.s) 126 :: pL pb o 102 m.p iv nv tv (r :: F)))) := by
  unfold pL at hs ⊢
  exact hs.perm (List.perm_middle (l₁ := [_, _, _, _, _, _, _, _, _, _])).symm
set_option maxHeartbeats 4000000 in
theorem screen_m (b : Nat) (m : Tm) (F : List Res) (w : World) (h : TmAt b m F w) (ok : TmOk m) : Calls Tryz.prog 34 #[.pointer (some ⟨b, 0, none⟩)] w (ScP b m F) := by
  obtain ⟨pb, o, iv, nv, tv, sb, cb, gb, gc, xb, hb, hc, pm, po, h1, h2, h3⟩ := h
  obtain ⟨g, hg⟩ := main_some h1 h2
  have hs : Sep w (.blk b (emQ m.t.m (.pointer (some ⟨pb, 0, none⟩)) pm po (.pointer (some ⟨sb, 0, none⟩)) (.slice none 0 0)) 108 :: gL cb gb gc m.t.cg (gL xb hb hc m.t.og (.blk sb (scells m.t.s) 126 :: pL pb o 102 m.p iv nv tv F))) := h3
  obtain ⟨hcE, hzE, hlE⟩ := hs.here (b := b) K32.rm
  have hcE23 := (hcE 23).trans (emV_23 ..); have hcE25 := (hcE 25).trans (emV_25 ..); have hcE0 := (hcE 0).trans (emV_0 ..); have hcE1 := (hcE 1).trans (emV_1 ..); have hcE30 := (hcE 30).trans (emV_30 ..); have hcE26 := (hcE 26).trans (emV_26 ..); have hcE27 := (hcE 27).trans (emV_27 ..)
  have HG := Lib.hid hg
  have HS := Lib.hid hs
  have H1 := Lib.hid h1
  have H2 := Lib.hid h2
  have OK := Lib.hid ok
  clear hs h1 h2 h3 hg ok hcE
  go_enter Tryz.func34, Tryz.ntmps34
  go_wp2_with (first | (go_at_call 48; refine K32.ca (fun xw hs => ?_); (try simp only [emV_sets] at hs); (try clear hcE hzE hlE); (try clear hcW hzW hlW); obtain ⟨hcE, hzE, hlE⟩ := hs.here (b := b) K32.rm; obtain ⟨hcW, hzW, hlW⟩ := hs.here (b := w.heap.size) K32.rm; (try clear hcE23 hcE25 hcE0 hcE1 hcE30); have hcE23 := (hcE 23).trans (emV_23 ..); have hcE25 := (hcE 25).trans (emV_25 ..); have hcE0 := (hcE 0).trans (emV_0 ..); have hcE1 := (hcE 1).trans (emV_1 ..); have hcE30 := (hcE 30).trans (emV_30 ..); clear hcE; (try clear hcW0 hcW1 hcW2 hcW3 hcW4 hcW5); have hcW0 := hcW 0; have hcW1 := hcW 1; have hcW2 := hcW 2; have hcW3 := hcW 3; have hcW4 := hcW 4; have hcW5 := hcW 5; clear hcW; simp only [List.getElem?_cons_zero, List.getElem?_cons_succ] at hcW0 hcW1 hcW2 hcW3 hcW4 hcW5; (try clear hlt); obtain ⟨hc', hlt⟩ := gL_hc (hs.pick2 (r1 := .blk cb (gcells m.t.cg gb gc) 121) (r2 := .row (.slice (some ⟨gb, 0, none⟩) m.t.cg.c.length gc) 58 6 m.t.cg.c.length (m.t.cg.c.flatMap ceV)) K32.rm K32.rm); have HC := Lib.hid hc'; clear hc'; have hcE23g := hcE23; rw [HG.out] at hcE23g; have hC := (none_any b none g xw hcE23g); (with_reducible refine hC.mono ?_); clear hC hcE23g; rintro e w1 ⟨rfl, hb⟩; have hs := hs.below hb; clear hb; (try clear hcE hzE hlE); (try clear hcW hzW hlW); obtain ⟨hcE, hzE, hlE⟩ := hs.here (b := b) K32.rm; obtain ⟨hcW, hzW, hlW⟩ := hs.here (b := w.heap.size) K32.rm; (try clear hcE23 hcE25 hcE0 hcE1 hcE30); have hcE23 := (hcE 23).trans (emV_23 ..); have hcE25 := (hcE 25).trans (emV_25 ..); have hcE0 := (hcE 0).trans (emV_0 ..); have hcE1 := (hcE 1).trans (emV_1 ..); have hcE30 := (hcE 30).trans (emV_30 ..); clear hcE; (try clear hcW0 hcW1 hcW2 hcW3 hcW4 hcW5); have hcW0 := hcW 0; have hcW1 := hcW 1; have hcW2 := hcW 2; have hcW3 := hcW 3; have hcW4 := hcW 4; have hcW5 := hcW 5; clear hcW; simp only [List.getElem?_cons_zero, List.getElem?_cons_succ] at hcW0 hcW1 hcW2 hcW3 hcW4 hcW5; (try clear hlt); obtain ⟨hc', hlt⟩ := gL_hc (hs.pick2 (r1 := .blk cb (gcells m.t.cg gb gc) 121) (r2 := .row (.slice (some ⟨gb, 0, none⟩) m.t.cg.c.length gc) 58 6 m.t.cg.c.length (m.t.cg.c.flatMap ceV)) K32.rm K32.rm); have HC := Lib.hid hc'; clear hc'; have HS := Lib.hid hs; clear hs) | (go_at_call 51; refine K32.ca (fun xw hs => ?_); (try simp only [emV_sets] at hs); (try clear hcE hzE hlE); (try clear hcW hzW hlW); obtain ⟨hcE, hzE, hlE⟩ := hs.here (b := b) K32.rm; obtain ⟨hcW, hzW, hlW⟩ := hs.here (b := w.heap.size) K32.rm; (try clear hcE23 hcE25 hcE0 hcE1 hcE30); have hcE23 := (hcE 23).trans (emV_23 ..); have hcE25 := (hcE 25).trans (emV_25 ..); have hcE0 := (hcE 0).trans (emV_0 ..); have hcE1 := (hcE 1).trans (emV_1 ..); have hcE30 := (hcE 30).trans (emV_30 ..); clear hcE; (try clear hcW0 hcW1 hcW2 hcW3 hcW4 hcW5); have hcW0 := hcW 0; have hcW1 := hcW 1; have hcW2 := hcW 2; have hcW3 := hcW 3; have hcW4 := hcW 4; have hcW5 := hcW 5; clear hcW; simp only [List.getElem?_cons_zero, List.getElem?_cons_succ] at hcW0 hcW1 hcW2 hcW3 hcW4 hcW5; (try clear hlt); obtain ⟨hc', hlt⟩ := gL_hc (hs.pick2 (r1 := .blk cb (gcells m.t.cg gb gc) 121) (r2 := .row (.slice (some ⟨gb, 0, none⟩) m.t.cg.c.length gc) 58 6 m.t.cg.c.length (m.t.cg.c.flatMap ceV)) K32.rm K32.rm); have HC := Lib.hid hc'; clear hc'; have hC := (grid_c b _ m.t.m.alt pm po (some ⟨cb, 0, none⟩) xw (EmAt.of hs K32.rm) (by rfl) (by rfl) (by rfl) H1.out); (with_reducible refine hC.mono ?_); clear hC; rintro e w1 ⟨rfl, hb⟩; have hs := hs.below hb; clear hb; (try clear hcE hzE hlE); (try clear hcW hzW hlW); obtain ⟨hcE, hzE, hlE⟩ := hs.here (b := b) K32.rm; obtain ⟨hcW, hzW, hlW⟩ := hs.here (b := w.heap.size) K32.rm; (try clear hcE23 hcE25 hcE0 hcE1 hcE30); have hcE23 := (hcE 23).trans (emV_23 ..); have hcE25 := (hcE 25).trans (emV_25 ..); have hcE0 := (hcE 0).trans (emV_0 ..); have hcE1 := (hcE 1).trans (emV_1 ..); have hcE30 := (hcE 30).trans (emV_30 ..); clear hcE; (try clear hcW0 hcW1 hcW2 hcW3 hcW4 hcW5); have hcW0 := hcW 0; have hcW1 := hcW 1; have hcW2 := hcW 2; have hcW3 := hcW 3; have hcW4 := hcW 4; have hcW5 := hcW 5; clear hcW; simp only [List.getElem?_cons_zero, List.getElem?_cons_succ] at hcW0 hcW1 hcW2 hcW3 hcW4 hcW5; (try clear hlt); obtain ⟨hc', hlt⟩ := gL_hc (hs.pick2 (r1 := .blk cb (gcells m.t.cg gb gc) 121) (r2 := .row (.slice (some ⟨gb, 0, none⟩) m.t.cg.c.length gc) 58 6 m.t.cg.c.length (m.t.cg.c.flatMap ceV)) K32.rm K32.rm); have HC := Lib.hid hc'; clear hc'; have HS := Lib.hid hs; clear hs) | (refine K32.atW 4 (fun xw hs => ?_); (try simp only [emV_sets] at hs); (try clear hcE hzE hlE); (try clear hcW hzW hlW); obtain ⟨hcE, hzE, hlE⟩ := hs.here (b := b) K32.rm; obtain ⟨hcW, hzW, hlW⟩ := hs.here (b := w.heap.size) K32.rm; (try clear hcE23 hcE25 hcE0 hcE1 hcE30); have hcE23 := (hcE 23).trans (emV_23 ..); have hcE25 := (hcE 25).trans (emV_25 ..); have hcE0 := (hcE 0).trans (emV_0 ..); have hcE1 := (hcE 1).trans (emV_1 ..); have hcE30 := (hcE 30).trans (emV_30 ..); clear hcE; (try clear hcW0 hcW1 hcW2 hcW3 hcW4 hcW5); have hcW0 := hcW 0; have hcW1 := hcW 1; have hcW2 := hcW 2; have hcW3 := hcW 3; have hcW4 := hcW 4; have hcW5 := hcW 5; clear hcW; simp only [List.getElem?_cons_zero, List.getElem?_cons_succ] at hcW0 hcW1 hcW2 hcW3 hcW4 hcW5; (try clear hlt); obtain ⟨hc', hlt⟩ := gL_hc (hs.pick2 (r1 := .blk cb (gcells m.t.cg gb gc) 121) (r2 := .row (.slice (some ⟨gb, 0, none⟩) m.t.cg.c.length gc) 58 6 m.t.cg.c.length (m.t.cg.c.flatMap ceV)) K32.rm K32.rm); have HC := Lib.hid hc'; clear hc'; have HS := Lib.hid hs; clear hs; refine K32.reg0 (w := xw) [5] [] 21 ?_; simp only [numbered, List.take_succ_cons, List.take_zero, List.drop_succ_cons, List.drop_zero, List.take_nil, List.drop_nil, Nat.reduceAdd]; (iterate 5 (refine K32.zc ?_; apply Exists.intro; refine ⟨fun bs hok wx hwx hL => ?_, ?_⟩; (focus ((have hwx : Below _ _ wx := hwx; have hcx := cellA hwx; have hfx := frozA hwx; have hzx := hwx.size; (try simp at hzx)); unfold zAt; (try simp [go_sem, K32.ev, ↓IntWalk.iteOmega, *]); (try simp (disch := omega) only [K32.unw]); (try simp only [zUpon]); (first | (refine ⟨rfl, ?_⟩; go_at_call 47; refine (G1.W_any cb gb gc m.t.cg wx ((GrAt.of HS.out K32.rm).low hwx)).mono ?_; rintro e wy ⟨rfl, hby⟩; exact ⟨_, rfl, rfl, hby⟩) | (refine ⟨rfl, ?_⟩; go_at_call 45; refine (G1.H_any cb gb gc m.t.cg wx ((GrAt.of HS.out K32.rm).low hwx)).mono ?_; rintro e wy ⟨rfl, hby⟩; exact ⟨_, rfl, rfl, hby⟩) | exact ⟨rfl, Below.refl _ _⟩))); (try go_simp))); (refine wz_any (fun p : Nat × Nat => .slice (some ⟨p.1, 0, none⟩) m.t.cg.c.length p.2) (fun p w => w.ownsRow xw.heap.size 58 6 (.slice (some ⟨p.1, 0, none⟩) m.t.cg.c.length p.2) m.t.cg.c.length (m.t.cg.c.flatMap ceV)) (0, 0) (by decide) (by decide) ?_ (by intro x y h; simp at h; (try obtain ⟨x1, x2⟩ := x); (try obtain ⟨y1, y2⟩ := y); simp_all) (fun p => own_fr0) ?_ ?_; (focus (first | rfl | (go_simp; done))); (focus (intro bs hok wx hwx hL; (have hwx : Below _ _ wx := hwx; have hcx := cellA hwx; have hfx := frozA hwx; have hzx := hwx.size; (try simp at hzx)); unfold zAt; (try simp [go_sem, K32.ev, ↓IntWalk.iteOmega, *]); (try simp only [zUpon]); refine ⟨rfl, ?_⟩; go_at_call 53; refine (cells_q xw.heap.size cb gb gc m.t.cg wx hwx.size ((GrAt.of HS.out K32.rm).low hwx) OK.out.t.cg (fun j v hj => (World.cell?_of_block (hwx.block gb hlt)).trans (HC.out j v hj)) (Nat.lt_of_lt_of_le hlt hwx.size)).mono ?_; rintro e wy ⟨⟨p, rfl, hby, hown⟩⟩; first | exact ⟨_, rfl, p, rfl, hwx.trans (hby.mono (by first | exact hwx.size | (simp at hzx ⊢; omega))), Fr.of_below hby, hown⟩ | exact ⟨_, rfl, p.1, p.2, rfl, hwx.trans (hby.mono (by first | exact hwx.size | (simp at hzx ⊢; omega))), Fr.of_below hby, hown⟩)); intro p5 F5 hF5; (try go_simp)); (iterate 15 (refine K32.zc ?_; apply Exists.intro; refine ⟨fun bs hok wx hwx hL => ?_, ?_⟩; (focus ((have hwx : Below _ _ wx := hwx; have hcx := cellA hwx; have hfx := frozA hwx; have hzx := hwx.size; (try simp at hzx)); unfold zAt; (try simp [go_sem, K32.ev, ↓IntWalk.iteOmega, *]); (try simp (disch := omega) only [K32.unw]); (try simp only [zUpon]); (first | (refine ⟨rfl, ?_⟩; go_at_call 47; refine (G1.W_any cb gb gc m.t.cg wx ((GrAt.of HS.out K32.rm).low hwx)).mono ?_; rintro e wy ⟨rfl, hby⟩; exact ⟨_, rfl, rfl, hby⟩) | (refine ⟨rfl, ?_⟩; go_at_call 45; refine (G1.H_any cb gb gc m.t.cg wx ((GrAt.of HS.out K32.rm).low hwx)).mono ?_; rintro e wy ⟨rfl, hby⟩; exact ⟨_, rfl, rfl, hby⟩) | exact ⟨rfl, Below.refl _ _⟩))); (try go_simp))); refine wz_nil ?_; intro wq hbq hLq; have hA5 := Lib.hid (hF5 _ (hLq.get 5 (by simp))); clear hLq hF5; have hcwq := cellA hbq; have hfwq := frozA hbq; have hzwq := hbq.size; (try simp at hzwq); have hs := HS.out.addRow hbq hA5.out; (try clear hcE hzE hlE); (try clear hcW hzW hlW); obtain ⟨hcE, hzE, hlE⟩ := hs.here (b := b) K32.rm; obtain ⟨hcW, hzW, hlW⟩ := hs.here (b := w.heap.size) K32.rm; (try clear hcE23 hcE25 hcE0 hcE1 hcE30); have hcE23 := (hcE 23).trans (emV_23 ..); have hcE25 := (hcE 25).trans (emV_25 ..); have hcE0 := (hcE 0).trans (emV_0 ..); have hcE1 := (hcE 1).trans (emV_1 ..); have hcE30 := (hcE 30).trans (emV_30 ..); clear hcE; (try clear hcW0 hcW1 hcW2 hcW3 hcW4 hcW5); have hcW0 := hcW 0; have hcW1 := hcW 1; have hcW2 := hcW 2; have hcW3 := hcW 3; have hcW4 := hcW 4; have hcW5 := hcW 5; clear hcW; simp only [List.getElem?_cons_zero, List.getElem?_cons_succ] at hcW0 hcW1 hcW2 hcW3 hcW4 hcW5; (try clear hlt); obtain ⟨hc', hlt⟩ := gL_hc (hs.pick2 (r1 := .blk cb (gcells m.t.cg gb gc) 121) (r2 := .row (.slice (some ⟨gb, 0, none⟩) m.t.cg.c.length gc) 58 6 m.t.cg.c.length (m.t.cg.c.flatMap ceV)) K32.rm K32.rm); have HC := Lib.hid hc'; clear hc'; have HS := Lib.hid hs; clear hs hbq hA5 hcwq hfwq))
  refine bodyPost_ret (v := scrV m.t p5.1 p5.2) (by simp [results, Tryz.results34, go_sem, scrV, ↓IntWalk.iteOmega, *]) rfl ⟨⟨p5.1, p5.2, rfl, ?_⟩⟩
  refine tm_in (sb := sb) (cb := cb) (gb := gb) (gc := gc) (xb := xb) (hb := hb) (hc := hc) (pb := pb) (pm := pm) (po := po) (o := o) (iv := iv) (nv := nv) (tv := tv) (tm_new2 ?_) H1.out H2.out
  (with_reducible apply K30.sep_end)
  exact K32.fnd
  intro hs
  exact hs.sub (List.Sublist.cons_cons _ (List.Sublist.cons _ (List.Sublist.refl _)))
end Go.Proofs.YtnjgnbdebkckfaaGreatDoor.T23
namespace Go.Proofs.YtnjgnbdebkckfaaGreatDoor.T24
set_option maxRecDepth 100000
open Go.RowKit K1 K3 K5 K11 K12 K14 K20 K21 K22 K25 K30 K31 M0 C1 G1 G2 G3 G4 G5 G6 G7 G8 G9 G10 E3 E12 E14 E25 ME MF S3 S4 T1 T2 T3 T4 T5 T6 T7 T8 T9 T10 T11 T12 T13 T14 T15 T16 E2 E15 K7 K9 T17 T18 T19 T20 T21 T22 T23 U1 U3 MP
attribute [local go_sem] cell_pastA froz_pastA
/-- the parts of a terminal -/
def TmL (b : Nat) (m : Tm) (L : List Res) : Prop := ∃ (pb : Nat) (o : Bool) (iv nv tv : Value) (sb cb gb gc xb hb hc : Nat) (pm po : Option Addr), (if m.t.m.alt = true then po else pm) = some ⟨cb, 0, none⟩ ∧ (if m.t.m.alt = true then pm else po) = some ⟨xb, 0, none⟩ ∧ L = teL b (.pointer (some ⟨pb, 0, none⟩)) (.slice none 0 0) pm po sb cb gb gc xb hb hc m.t (pL pb o 102 m.p iv nv tv [])
theorem tel_app {b sb cb gb gc xb hb hc pb : Nat} {pv av iv nv tv : Value} {pm po : Option Addr} {o : Bool} {t : Te} {p : Pg} (F : List Res) : teL b pv av pm po sb cb gb gc xb hb hc t (pL pb o 102 p iv nv tv F) = teL b pv av pm po sb cb gb gc xb hb hc t (pL pb o 102 p iv nv tv []) ++ F := by
  unfold teL pL gL
  rfl
theorem tm_open {b : Nat} {m : Tm} {F : List Res} {w : World} (h : TmAt b m F w) : ∃ L, TmL b m L ∧ Sep w (L ++ F) := by
  obtain ⟨pb, o, iv, nv, tv, sb, cb, gb, gc, xb, hb, hc, pm, po, h1, h2, h3⟩ := h
  rw [tel_app] at h3
  exact ⟨_, ⟨pb, o, iv, nv, tv, sb, cb, gb, gc, xb, hb, hc, pm, po, h1, h2, rfl⟩, h3⟩
theorem tm_shut {b : Nat} {m : Tm} {L F : List Res} {w : World} (hL : TmL b m L) (hs : Sep w (L ++ F)) : TmAt b m F w := by
  obtain ⟨pb, o, iv, nv, tv, sb, cb, gb, gc, xb, hb, hc, pm, po, h1, h2, rfl⟩ := hL
  rw [← tel_app] at hs
  exact ⟨⟨pb, o, iv, nv, tv, ⟨⟨sb, cb, gb, gc, xb, hb, hc, pm, po, h1, h2, hs⟩⟩⟩⟩
theorem tm_alloc {b : Nat} {m : Tm} {F : List Res} {w : World} {cs : Array Value} {t : TypeId} (h : TmAt b m F w) : TmAt b m (.blk w.heap.size cs.toList t :: F) (w.alloc (.cells cs t)) := by
  obtain ⟨L, hL, hs⟩ := tm_open h
  exact tm_shut hL ((hs.allocT (cs := cs) (t := t)).perm List.perm_middle.symm)
theorem tm_sub {b : Nat} {m : Tm} {F F' : List Res} {w : World} (h : TmAt b m F w) (hp : F'.Sublist F) : TmAt b m F' w := by
  obtain ⟨L, hL, hs⟩ := tm_open h
  exact tm_shut hL (hs.sub ((List.Sublist.refl L).append hp))
theorem rd1 {k : Nat} {F : List Res} (l : List UInt8) : ∀ w, Sep w (.blk k [.string ⟨l.toArray⟩] 9 :: F) → Rd 1 strE w (.slice (some ⟨k, 0, none⟩) 1 1) [l] := by
  intro w hs
  obtain ⟨h1, _, h3⟩ := hs.here .here
  exact Rd.one rfl (Nat.le_refl _) h3 (h1 0)
theorem feed_r (b : Nat) (m : Tm) (v : Value) (L : List (List UInt8)) (F : List Res) (w : World) (r : List UInt8 × Tm) (h : TmAt b m F w) (ok : TmOk m) (hr : ∀ w, Sep w F → Rd 1 strE w v L) (hL : L.flatten.length ≤ 10000) (hL2 : L.length ≤ 10000) (he : feedT m L.flatten = r) :
    Calls Tryz.prog 24 #[.pointer (some ⟨b, 0, none⟩), v] w (FdP b r F) := by
  subst he
  exact feed_m b m v L F w h ok hr hL hL2
set_option maxRecDepth 100000 in
theorem alive_s : (feedT (newT 4 2) [97, 98, 99, 100, 101, 27, 91, 54, 110]).1 = [27, 91, 50, 59, 50, 82] := by kernel_rfl
set_option maxRecDepth 100000 in
theorem alive_t : textE (feedT (newT 4 2) [97, 98, 99, 100, 101, 27, 91, 54, 110]).2.t = [[97, 98, 99, 100], [101, 32, 32, 32]] := by kernel_rfl
set_option maxHeartbeats 4000000 in
theorem alive_any (w : World) : Calls Tryz.prog 21 #[] w fun e w' => e = .returned (.bool true) ∧ Below w.heap.size w w' := by
  obtain ⟨mm, hmm⟩ : ∃ mm, mm = (feedT (newT 4 2) [97, 98, 99, 100, 101, 27, 91, 54, 110]).2 := ⟨_, rfl⟩
  have HMM := Lib.hid (show feedT (newT 4 2) ([[97, 98, 99, 100, 101, 27, 91, 54, 110]] : List (List UInt8)).flatten = ([27, 91, 50, 59, 50, 82], mm) from by rw [hmm, ← alive_s]; rfl)
  have HTX := Lib.hid (show textE mm.t = [[97, 98, 99, 100], [101, 32, 32, 32]] from by rw [hmm]; exact alive_t)
  have OKM := Lib.hid (show TmOk mm from hmm ▸ feedT_ok (newT_ok 4 2) _)
  clear hmm
  go_enter Tryz.func21, Tryz.ntmps21
  go_wp2_with (first | (go_at_call 22; refine (newT_any 4 2 _ _ (Sep.start w)).mono ?_; rintro e w1 ⟨b, rfl, ht⟩; have HT := Lib.hid ht; clear ht) | (go_at_call 24; refine (feed_r b (newT 4 2) _ [[97, 98, 99, 100, 101, 27, 91, 54, 110]] _ _ ([27, 91, 50, 59, 50, 82], mm) (tm_alloc HT.out) (newT_ok 4 2) (rd1 [97, 98, 99, 100, 101, 27, 91, 54, 110]) (by decide) (by decide) HMM.out).mono ?_; rintro e w2 ⟨⟨rfl, ht⟩⟩; have HT2 := Lib.hid ht; clear ht) | (go_at_call 25; refine (text_m b mm _ _ HT2.out OKM.out).mono ?_; rintro e w3 ⟨⟨v, rfl, ht⟩⟩; have hs := TmAt.rest ht; rw [HTX.out] at hs; obtain ⟨g, cp, rfl⟩ := E5.own_some (hs.hereRow (v := v) (t := 9) (s := 1) (n := 2) (xs := [[97, 98, 99, 100], [101, 32, 32, 32]].map strW) K32.rm) (by decide); have hrw := hs.hereRow (v := .slice (some ⟨g, 0, none⟩) 2 cp) (t := 9) (s := 1) (n := 2) (xs := [[97, 98, 99, 100], [101, 32, 32, 32]].map strW) K32.rm; have hx0 := K25.own_at hrw (j := 0) (u := strW [97, 98, 99, 100]) rfl; have hx1 := K25.own_at hrw (j := 1) (u := strW [101, 32, 32, 32]) rfl; obtain ⟨hcp1, hcp2⟩ := K25.own_cap hrw; obtain ⟨-, hfz, hgl, -, -⟩ := K30.row_cells hrw; have hfz0 := hfz 0; have hfz1 := hfz 1; unfold strW at hx0 hx1; have HB := Lib.hid (hs.hereLow (B := w.heap.size) (w0 := w) K32.rm); clear ht hs hrw hfz))
  go_ret
  exact ⟨rfl, HB.out⟩
end Go.Proofs.YtnjgnbdebkckfaaGreatDoor.T24
