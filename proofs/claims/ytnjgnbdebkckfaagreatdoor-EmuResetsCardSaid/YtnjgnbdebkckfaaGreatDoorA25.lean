/- T15 -/
import Derived.Test.YtnjgnbdebkckfaaGreatDoorA2
import Derived.Test.YtnjgnbdebkckfaaGreatDoorA17
import Derived.Test.YtnjgnbdebkckfaaGreatDoorA24
import Derived.Lib.Hide
set_option linter.unusedVariables false
set_option linter.unusedSimpArgs false
set_option linter.unnecessarySimpa false
namespace Go.Proofs.YtnjgnbdebkckfaaGreatDoor.T15
set_option maxRecDepth 100000
open Go.RowKit K1 K3 K5 K11 K12 K14 K20 K21 K22 K25 K30 K31 M0 C1 G1 G2 G3 G4 G5 G6 G7 G8 G9 G10 E3 E12 E14 E25 ME MF S3 S4 T1 T2 T3 T4 T5 T6 T7 T8 T9 T10 T11 T12 T13 T14
attribute [local go_sem] cell_pastA froz_pastA
structure Same (t u : Te) : Prop where
  alt : u.m.alt = t.m.alt
  og : u.og = t.og
  s : u.s = t.s
theorem Same.refl (t : Te) : Same t t := ⟨rfl, rfl, rfl⟩
theorem Same.trans {t u v : Te} (h : Same t u) (k : Same u v) : Same t v := ⟨k.alt.trans h.alt, k.og.trans h.og, k.s.trans h.s⟩
theorem same_cg (t : Te) (g : Gr) : Same t (t.setCg g) := ⟨by rw [setCg_m], setCg_og t g, setCg_s t g⟩
theorem same_x (t : Te) (x : Int) : Same t (t.setX x) := ⟨rfl, rfl, rfl⟩
theorem same_y (t : Te) (x : Int) : Same t (t.setY x) := ⟨rfl, rfl, rfl⟩
theorem same_l (t : Te) (x : Bool) : Same t (t.setLate x) := ⟨rfl, rfl, rfl⟩
theorem same_index (t : Te) : Same t (indexE t) := by
  unfold indexE
  split
  · exact same_cg _ _
  · split
    · exact same_y _ _
    · exact .refl _
theorem same_reverse (t : Te) : Same t (reverseE t) := by
  unfold reverseE
  split
  · exact same_cg _ _
  · split
    · exact same_y _ _
    · exact .refl _
theorem same_print (t : Te) (r : Int) : Same t (printE t r) := by
  have h1 : Same t (wrapE t) := by
    unfold wrapE
    split
    · exact (same_x t 0).trans (same_index _)
    · exact .refl _
  have h2 : ∀ u, Same u (insE u) := by
    intro u
    unfold insE
    split
    · exact same_cg _ _
    · exact .refl _
  have h3 : ∀ u, Same u (lastE u) := by
    intro u
    unfold lastE
    split
    · exact same_l _ _
    · exact (same_l _ _).trans (same_x _ _)
  exact ((h1.trans (h2 _)).trans (same_cg _ _)).trans (h3 _)
theorem same_control (t : Te) (k : Int) : Same t (controlE t k) := by
  unfold controlE
  repeat' split
  all_goals first | exact .refl _ | exact ⟨rfl, rfl, rfl⟩ | exact (same_l t false).trans (same_index _)
theorem same_save (t : Te) : Same t (saveE t) := ⟨rfl, rfl, rfl⟩
theorem same_within (t : Te) : Same t (withinE t) := ⟨rfl, rfl, rfl⟩
theorem same_restore (t : Te) : Same t (restoreE t) := ⟨rfl, rfl, rfl⟩
theorem same_set (t : Te) (k q : Int) : Same t (setE t k q) := by
  unfold setE
  split
  · split <;> exact ⟨rfl, rfl, rfl⟩
  · exact .refl _
theorem same_up (t : Te) (n : Int) : Same t (upE t n) := by unfold upE; split <;> exact same_y _ _
theorem same_down (t : Te) (n : Int) : Same t (downE t n) := same_y _ _
theorem same_row (t : Te) (n : Int) : Same t (rowE t n) := by unfold rowE; split <;> exact same_y _ _
theorem same_move (t : Te) (k n m : Int) {u : Te} (h : moveL t k n m = some u) : Same t u := by
  unfold moveL at h
  obtain ⟨v, hv, rfl⟩ := Option.map_eq_some_iff.1 h
  refine Same.trans ?_ (same_l _ _)
  unfold moveE at hv
  repeat' split at hv
  all_goals first | cases hv | (obtain rfl := Option.some.inj hv)
  · exact same_up _ _
  · exact same_down _ _
  · exact same_x _ _
  · exact same_x _ _
  · exact (same_down _ _).trans (same_x _ _)
  · exact (same_up _ _).trans (same_x _ _)
  · exact same_x _ _
  · exact same_row _ _
  · exact (same_row _ _).trans (same_x _ _)
theorem same_erase (t : Te) (k p q : Int) : Same t (eraseE t k p q) := by
  unfold eraseE
  repeat' split
  all_goals first | exact .refl _ | exact (same_cg _ _).trans (same_l _ _)
theorem same_rows (t : Te) (i : Bool) (n : Int) : Same t (rowsE t i n) := by
  unfold rowsE
  split
  · exact .refl _
  · refine Same.trans (Same.trans ?_ (same_x _ _)) (same_l _ _)
    split <;> exact same_cg _ _
theorem same_edit (t : Te) (k : Int) (l : List Int) {u : Te} (h : editE t k l = some u) : Same t u := by
  unfold editE at h
  repeat' split at h
  all_goals first | cases h | (obtain rfl := Option.some.inj h)
  · exact same_erase _ _ _ _
  · exact same_erase _ _ _ _
  · exact same_rows _ _ _
  · exact same_rows _ _ _
  all_goals exact (same_cg _ _).trans (same_l _ _)
theorem same_home (t : Te) : Same t (homeE t) := ⟨rfl, rfl, rfl⟩
theorem teAt_same {b sb cb gb gc xb hb hc : Nat} {pv av : Value} {pm po : Option Addr} {t u : Te} {F : List Res} {w : World} (hs : Sep w (teL b pv av pm po sb cb gb gc xb hb hc u F)) (hcur : (if t.m.alt = true then po else pm) = some ⟨cb, 0, none⟩) (hoth : (if t.m.alt = true then pm else po) = some ⟨xb, 0, none⟩) (h : Same t u) : TeAt b pv av u F w :=
  ⟨⟨sb, cb, gb, gc, xb, hb, hc, pm, po, by rw [h.alt]; exact hcur, by rw [h.alt]; exact hoth, hs⟩⟩
/-- the parts that a step leaves, the other grid and the stops as they were -/
theorem teL_same {b sb cb gb gc xb hb hc : Nat} {pv av : Value} {pm po : Option Addr} {t u : Te} {F : List Res} {w : World} (hs : Sep w (.blk b (emQ u.m pv pm po (.pointer (some ⟨sb, 0, none⟩)) av) 108 :: gL cb gb gc u.cg (gL xb hb hc t.og (.blk sb (scells t.s) 126 :: F)))) (h : Same t u) : Sep w (teL b pv av pm po sb cb gb gc xb hb hc u F) := by
  unfold teL
  rw [h.og, h.s]
  exact hs
structure TeP (b : Nat) (pv av : Value) (t : Te) (F : List Res) (e : Ending) (w' : World) : Prop where
  out : e = .returned (.tuple #[]) ∧ TeAt b pv av t F w'
theorem reset_t (b sb cb gb gc xb hb hc : Nat) (pp pm po va : Option Addr) (vn vc : Nat) (t : Te) (F : List Res) (w : World) (hs : Sep w (.blk b (emQ t.m (.pointer pp) pm po (.pointer (some ⟨sb, 0, none⟩)) (.slice va vn vc)) 108 :: gL cb gb gc t.cg (gL xb hb hc t.og (.blk sb (scells t.s) 126 :: F)))) (hcur : (if t.m.alt = true then po else pm) = some ⟨cb, 0, none⟩) (hoth : (if t.m.alt = true then pm else po) = some ⟨xb, 0, none⟩) : Calls Tryz.prog 105 #[.pointer (some ⟨b, 0, none⟩)] w fun e w' => e = .returned (.tuple #[]) ∧ TeAt b (.pointer pp) (.slice va vn vc) (resetE t) F w' := by
  unfold resetE
  by_cases ha : t.m.alt = true
  · have e : t.og = t.g := by unfold Te.og; rw [if_pos ha]
    rw [if_pos ha] at hoth
    subst hoth
    rw [e] at hs
    exact reset_m b xb hb hc pp none po va vn vc sb t t.g F w (hs.end2 (s1 := .blk b (emQ t.m (.pointer pp) (some ⟨xb, 0, none⟩) po (.pointer (some ⟨sb, 0, none⟩)) (.slice va vn vc)) 108) (s2 := .blk xb (gcells t.g hb hc) 121) K32.rm K32.rm K32.sub)
  · have e : t.cg = t.g := by unfold Te.cg; rw [if_neg ha]
    rw [if_neg ha] at hcur
    subst hcur
    rw [e] at hs
    exact reset_m b cb gb gc pp none po va vn vc sb t t.g F w (hs.end2 (s1 := .blk b (emQ t.m (.pointer pp) (some ⟨cb, 0, none⟩) po (.pointer (some ⟨sb, 0, none⟩)) (.slice va vn vc)) 108) (s2 := .blk cb (gcells t.g gb gc) 121) K32.rm K32.rm K32.sub)
set_option maxHeartbeats 4000000 in
theorem plain_any (b sb cb gb gc xb hb hc : Nat) (pp pm po va : Option Addr) (vn vc : Nat) (t : Te) (k : Int) (F : List Res) (w : World) (hs : Sep w (teL b (.pointer pp) (.slice va vn vc) pm po sb cb gb gc xb hb hc t F)) (hcur : (if t.m.alt = true then po else pm) = some ⟨cb, 0, none⟩) (hoth : (if t.m.alt = true then pm else po) = some ⟨xb, 0, none⟩) (ok : TeOk t) : Calls Tryz.prog 82 #[.pointer (some ⟨b, 0, none⟩), .int .i64 k] w (TeP b (.pointer pp) (.slice va vn vc) (plainE t k) F) := by
  have hs : Sep w (.blk b (emQ t.m (.pointer pp) pm po (.pointer (some ⟨sb, 0, none⟩)) (.slice va vn vc)) 108 :: gL cb gb gc t.cg (gL xb hb hc t.og (.blk sb (scells t.s) 126 :: F))) := hs
  have HCUR := Lib.hid hcur
  have HOTH := Lib.hid hoth
  have OK := Lib.hid ok
  have STOK := Lib.hid (show StOk t.s from ⟨ok.st⟩)
  obtain ⟨hcE, hzE, hlE⟩ := hs.here (b := b) K32.rm
  have hcE0 := (hcE 0).trans (emV_0 ..); have hcE31 := (hcE 31).trans (emV_31 ..); have hcE32 := (hcE 32).trans (emV_32 ..)
  have HS := Lib.hid hs
  clear hs ok hcur hoth hcE
  have OKX := Lib.hid (ok_x (ok_late OK.out false) (x := 0) (by decide) (by have := OK.out.g.w2; show (0 : Int) < t.g.w; omega))
  by_cases hb : k = 55 ∨ k = 56 ∨ k = 72 ∨ k = 99 ∨ k = 68 ∨ k = 69 ∨ k = 77
  · rcases hb with rfl | rfl | rfl | rfl | rfl | rfl | rfl
    · have e : plainE t 55 = saveE t := by unfold plainE; rfl
      rw [e]
      clear e
      go_enter Tryz.func82, Tryz.ntmps82
      go_wp2_with (first | (go_at_call 102; refine K32.ca (fun xw hs => ?_); (try simp only [emV_sets] at hs); have hs := hs.pick3 (r1 := .blk b (emQ t.m (.pointer pp) pm po (.pointer (some ⟨sb, 0, none⟩)) (.slice va vn vc)) 108) (r2 := .blk cb (gcells t.cg gb gc) 121) (r3 := .row (.slice (some ⟨gb, 0, none⟩) t.cg.c.length gc) 58 6 t.cg.c.length (t.cg.c.flatMap ceV)) K32.rm K32.rm K32.rm; refine (save_any b cb gb gc (.pointer pp) pm po (.pointer (some ⟨sb, 0, none⟩)) (.slice va vn vc) t _ _ hs HCUR.out OK.out).mono ?_; clear hs; rintro e w1 ⟨⟨rfl, hs⟩⟩; (try clear hcE0 hcE31 hcE32 hzE hlE); obtain ⟨hcE0, hcE31, hcE32, hzE, hlE⟩ := T1.f0_31_32 hs K32.rm; have HS := Lib.hid hs; clear hs))
      (first | go_end0 | refine bodyPost_ret (results_none rfl _ _ _) rfl ?_)
      refine ⟨⟨rfl, teAt_same (t := t) (u := saveE t) (sb := sb) (gb := gb) (gc := gc) (hb := hb) (hc := hc) (teL_same (t := t) ?_ (same_save t)) HCUR.out HOTH.out (same_save t)⟩⟩
      exact HS.out.end6 (s1 := .blk b (emQ ((saveE t).m) (.pointer pp) pm po (.pointer (some ⟨sb, 0, none⟩)) (.slice va vn vc)) 108) (s2 := .blk cb (gcells (saveE t).cg gb gc) 121) (s3 := .row (.slice (some ⟨gb, 0, none⟩) (saveE t).cg.c.length gc) 58 6 (saveE t).cg.c.length ((saveE t).cg.c.flatMap ceV)) (s4 := .blk xb (gcells t.og hb hc) 121) (s5 := .row (.slice (some ⟨hb, 0, none⟩) t.og.c.length hc) 58 6 t.og.c.length (t.og.c.flatMap ceV)) (s6 := .blk sb (scells t.s) 126) K32.rm K32.rm K32.rm K32.rm K32.rm K32.rm K32.sub
    · have e : plainE t 56 = restoreE t := by unfold plainE; rfl
      rw [e]
      clear e
      go_enter Tryz.func82, Tryz.ntmps82
      go_wp2_with (first | (go_at_call 103; refine K32.ca (fun xw hs => ?_); (try simp only [emV_sets] at hs); have hs := hs.pick3 (r1 := .blk b (emQ t.m (.pointer pp) pm po (.pointer (some ⟨sb, 0, none⟩)) (.slice va vn vc)) 108) (r2 := .blk cb (gcells t.cg gb gc) 121) (r3 := .row (.slice (some ⟨gb, 0, none⟩) t.cg.c.length gc) 58 6 t.cg.c.length (t.cg.c.flatMap ceV)) K32.rm K32.rm K32.rm; refine (restore_any b cb gb gc (.pointer pp) pm po (.pointer (some ⟨sb, 0, none⟩)) (.slice va vn vc) t _ _ hs HCUR.out OK.out.cg OK.out.kept).mono ?_; clear hs; rintro e w1 ⟨⟨rfl, hs⟩⟩; (try clear hcE0 hcE31 hcE32 hzE hlE); obtain ⟨hcE0, hcE31, hcE32, hzE, hlE⟩ := T1.f0_31_32 hs K32.rm; have HS := Lib.hid hs; clear hs))
      (first | go_end0 | refine bodyPost_ret (results_none rfl _ _ _) rfl ?_)
      refine ⟨⟨rfl, teAt_same (t := t) (u := restoreE t) (sb := sb) (gb := gb) (gc := gc) (hb := hb) (hc := hc) (teL_same (t := t) ?_ (same_restore t)) HCUR.out HOTH.out (same_restore t)⟩⟩
      exact HS.out.end6 (s1 := .blk b (emQ ((restoreE t).m) (.pointer pp) pm po (.pointer (some ⟨sb, 0, none⟩)) (.slice va vn vc)) 108) (s2 := .blk cb (gcells (restoreE t).cg gb gc) 121) (s3 := .row (.slice (some ⟨gb, 0, none⟩) (restoreE t).cg.c.length gc) 58 6 (restoreE t).cg.c.length ((restoreE t).cg.c.flatMap ceV)) (s4 := .blk xb (gcells t.og hb hc) 121) (s5 := .row (.slice (some ⟨hb, 0, none⟩) t.og.c.length hc) 58 6 t.og.c.length (t.og.c.flatMap ceV)) (s6 := .blk sb (scells t.s) 126) K32.rm K32.rm K32.rm K32.rm K32.rm K32.rm K32.sub
    · have e : plainE t 72 = { t with s := setS t.s t.m.cu.x true } := by unfold plainE; rfl
      rw [e]
      clear e
      go_enter Tryz.func82, Tryz.ntmps82
      go_wp2_with (first | (refine K32.atW 6 (fun xw hs => ?_); (try simp only [emV_sets] at hs); (try clear hcE0 hcE31 hcE32 hzE hlE); obtain ⟨hcE0, hcE31, hcE32, hzE, hlE⟩ := T1.f0_31_32 hs K32.rm; have HS := Lib.hid hs; clear hs; refine K32.reg0 (w := xw) [9] [] 10 ?_; simp only [numbered, List.take_succ_cons, List.take_zero, List.drop_succ_cons, List.drop_zero, List.take_nil, List.drop_nil, Nat.reduceAdd]; (iterate 9 (refine K32.zd ?_; (try go_simp))); (refine wz_new (fun b => .slice (some ⟨b, 0, none⟩) 1 1) _ _ (by decide) (by decide) (by decide) C0e.es (growsB (by simp)) (by first | rfl | (go_simp; done)) (by intro b b' h; simp at h; omega) (by simp) (fun _ _ h => Below.size h) (fun bs hok wx hwx hL => by (have hwx : Below _ _ wx := hwx; have hcx := cellA hwx; have hfx := frozA hwx; have hzx := hwx.size; (try simp at hzx)); (try simp [go_sem, K32.ev, ↓IntWalk.iteOmega, *]); first | done | rfl) ?_; intro b9 hb9 F9 hF9; (try simp at hb9); (try go_simp)); refine wz_nil ?_; intro wq hbq hLq; have hm9 := hF9 _ (hLq.get 9 (by simp)); obtain ⟨hk9, hx9, hg9, hy9, hl9⟩ := blk hm9; clear hLq hF9; have hcwq := cellA hbq; have hfwq := frozA hbq; have hzwq := hbq.size; (try simp at hzwq); have hs := HS.out.addBlk (xs := [.int .i64 t.m.cu.x]) hbq hm9 (by simpa using hb9) rfl; have HS := Lib.hid hs; clear hs hcwq hfwq hk9 hx9 hg9 hy9 hm9 hbq hb9 hzwq hl9) | (go_at_call 104; refine K32.ca (fun xw hs => ?_); (try simp only [emV_sets] at hs); obtain ⟨hcB, hzB, hlB⟩ := hs.here (b := b9) K32.rm; have hcB0 := hcB 0; have hs := hs.pick2 (r1 := .blk sb (scells t.s) 126) (r2 := .blk b9 [.int .i64 t.m.cu.x] 3) K32.rm K32.rm; refine (set_s sb b9 1 t.s t.m.cu.x _ _ hs STOK.out (fun h => hs.ne (c := b9) (ds := [.int .i64 t.m.cu.x]) (u := 3) (List.mem_cons_self ..) h.symm) (by decide) hcB0 hlB).mono ?_; clear hs hcB hzB hlB hcB0; rintro e w1 ⟨rfl, hs⟩; (try clear hcE0 hcE31 hcE32 hzE hlE); obtain ⟨hcE0, hcE31, hcE32, hzE, hlE⟩ := T1.f0_31_32 hs K32.rm; have HS := Lib.hid hs; clear hs))
      (first | go_end0 | refine bodyPost_ret (results_none rfl _ _ _) rfl ?_)
      refine ⟨⟨rfl, ⟨⟨sb, cb, gb, gc, xb, hb, hc, pm, po, HCUR.out, HOTH.out, ?_⟩⟩⟩⟩
      exact HS.out.end6 (s1 := .blk b (emQ t.m (.pointer pp) pm po (.pointer (some ⟨sb, 0, none⟩)) (.slice va vn vc)) 108) (s2 := .blk cb (gcells t.cg gb gc) 121) (s3 := .row (.slice (some ⟨gb, 0, none⟩) t.cg.c.length gc) 58 6 t.cg.c.length (t.cg.c.flatMap ceV)) (s4 := .blk xb (gcells t.og hb hc) 121) (s5 := .row (.slice (some ⟨hb, 0, none⟩) t.og.c.length hc) 58 6 t.og.c.length (t.og.c.flatMap ceV)) (s6 := .blk sb (scells (setS t.s t.m.cu.x true)) 126) K32.rm K32.rm K32.rm K32.rm K32.rm K32.rm K32.sub
    · have e : plainE t 99 = resetE t := by unfold plainE; rfl
      rw [e]
      clear e
      go_enter Tryz.func82, Tryz.ntmps82
      go_wp2_with (first | (go_at_call 105; refine (reset_t b sb cb gb gc xb hb hc pp pm po va vn vc t F _ HS.out HCUR.out HOTH.out).mono ?_; rintro e w1 ⟨rfl, ht⟩))
      (first | go_end0 | refine bodyPost_ret (results_none rfl _ _ _) rfl ?_)
      exact ⟨⟨rfl, ht⟩⟩
    · have e : plainE t 68 = indexE (t.setLate false) := by unfold plainE; rfl
      rw [e]
      clear e
      go_enter Tryz.func82, Tryz.ntmps82
      go_wp2_with (first | (go_at_call 77; refine K32.ca (fun xw hs => ?_); (try simp only [emV_sets] at hs); have hs := hs.pick3 (r1 := .blk b (emQ ((t.setLate false).m) (.pointer pp) pm po (.pointer (some ⟨sb, 0, none⟩)) (.slice va vn vc)) 108) (r2 := .blk cb (gcells t.cg gb gc) 121) (r3 := .row (.slice (some ⟨gb, 0, none⟩) t.cg.c.length gc) 58 6 t.cg.c.length (t.cg.c.flatMap ceV)) K32.rm K32.rm K32.rm; refine (index_any b cb gb gc (.pointer pp) pm po (.pointer (some ⟨sb, 0, none⟩)) (.slice va vn vc) (t.setLate false) _ _ hs HCUR.out (ok_late OK.out false)).mono ?_; clear hs; rintro e w1 ⟨⟨rfl, hs⟩⟩; (try clear hcE0 hcE31 hcE32 hzE hlE); obtain ⟨hcE0, hcE31, hcE32, hzE, hlE⟩ := T1.f0_31_32 hs K32.rm; have HS := Lib.hid hs; clear hs))
      (first | go_end0 | refine bodyPost_ret (results_none rfl _ _ _) rfl ?_)
      refine ⟨⟨rfl, teAt_same (t := t) (u := indexE (t.setLate false)) (sb := sb) (gb := gb) (gc := gc) (hb := hb) (hc := hc) (teL_same (t := t) ?_ ((same_l t false).trans (same_index _))) HCUR.out HOTH.out ((same_l t false).trans (same_index _))⟩⟩
      exact HS.out.end6 (s1 := .blk b (emQ ((indexE (t.setLate false)).m) (.pointer pp) pm po (.pointer (some ⟨sb, 0, none⟩)) (.slice va vn vc)) 108) (s2 := .blk cb (gcells (indexE (t.setLate false)).cg gb gc) 121) (s3 := .row (.slice (some ⟨gb, 0, none⟩) (indexE (t.setLate false)).cg.c.length gc) 58 6 (indexE (t.setLate false)).cg.c.length ((indexE (t.setLate false)).cg.c.flatMap ceV)) (s4 := .blk xb (gcells t.og hb hc) 121) (s5 := .row (.slice (some ⟨hb, 0, none⟩) t.og.c.length hc) 58 6 t.og.c.length (t.og.c.flatMap ceV)) (s6 := .blk sb (scells t.s) 126) K32.rm K32.rm K32.rm K32.rm K32.rm K32.rm K32.sub
    · have e : plainE t 69 = indexE ((t.setLate false).setX 0) := by unfold plainE; rfl
      rw [e]
      clear e
      go_enter Tryz.func82, Tryz.ntmps82
      go_wp2_with (first | (go_at_call 77; refine K32.ca (fun xw hs => ?_); (try simp only [emV_sets] at hs); have hs := hs.pick3 (r1 := .blk b (emQ (((t.setLate false).setX 0).m) (.pointer pp) pm po (.pointer (some ⟨sb, 0, none⟩)) (.slice va vn vc)) 108) (r2 := .blk cb (gcells t.cg gb gc) 121) (r3 := .row (.slice (some ⟨gb, 0, none⟩) t.cg.c.length gc) 58 6 t.cg.c.length (t.cg.c.flatMap ceV)) K32.rm K32.rm K32.rm; refine (index_any b cb gb gc (.pointer pp) pm po (.pointer (some ⟨sb, 0, none⟩)) (.slice va vn vc) ((t.setLate false).setX 0) _ _ hs HCUR.out OKX.out).mono ?_; clear hs; rintro e w1 ⟨⟨rfl, hs⟩⟩; (try clear hcE0 hcE31 hcE32 hzE hlE); obtain ⟨hcE0, hcE31, hcE32, hzE, hlE⟩ := T1.f0_31_32 hs K32.rm; have HS := Lib.hid hs; clear hs))
      (first | go_end0 | refine bodyPost_ret (results_none rfl _ _ _) rfl ?_)
      refine ⟨⟨rfl, teAt_same (t := t) (u := indexE ((t.setLate false).setX 0)) (sb := sb) (gb := gb) (gc := gc) (hb := hb) (hc := hc) (teL_same (t := t) ?_ (((same_l t false).trans (same_x _ 0)).trans (same_index _))) HCUR.out HOTH.out (((same_l t false).trans (same_x _ 0)).trans (same_index _))⟩⟩
      exact HS.out.end6 (s1 := .blk b (emV (.int .i64 (indexE ((t.setLate false).setX 0)).m.cu.x) (.int .i64 (indexE ((t.setLate false).setX 0)).m.cu.y) (.int .i64 (indexE ((t.setLate false).setX 0)).m.cu.pen.fg) (.int .i64 (indexE ((t.setLate false).setX 0)).m.cu.pen.bg) (.bool (indexE ((t.setLate false).setX 0)).m.cu.pen.bold) (.bool (indexE ((t.setLate false).setX 0)).m.cu.pen.under) (.bool (indexE ((t.setLate false).setX 0)).m.cu.pen.inv) (.bool (indexE ((t.setLate false).setX 0)).m.cu.origin) (.int .u8 (indexE ((t.setLate false).setX 0)).m.cu.s0) (.int .u8 (indexE ((t.setLate false).setX 0)).m.cu.s1) (.int .i64 (indexE ((t.setLate false).setX 0)).m.cu.use) (.int .i64 (indexE ((t.setLate false).setX 0)).m.kept.x) (.int .i64 (indexE ((t.setLate false).setX 0)).m.kept.y) (.int .i64 (indexE ((t.setLate false).setX 0)).m.kept.pen.fg) (.int .i64 (indexE ((t.setLate false).setX 0)).m.kept.pen.bg) (.bool (indexE ((t.setLate false).setX 0)).m.kept.pen.bold) (.bool (indexE ((t.setLate false).setX 0)).m.kept.pen.under) (.bool (indexE ((t.setLate false).setX 0)).m.kept.pen.inv) (.bool (indexE ((t.setLate false).setX 0)).m.kept.origin) (.int .u8 (indexE ((t.setLate false).setX 0)).m.kept.s0) (.int .u8 (indexE ((t.setLate false).setX 0)).m.kept.s1) (.int .i64 (indexE ((t.setLate false).setX 0)).m.kept.use) (.pointer pp) (.pointer pm) (.pointer po) (.bool (indexE ((t.setLate false).setX 0)).m.alt) (.int .i64 (indexE ((t.setLate false).setX 0)).m.top) (.int .i64 (indexE ((t.setLate false).setX 0)).m.bottom) (.bool (indexE ((t.setLate false).setX 0)).m.wrap) (.bool (indexE ((t.setLate false).setX 0)).m.ins) (.bool (indexE ((t.setLate false).setX 0)).m.hidden) (.bool (indexE ((t.setLate false).setX 0)).m.late) (.pointer (some ⟨sb, 0, none⟩)) (.slice va vn vc)) 108) (s2 := .blk cb (gcells (indexE ((t.setLate false).setX 0)).cg gb gc) 121) (s3 := .row (.slice (some ⟨gb, 0, none⟩) (indexE ((t.setLate false).setX 0)).cg.c.length gc) 58 6 (indexE ((t.setLate false).setX 0)).cg.c.length ((indexE ((t.setLate false).setX 0)).cg.c.flatMap ceV)) (s4 := .blk xb (gcells t.og hb hc) 121) (s5 := .row (.slice (some ⟨hb, 0, none⟩) t.og.c.length hc) 58 6 t.og.c.length (t.og.c.flatMap ceV)) (s6 := .blk sb (scells t.s) 126) K32.rm K32.rm K32.rm K32.rm K32.rm K32.rm K32.sub
    · have e : plainE t 77 = reverseE (t.setLate false) := by unfold plainE; rfl
      rw [e]
      clear e
      go_enter Tryz.func82, Tryz.ntmps82
      go_wp2_with (first | (go_at_call 106; refine K32.ca (fun xw hs => ?_); (try simp only [emV_sets] at hs); have hs := hs.pick3 (r1 := .blk b (emQ ((t.setLate false).m) (.pointer pp) pm po (.pointer (some ⟨sb, 0, none⟩)) (.slice va vn vc)) 108) (r2 := .blk cb (gcells t.cg gb gc) 121) (r3 := .row (.slice (some ⟨gb, 0, none⟩) t.cg.c.length gc) 58 6 t.cg.c.length (t.cg.c.flatMap ceV)) K32.rm K32.rm K32.rm; refine (reverse_any b cb gb gc (.pointer pp) pm po (.pointer (some ⟨sb, 0, none⟩)) (.slice va vn vc) (t.setLate false) _ _ hs HCUR.out (ok_late OK.out false)).mono ?_; clear hs; rintro e w1 ⟨⟨rfl, hs⟩⟩; (try clear hcE0 hcE31 hcE32 hzE hlE); obtain ⟨hcE0, hcE31, hcE32, hzE, hlE⟩ := T1.f0_31_32 hs K32.rm; have HS := Lib.hid hs; clear hs))
      (first | go_end0 | refine bodyPost_ret (results_none rfl _ _ _) rfl ?_)
      refine ⟨⟨rfl, teAt_same (t := t) (u := reverseE (t.setLate false)) (sb := sb) (gb := gb) (gc := gc) (hb := hb) (hc := hc) (teL_same (t := t) ?_ ((same_l t false).trans (same_reverse _))) HCUR.out HOTH.out ((same_l t false).trans (same_reverse _))⟩⟩
      exact HS.out.end6 (s1 := .blk b (emQ ((reverseE (t.setLate false)).m) (.pointer pp) pm po (.pointer (some ⟨sb, 0, none⟩)) (.slice va vn vc)) 108) (s2 := .blk cb (gcells (reverseE (t.setLate false)).cg gb gc) 121) (s3 := .row (.slice (some ⟨gb, 0, none⟩) (reverseE (t.setLate false)).cg.c.length gc) 58 6 (reverseE (t.setLate false)).cg.c.length ((reverseE (t.setLate false)).cg.c.flatMap ceV)) (s4 := .blk xb (gcells t.og hb hc) 121) (s5 := .row (.slice (some ⟨hb, 0, none⟩) t.og.c.length hc) 58 6 t.og.c.length (t.og.c.flatMap ceV)) (s6 := .blk sb (scells t.s) 126) K32.rm K32.rm K32.rm K32.rm K32.rm K32.rm K32.sub
  · have e : plainE t k = t := by
      unfold plainE
      rw [if_neg (by omega), if_neg (by omega), if_neg (by omega), if_neg (by omega), if_neg (by omega), if_neg (by omega), if_neg (by omega)]
    rw [e]
    have hk55 : k ≠ 55 := by omega
    have hk56 : k ≠ 56 := by omega
    have hk72 : k ≠ 72 := by omega
    have hk99 : k ≠ 99 := by omega
    have hk68 : k ≠ 68 := by omega
    have hk69 : k ≠ 69 := by omega
    have hk77 : k ≠ 77 := by omega
    clear e hb
    go_enter Tryz.func82, Tryz.ntmps82
    go_wp2_with fail
    (first | go_end0 | refine bodyPost_ret (results_none rfl _ _ _) rfl ?_)
    refine ⟨⟨rfl, teAt_same (t := t) (u := t) (sb := sb) (gb := gb) (gc := gc) (hb := hb) (hc := hc) (teL_same (t := t) ?_ (.refl t)) HCUR.out HOTH.out (.refl t)⟩⟩
    exact HS.out.end6 (s1 := .blk b (emQ ((t).m) (.pointer pp) pm po (.pointer (some ⟨sb, 0, none⟩)) (.slice va vn vc)) 108) (s2 := .blk cb (gcells (t).cg gb gc) 121) (s3 := .row (.slice (some ⟨gb, 0, none⟩) (t).cg.c.length gc) 58 6 (t).cg.c.length ((t).cg.c.flatMap ceV)) (s4 := .blk xb (gcells t.og hb hc) 121) (s5 := .row (.slice (some ⟨hb, 0, none⟩) t.og.c.length hc) 58 6 t.og.c.length (t.og.c.flatMap ceV)) (s6 := .blk sb (scells t.s) 126) K32.rm K32.rm K32.rm K32.rm K32.rm K32.rm K32.sub
set_option maxHeartbeats 4000000 in
theorem escape_any (b sb cb gb gc xb hb hc : Nat) (pp pm po va : Option Addr) (vn vc : Nat) (t : Te) (i : List UInt8) (k : Int) (F : List Res) (w : World) (hs : Sep w (teL b (.pointer pp) (.slice va vn vc) pm po sb cb gb gc xb hb hc t F)) (hcur : (if t.m.alt = true then po else pm) = some ⟨cb, 0, none⟩) (hoth : (if t.m.alt = true then pm else po) = some ⟨xb, 0, none⟩) (ok : TeOk t) (k0 : 0 ≤ k) (k1 : k ≤ 255) : Calls Tryz.prog 66 #[.pointer (some ⟨b, 0, none⟩), .string ⟨i.toArray⟩, .int .i64 k] w (TeP b (.pointer pp) (.slice va vn vc) (escapeE t i k) F) := by
  have hs : Sep w (.blk b (emQ t.m (.pointer pp) pm po (.pointer (some ⟨sb, 0, none⟩)) (.slice va vn vc)) 108 :: gL cb gb gc t.cg (gL xb hb hc t.og (.blk sb (scells t.s) 126 :: F))) := hs
  have HCUR := Lib.hid hcur
  have HOTH := Lib.hid hoth
  have OK := Lib.hid ok
  have STOK := Lib.hid (show StOk t.s from ⟨ok.st⟩)
  obtain ⟨hcE, hzE, hlE⟩ := hs.here (b := b) K32.rm
  have hcE0 := (hcE 0).trans (emV_0 ..); have hcE31 := (hcE 31).trans (emV_31 ..); have hcE32 := (hcE 32).trans (emV_32 ..)
  have HS := Lib.hid hs
  clear hs ok hcur hoth hcE
  by_cases h0 : i = []
  · subst h0
    have e : escapeE t [] k = plainE t k := by unfold escapeE; rfl
    rw [e]
    clear e
    go_enter Tryz.func66, Tryz.ntmps66
    go_wp2_with (first | (go_at_call 82; refine (plain_any b sb cb gb gc xb hb hc pp pm po va vn vc t k F _ HS.out HCUR.out HOTH.out OK.out).mono ?_; rintro e w1 ⟨⟨rfl, ht⟩⟩))
    (first | go_end0 | refine bodyPost_ret (results_none rfl _ _ _) rfl ?_)
    exact ⟨⟨rfl, ht⟩⟩
  · by_cases h1 : i = [40]
    · subst h1
      have e : escapeE t [40] k = setE t 0 k := by unfold escapeE; rfl
      rw [e]
      clear e h0
      go_enter Tryz.func66, Tryz.ntmps66
      go_wp2_with (first | (go_at_call 83; refine K32.ca (fun xw hs => ?_); (try simp only [emV_sets] at hs); have hs := hs.pick3 (r1 := .blk b (emQ t.m (.pointer pp) pm po (.pointer (some ⟨sb, 0, none⟩)) (.slice va vn vc)) 108) (r2 := .blk cb (gcells t.cg gb gc) 121) (r3 := .row (.slice (some ⟨gb, 0, none⟩) t.cg.c.length gc) 58 6 t.cg.c.length (t.cg.c.flatMap ceV)) K32.rm K32.rm K32.rm; refine (set_0 b cb gb gc (.pointer pp) pm po (.pointer (some ⟨sb, 0, none⟩)) (.slice va vn vc) t k _ _ hs HCUR.out OK.out k0 k1).mono ?_; clear hs; rintro e w1 ⟨⟨rfl, hs⟩⟩; (try clear hcE0 hcE31 hcE32 hzE hlE); obtain ⟨hcE0, hcE31, hcE32, hzE, hlE⟩ := T1.f0_31_32 hs K32.rm; have HS := Lib.hid hs; clear hs))
      (first | go_end0 | refine bodyPost_ret (results_none rfl _ _ _) rfl ?_)
      refine ⟨⟨rfl, teAt_same (t := t) (u := setE t 0 k) (sb := sb) (gb := gb) (gc := gc) (hb := hb) (hc := hc) (teL_same (t := t) ?_ (same_set t 0 k)) HCUR.out HOTH.out (same_set t 0 k)⟩⟩
      exact HS.out.end6 (s1 := .blk b (emQ ((setE t 0 k).m) (.pointer pp) pm po (.pointer (some ⟨sb, 0, none⟩)) (.slice va vn vc)) 108) (s2 := .blk cb (gcells (setE t 0 k).cg gb gc) 121) (s3 := .row (.slice (some ⟨gb, 0, none⟩) (setE t 0 k).cg.c.length gc) 58 6 (setE t 0 k).cg.c.length ((setE t 0 k).cg.c.flatMap ceV)) (s4 := .blk xb (gcells t.og hb hc) 121) (s5 := .row (.slice (some ⟨hb, 0, none⟩) t.og.c.length hc) 58 6 t.og.c.length (t.og.c.flatMap ceV)) (s6 := .blk sb (scells t.s) 126) K32.rm K32.rm K32.rm K32.rm K32.rm K32.rm K32.sub
    · by_cases h2 : i = [41]
      · subst h2
        have e : escapeE t [41] k = setE t 1 k := by unfold escapeE; rfl
        rw [e]
        clear e h0 h1
        go_enter Tryz.func66, Tryz.ntmps66
        go_wp2_with (first | (go_at_call 83; refine K32.ca (fun xw hs => ?_); (try simp only [emV_sets] at hs); have hs := hs.pick3 (r1 := .blk b (emQ t.m (.pointer pp) pm po (.pointer (some ⟨sb, 0, none⟩)) (.slice va vn vc)) 108) (r2 := .blk cb (gcells t.cg gb gc) 121) (r3 := .row (.slice (some ⟨gb, 0, none⟩) t.cg.c.length gc) 58 6 t.cg.c.length (t.cg.c.flatMap ceV)) K32.rm K32.rm K32.rm; refine (set_1 b cb gb gc (.pointer pp) pm po (.pointer (some ⟨sb, 0, none⟩)) (.slice va vn vc) t k _ _ hs HCUR.out OK.out k0 k1).mono ?_; clear hs; rintro e w1 ⟨⟨rfl, hs⟩⟩; (try clear hcE0 hcE31 hcE32 hzE hlE); obtain ⟨hcE0, hcE31, hcE32, hzE, hlE⟩ := T1.f0_31_32 hs K32.rm; have HS := Lib.hid hs; clear hs))
        (first | go_end0 | refine bodyPost_ret (results_none rfl _ _ _) rfl ?_)
        refine ⟨⟨rfl, teAt_same (t := t) (u := setE t 1 k) (sb := sb) (gb := gb) (gc := gc) (hb := hb) (hc := hc) (teL_same (t := t) ?_ (same_set t 1 k)) HCUR.out HOTH.out (same_set t 1 k)⟩⟩
        exact HS.out.end6 (s1 := .blk b (emQ ((setE t 1 k).m) (.pointer pp) pm po (.pointer (some ⟨sb, 0, none⟩)) (.slice va vn vc)) 108) (s2 := .blk cb (gcells (setE t 1 k).cg gb gc) 121) (s3 := .row (.slice (some ⟨gb, 0, none⟩) (setE t 1 k).cg.c.length gc) 58 6 (setE t 1 k).cg.c.length ((setE t 1 k).cg.c.flatMap ceV)) (s4 := .blk xb (gcells t.og hb hc) 121) (s5 := .row (.slice (some ⟨hb, 0, none⟩) t.og.c.length hc) 58 6 t.og.c.length (t.og.c.flatMap ceV)) (s6 := .blk sb (scells t.s) 126) K32.rm K32.rm K32.rm K32.rm K32.rm K32.rm K32.sub
      · have e : escapeE t i k = t := by unfold escapeE; rw [if_neg h0, if_neg h1, if_neg h2]
        rw [e]
        have q0 : i.isEmpty = false := by simpa using h0
        have q1 : (i == [40]) = false := by simpa using h1
        have q2 : (i == [41]) = false := by simpa using h2
        clear e
        go_enter Tryz.func66, Tryz.ntmps66
        go_wp2_with fail
        (first | go_end0 | refine bodyPost_ret (results_none rfl _ _ _) rfl ?_)
        refine ⟨⟨rfl, teAt_same (t := t) (u := t) (sb := sb) (gb := gb) (gc := gc) (hb := hb) (hc := hc) (teL_same (t := t) ?_ (.refl t)) HCUR.out HOTH.out (.refl t)⟩⟩
        exact HS.out.end6 (s1 := .blk b (emQ ((t).m) (.pointer pp) pm po (.pointer (some ⟨sb, 0, none⟩)) (.slice va vn vc)) 108) (s2 := .blk cb (gcells (t).cg gb gc) 121) (s3 := .row (.slice (some ⟨gb, 0, none⟩) (t).cg.c.length gc) 58 6 (t).cg.c.length ((t).cg.c.flatMap ceV)) (s4 := .blk xb (gcells t.og hb hc) 121) (s5 := .row (.slice (some ⟨hb, 0, none⟩) t.og.c.length hc) 58 6 t.og.c.length (t.og.c.flatMap ceV)) (s6 := .blk sb (scells t.s) 126) K32.rm K32.rm K32.rm K32.rm K32.rm K32.rm K32.sub
end Go.Proofs.YtnjgnbdebkckfaaGreatDoor.T15
