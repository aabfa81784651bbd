/- T11 -/
import Derived.Test.YtnjgnbdebkckfaaGreatDoorA2
import Derived.Test.YtnjgnbdebkckfaaGreatDoorA11
import Derived.Test.YtnjgnbdebkckfaaGreatDoorA23
import Derived.Lib.Hide
set_option linter.unusedVariables false
set_option linter.unusedSimpArgs false
set_option linter.unnecessarySimpa false
namespace Go.Proofs.YtnjgnbdebkckfaaGreatDoor.T11
set_option maxRecDepth 100000
open Go.RowKit K1 K3 K5 K11 K12 K14 K20 K21 K22 K25 K30 K31 M0 C1 C4 G1 G2 G3 G4 G5 G6 G7 G8 E3 E4 ME MF S3 S4 T1 T2 T3 T4 T5 T6 T7 T8 T9 T10
attribute [local go_sem] cell_pastA froz_pastA
theorem region_same (t : Te) (l : List Int) : (regionE t l).s = t.s ∧ (regionE t l).og = t.og ∧ (regionE t l).m.alt = t.m.alt ∧ (regionE t l).cg = t.cg := by
  unfold regionE
  generalize (if atN l 1 < 1 ∨ t.cg.h < atN l 1 then t.cg.h else atN l 1) = B
  split <;> exact ⟨rfl, rfl, rfl, rfl⟩
set_option maxHeartbeats 4000000 in
theorem state_g (b cb gb gc : Nat) (pv : Value) (pm po : Option Addr) (av : Value) (sb : Nat) (t : Te) (R : List UInt8) (l : List Int) (nv : Value) (F : List Res) (w : World) (hs : Sep w (.blk b (emQ t.m pv pm po (.pointer (some ⟨sb, 0, none⟩)) av) 108 :: gL cb gb gc t.cg (.blk sb (scells t.s) 126 :: .row av 5 1 (R).length ((R).map K14.u8) :: .row nv 3 1 l.length (ints l) :: F))) (hcur : (if t.m.alt = true then po else pm) = some ⟨cb, 0, none⟩) (ok : TeOk t) (hl : NumOk l) (hR : R.length ≤ 1000000) : Calls Tryz.prog 87 #[.pointer (some ⟨b, 0, none⟩), .int .i64 103, nv] w (StP b cb gb gc pv pm po sb (stateE t 103 l) (R ++ stateR t 103 l) l nv F) := by
  have HCUR := Lib.hid hcur
  have OK := Lib.hid ok
  have L8 := Lib.hid hl
  have STOK := Lib.hid (show StOk t.s from ⟨ok.st⟩)
  obtain ⟨r3, r4⟩ := atN_rng hl 0
  obtain ⟨hcE, hzE, hlE⟩ := hs.here (b := b) K32.rm
  have hcE0 := (hcE 0).trans (emV_0 ..); have hcE1 := (hcE 1).trans (emV_1 ..); have hcE31 := (hcE 31).trans (emV_31 ..); have hcE29 := (hcE 29).trans (emV_29 ..); have hcE32 := (hcE 32).trans (emV_32 ..); have hcE2 := (hcE 2).trans (emV_2 ..); have hcE3 := (hcE 3).trans (emV_3 ..); have hcE4 := (hcE 4).trans (emV_4 ..); have hcE5 := (hcE 5).trans (emV_5 ..); have hcE6 := (hcE 6).trans (emV_6 ..)
  have HS := Lib.hid hs
  clear hs ok hcur hl hcE
  have ha : atN l 0 = -1 ∨ atN l 0 = 0 ∨ atN l 0 = 3 ∨ (atN l 0 ≠ -1 ∧ atN l 0 ≠ 0 ∧ atN l 0 ≠ 3) := by omega
  have e2 : R ++ stateR t 103 l = R := by unfold stateR; exact List.append_nil R
  rw [e2]
  clear e2
  have hst : stateE t 103 l = (if atN l 0 = -1 ∨ atN l 0 = 0 then { t with s := setS t.s t.m.cu.x false } else if atN l 0 = 3 then { t with s := noneS t.s } else t) := rfl
  rcases ha with ha | ha | ha | ⟨ha1, ha2, ha3⟩
  · have e1 : stateE t 103 l = { t with s := setS t.s t.m.cu.x false } := by rw [hst, if_pos (.inl ha)]
    rw [e1]
    have HA := Lib.hid ha
    clear e1 hst ha
    go_enter Tryz.func87, Tryz.ntmps87
    go_wp2_with (first | (go_at_call 112; refine K32.ca (fun xw hs => ?_); (try simp only [emV_sets] at hs); have hC := (at0 nv l xw (rd_ints (hs.hereRow (v := nv) K32.rm)) L8.out.1); (with_reducible refine hC.mono ?_); clear hC; rintro e w1 ⟨rfl, hb⟩; have hs := hs.below hb; clear hb; (try clear hcE0 hcE1 hcE2 hcE3 hcE4 hcE5 hcE6 hcE29 hcE31 hcE32 hzE hlE); obtain ⟨hcE0, hcE1, hcE2, hcE3, hcE4, hcE5, hcE6, hcE29, hcE31, hcE32, hzE, hlE⟩ := T1.f0_1_2_3_4_5_6_29_31_32 hs K32.rm; have HS := Lib.hid hs; clear hs; (try rw [HA.out])) | (refine K32.atW 5 (fun xw hs => ?_); (try simp only [emV_sets] at hs); (try clear hcE0 hcE1 hcE2 hcE3 hcE4 hcE5 hcE6 hcE29 hcE31 hcE32 hzE hlE); obtain ⟨hcE0, hcE1, hcE2, hcE3, hcE4, hcE5, hcE6, hcE29, hcE31, hcE32, hzE, hlE⟩ := T1.f0_1_2_3_4_5_6_29_31_32 hs K32.rm; have HS := Lib.hid hs; clear hs; refine K32.reg0 (w := xw) [9] [] 10 ?_; simp only [numbered, List.take_succ_cons, List.take_zero, List.drop_succ_cons, List.drop_zero, List.take_nil, List.drop_nil, Nat.reduceAdd]; (iterate 9 (refine K32.zd ?_; (try go_simp))); (refine wz_new (fun b => .slice (some ⟨b, 0, none⟩) 1 1) _ _ (by decide) (by decide) (by decide) C0e.es (growsB (by simp)) (by first | rfl | (go_simp; done)) (by intro b b' h; simp at h; omega) (by simp) (fun _ _ h => Below.size h) (fun bs hok wx hwx hL => by (have hwx : Below _ _ wx := hwx; have hcx := cellA hwx; have hfx := frozA hwx; have hzx := hwx.size; (try simp at hzx)); (try simp [go_sem, K32.ev, ↓IntWalk.iteOmega, *]); first | done | rfl) ?_; intro b9 hb9 F9 hF9; (try simp at hb9); (try go_simp)); refine wz_nil ?_; intro wq hbq hLq; have hm9 := hF9 _ (hLq.get 9 (by simp)); obtain ⟨hk9, hx9, hg9, hy9, hl9⟩ := blk hm9; clear hLq hF9; have hcwq := cellA hbq; have hfwq := frozA hbq; have hzwq := hbq.size; (try simp at hzwq); have hs := HS.out.addBlk (xs := [.int .i64 t.m.cu.x]) hbq hm9 (by simpa using hb9) rfl; have HS := Lib.hid hs; clear hs hcwq hfwq hk9 hx9 hg9 hy9 hm9 hbq hb9 hzwq hl9) | (go_at_call 117; refine K32.ca (fun xw hs => ?_); (try simp only [emV_sets] at hs); obtain ⟨hcB, hzB, hlB⟩ := hs.here (b := b9) K32.rm; have hcB0 := hcB 0; have hs := hs.pick2 (r1 := .blk sb (scells t.s) 126) (r2 := .blk b9 [.int .i64 t.m.cu.x] 3) K32.rm K32.rm; refine (clear_s sb b9 1 t.s t.m.cu.x _ _ hs STOK.out (fun h => hs.ne (c := b9) (ds := [.int .i64 t.m.cu.x]) (u := 3) (List.mem_cons_self ..) h.symm) (by decide) hcB0 hlB).mono ?_; clear hs hcB hzB hlB hcB0; rintro e w1 ⟨rfl, hs⟩; (try clear hcE0 hcE1 hcE2 hcE3 hcE4 hcE5 hcE6 hcE29 hcE31 hcE32 hzE hlE); obtain ⟨hcE0, hcE1, hcE2, hcE3, hcE4, hcE5, hcE6, hcE29, hcE31, hcE32, hzE, hlE⟩ := T1.f0_1_2_3_4_5_6_29_31_32 hs K32.rm; have HS := Lib.hid hs; clear hs))
    (first | go_end0 | refine bodyPost_ret (results_none rfl _ _ _) rfl ?_)
    refine ⟨⟨av, rfl, ?_⟩⟩
    ((with_reducible apply K30.sep_end); exact K32.fnd; intro hs; (try simp only [emV_sets] at hs); exact hs.end6 K32.rm K32.rm K32.rm K32.rm K32.rm K32.rm K32.sub)
  · have e1 : stateE t 103 l = { t with s := setS t.s t.m.cu.x false } := by rw [hst, if_pos (.inr ha)]
    rw [e1]
    have HA := Lib.hid ha
    clear e1 hst ha
    go_enter Tryz.func87, Tryz.ntmps87
    go_wp2_with (first | (go_at_call 112; refine K32.ca (fun xw hs => ?_); (try simp only [emV_sets] at hs); have hC := (at0 nv l xw (rd_ints (hs.hereRow (v := nv) K32.rm)) L8.out.1); (with_reducible refine hC.mono ?_); clear hC; rintro e w1 ⟨rfl, hb⟩; have hs := hs.below hb; clear hb; (try clear hcE0 hcE1 hcE2 hcE3 hcE4 hcE5 hcE6 hcE29 hcE31 hcE32 hzE hlE); obtain ⟨hcE0, hcE1, hcE2, hcE3, hcE4, hcE5, hcE6, hcE29, hcE31, hcE32, hzE, hlE⟩ := T1.f0_1_2_3_4_5_6_29_31_32 hs K32.rm; have HS := Lib.hid hs; clear hs; (try rw [HA.out])) | (refine K32.atW 5 (fun xw hs => ?_); (try simp only [emV_sets] at hs); (try clear hcE0 hcE1 hcE2 hcE3 hcE4 hcE5 hcE6 hcE29 hcE31 hcE32 hzE hlE); obtain ⟨hcE0, hcE1, hcE2, hcE3, hcE4, hcE5, hcE6, hcE29, hcE31, hcE32, hzE, hlE⟩ := T1.f0_1_2_3_4_5_6_29_31_32 hs K32.rm; have HS := Lib.hid hs; clear hs; refine K32.reg0 (w := xw) [9] [] 10 ?_; simp only [numbered, List.take_succ_cons, List.take_zero, List.drop_succ_cons, List.drop_zero, List.take_nil, List.drop_nil, Nat.reduceAdd]; (iterate 9 (refine K32.zd ?_; (try go_simp))); (refine wz_new (fun b => .slice (some ⟨b, 0, none⟩) 1 1) _ _ (by decide) (by decide) (by decide) C0e.es (growsB (by simp)) (by first | rfl | (go_simp; done)) (by intro b b' h; simp at h; omega) (by simp) (fun _ _ h => Below.size h) (fun bs hok wx hwx hL => by (have hwx : Below _ _ wx := hwx; have hcx := cellA hwx; have hfx := frozA hwx; have hzx := hwx.size; (try simp at hzx)); (try simp [go_sem, K32.ev, ↓IntWalk.iteOmega, *]); first | done | rfl) ?_; intro b9 hb9 F9 hF9; (try simp at hb9); (try go_simp)); refine wz_nil ?_; intro wq hbq hLq; have hm9 := hF9 _ (hLq.get 9 (by simp)); obtain ⟨hk9, hx9, hg9, hy9, hl9⟩ := blk hm9; clear hLq hF9; have hcwq := cellA hbq; have hfwq := frozA hbq; have hzwq := hbq.size; (try simp at hzwq); have hs := HS.out.addBlk (xs := [.int .i64 t.m.cu.x]) hbq hm9 (by simpa using hb9) rfl; have HS := Lib.hid hs; clear hs hcwq hfwq hk9 hx9 hg9 hy9 hm9 hbq hb9 hzwq hl9) | (go_at_call 117; refine K32.ca (fun xw hs => ?_); (try simp only [emV_sets] at hs); obtain ⟨hcB, hzB, hlB⟩ := hs.here (b := b9) K32.rm; have hcB0 := hcB 0; have hs := hs.pick2 (r1 := .blk sb (scells t.s) 126) (r2 := .blk b9 [.int .i64 t.m.cu.x] 3) K32.rm K32.rm; refine (clear_s sb b9 1 t.s t.m.cu.x _ _ hs STOK.out (fun h => hs.ne (c := b9) (ds := [.int .i64 t.m.cu.x]) (u := 3) (List.mem_cons_self ..) h.symm) (by decide) hcB0 hlB).mono ?_; clear hs hcB hzB hlB hcB0; rintro e w1 ⟨rfl, hs⟩; (try clear hcE0 hcE1 hcE2 hcE3 hcE4 hcE5 hcE6 hcE29 hcE31 hcE32 hzE hlE); obtain ⟨hcE0, hcE1, hcE2, hcE3, hcE4, hcE5, hcE6, hcE29, hcE31, hcE32, hzE, hlE⟩ := T1.f0_1_2_3_4_5_6_29_31_32 hs K32.rm; have HS := Lib.hid hs; clear hs))
    (first | go_end0 | refine bodyPost_ret (results_none rfl _ _ _) rfl ?_)
    refine ⟨⟨av, rfl, ?_⟩⟩
    ((with_reducible apply K30.sep_end); exact K32.fnd; intro hs; (try simp only [emV_sets] at hs); exact hs.end6 K32.rm K32.rm K32.rm K32.rm K32.rm K32.rm K32.sub)
  · have e1 : stateE t 103 l = { t with s := noneS t.s } := by rw [hst, if_neg (by omega), if_pos ha]
    rw [e1]
    have HA := Lib.hid ha
    clear e1 hst ha
    go_enter Tryz.func87, Tryz.ntmps87
    go_wp2_with (first | (go_at_call 112; refine K32.ca (fun xw hs => ?_); (try simp only [emV_sets] at hs); have hC := (at0 nv l xw (rd_ints (hs.hereRow (v := nv) K32.rm)) L8.out.1); (with_reducible refine hC.mono ?_); clear hC; rintro e w1 ⟨rfl, hb⟩; have hs := hs.below hb; clear hb; (try clear hcE0 hcE1 hcE2 hcE3 hcE4 hcE5 hcE6 hcE29 hcE31 hcE32 hzE hlE); obtain ⟨hcE0, hcE1, hcE2, hcE3, hcE4, hcE5, hcE6, hcE29, hcE31, hcE32, hzE, hlE⟩ := T1.f0_1_2_3_4_5_6_29_31_32 hs K32.rm; have HS := Lib.hid hs; clear hs; (try rw [HA.out])) | (go_at_call 118; refine K32.ca (fun xw hs => ?_); (try simp only [emV_sets] at hs); have hs := hs.pick (r1 := .blk sb (scells t.s) 126) K32.rm; refine (none_s sb t.s _ _ hs STOK.out).mono ?_; clear hs; rintro e w1 ⟨rfl, hs⟩; (try clear hcE0 hcE1 hcE2 hcE3 hcE4 hcE5 hcE6 hcE29 hcE31 hcE32 hzE hlE); obtain ⟨hcE0, hcE1, hcE2, hcE3, hcE4, hcE5, hcE6, hcE29, hcE31, hcE32, hzE, hlE⟩ := T1.f0_1_2_3_4_5_6_29_31_32 hs K32.rm; have HS := Lib.hid hs; clear hs))
    (first | go_end0 | refine bodyPost_ret (results_none rfl _ _ _) rfl ?_)
    refine ⟨⟨av, rfl, ?_⟩⟩
    ((with_reducible apply K30.sep_end); exact K32.fnd; intro hs; (try simp only [emV_sets] at hs); exact hs.end6 K32.rm K32.rm K32.rm K32.rm K32.rm K32.rm K32.sub)
  · have e1 : stateE t 103 l = t := by rw [hst, if_neg (by omega), if_neg ha3]
    rw [e1]
    clear e1 hst
    go_enter Tryz.func87, Tryz.ntmps87
    go_wp2_with (first | (go_at_call 112; refine K32.ca (fun xw hs => ?_); (try simp only [emV_sets] at hs); have hC := (at0 nv l xw (rd_ints (hs.hereRow (v := nv) K32.rm)) L8.out.1); (with_reducible refine hC.mono ?_); clear hC; rintro e w1 ⟨rfl, hb⟩; have hs := hs.below hb; clear hb; (try clear hcE0 hcE1 hcE2 hcE3 hcE4 hcE5 hcE6 hcE29 hcE31 hcE32 hzE hlE); obtain ⟨hcE0, hcE1, hcE2, hcE3, hcE4, hcE5, hcE6, hcE29, hcE31, hcE32, hzE, hlE⟩ := T1.f0_1_2_3_4_5_6_29_31_32 hs K32.rm; have HS := Lib.hid hs; clear hs))
    (first | go_end0 | refine bodyPost_ret (results_none rfl _ _ _) rfl ?_)
    refine ⟨⟨av, rfl, ?_⟩⟩
    ((with_reducible apply K30.sep_end); exact K32.fnd; intro hs; (try simp only [emV_sets] at hs); exact hs.end6 K32.rm K32.rm K32.rm K32.rm K32.rm K32.rm K32.sub)
set_option maxHeartbeats 4000000 in
theorem state_r (b cb gb gc : Nat) (pv : Value) (pm po : Option Addr) (av : Value) (sb : Nat) (t : Te) (R : List UInt8) (l : List Int) (nv : Value) (F : List Res) (w : World) (hs : Sep w (.blk b (emQ t.m pv pm po (.pointer (some ⟨sb, 0, none⟩)) av) 108 :: gL cb gb gc t.cg (.blk sb (scells t.s) 126 :: .row av 5 1 (R).length ((R).map K14.u8) :: .row nv 3 1 l.length (ints l) :: F))) (hcur : (if t.m.alt = true then po else pm) = some ⟨cb, 0, none⟩) (ok : TeOk t) (hl : NumOk l) (hR : R.length ≤ 1000000) : Calls Tryz.prog 87 #[.pointer (some ⟨b, 0, none⟩), .int .i64 114, nv] w (StP b cb gb gc pv pm po sb (stateE t 114 l) (R ++ stateR t 114 l) l nv F) := by
  have HCUR := Lib.hid hcur
  have OK := Lib.hid ok
  have L8 := Lib.hid hl
  have STOK := Lib.hid (show StOk t.s from ⟨ok.st⟩)
  obtain ⟨r3, r4⟩ := atN_rng hl 0
  obtain ⟨hcE, hzE, hlE⟩ := hs.here (b := b) K32.rm
  have hcE0 := (hcE 0).trans (emV_0 ..); have hcE1 := (hcE 1).trans (emV_1 ..); have hcE31 := (hcE 31).trans (emV_31 ..); have hcE29 := (hcE 29).trans (emV_29 ..); have hcE32 := (hcE 32).trans (emV_32 ..); have hcE2 := (hcE 2).trans (emV_2 ..); have hcE3 := (hcE 3).trans (emV_3 ..); have hcE4 := (hcE 4).trans (emV_4 ..); have hcE5 := (hcE 5).trans (emV_5 ..); have hcE6 := (hcE 6).trans (emV_6 ..)
  have HS := Lib.hid hs
  clear hs ok hcur hl hcE
  have e1 : stateE t 114 l = regionE t l := by unfold stateE; rfl
  have e2 : R ++ stateR t 114 l = R := by unfold stateR; exact List.append_nil R
  rw [e1, e2]
  clear e1 e2
  obtain ⟨u, hu⟩ : ∃ u, u = regionE t l := ⟨_, rfl⟩
  have hus : u.s = t.s := by rw [hu]; exact (region_same t l).1
  have HU := Lib.hid hu
  have HUS := Lib.hid hus
  clear hu hus
  go_enter Tryz.func87, Tryz.ntmps87
  go_wp2_with (first | (go_at_call 119; refine K32.ca (fun xw hs => ?_); (try simp only [emV_sets] at hs); have hs := hs.pick4 (r1 := .blk b (emQ t.m pv pm po (.pointer (some ⟨sb, 0, none⟩)) av) 108) (r2 := .blk cb (gcells t.cg gb gc) 121) (r3 := .row (.slice (some ⟨gb, 0, none⟩) t.cg.c.length gc) 58 6 t.cg.c.length (t.cg.c.flatMap ceV)) (r4 := .row nv 3 1 l.length (ints l)) K32.rm K32.rm K32.rm K32.rm; refine (region_any b cb gb gc  pv pm po (.pointer (some ⟨sb, 0, none⟩)) av t l nv _ _ hs HCUR.out OK.out L8.out).mono ?_; clear hs; rintro e w1 ⟨⟨rfl, hs⟩⟩; (try clear hcE0 hcE1 hcE2 hcE3 hcE4 hcE5 hcE6 hcE29 hcE31 hcE32 hzE hlE); obtain ⟨hcE0, hcE1, hcE2, hcE3, hcE4, hcE5, hcE6, hcE29, hcE31, hcE32, hzE, hlE⟩ := T1.f0_1_2_3_4_5_6_29_31_32 hs K32.rm; have HS := Lib.hid hs; clear hs))
  (first | go_end0 | refine bodyPost_ret (results_none rfl _ _ _) rfl ?_)
  refine ⟨⟨av, rfl, ?_⟩⟩
  rw [← HU.out, HUS.out, HU.out]
  ((with_reducible apply K30.sep_end); exact K32.fnd; intro hs; (try simp only [emV_sets] at hs); exact hs.end6 K32.rm K32.rm K32.rm K32.rm K32.rm K32.rm K32.sub)
theorem sgr_w (a : At) (v : Value) (l : List Int) (w : World) (hv : Nums w v l) (hr : ∀ y ∈ l, -1 ≤ y ∧ y ≤ 100000) (hl : l.length ≤ 1000000) : Calls Tryz.prog 120 #[.agg #[.int .i64 a.fg, .int .i64 a.bg, .bool a.bold, .bool a.under, .bool a.inv], v] w fun e w' => e = .returned (.agg #[.int .i64 (sgrF a l).fg, .int .i64 (sgrF a l).bg, .bool (sgrF a l).bold, .bool (sgrF a l).under, .bool (sgrF a l).inv]) ∧ Below w.heap.size w w' := sgr_any a v l w hv hr hl
set_option maxHeartbeats 4000000 in
theorem state_m (b cb gb gc : Nat) (pv : Value) (pm po : Option Addr) (av : Value) (sb : Nat) (t : Te) (R : List UInt8) (l : List Int) (nv : Value) (F : List Res) (w : World) (hs : Sep w (.blk b (emQ t.m pv pm po (.pointer (some ⟨sb, 0, none⟩)) av) 108 :: gL cb gb gc t.cg (.blk sb (scells t.s) 126 :: .row av 5 1 (R).length ((R).map K14.u8) :: .row nv 3 1 l.length (ints l) :: F))) (hcur : (if t.m.alt = true then po else pm) = some ⟨cb, 0, none⟩) (ok : TeOk t) (hl : NumOk l) (hR : R.length ≤ 1000000) : Calls Tryz.prog 87 #[.pointer (some ⟨b, 0, none⟩), .int .i64 109, nv] w (StP b cb gb gc pv pm po sb (stateE t 109 l) (R ++ stateR t 109 l) l nv F) := by
  have HCUR := Lib.hid hcur
  have OK := Lib.hid ok
  have L8 := Lib.hid hl
  have STOK := Lib.hid (show StOk t.s from ⟨ok.st⟩)
  obtain ⟨r3, r4⟩ := atN_rng hl 0
  obtain ⟨hcE, hzE, hlE⟩ := hs.here (b := b) K32.rm
  have hcE0 := (hcE 0).trans (emV_0 ..); have hcE1 := (hcE 1).trans (emV_1 ..); have hcE31 := (hcE 31).trans (emV_31 ..); have hcE29 := (hcE 29).trans (emV_29 ..); have hcE32 := (hcE 32).trans (emV_32 ..); have hcE2 := (hcE 2).trans (emV_2 ..); have hcE3 := (hcE 3).trans (emV_3 ..); have hcE4 := (hcE 4).trans (emV_4 ..); have hcE5 := (hcE 5).trans (emV_5 ..); have hcE6 := (hcE 6).trans (emV_6 ..)
  have HS := Lib.hid hs
  clear hs ok hcur hl hcE
  have e1 : stateE t 109 l = { t with m := { t.m with cu := { t.m.cu with pen := sgrF t.m.cu.pen l } } } := by unfold stateE; rfl
  have e2 : R ++ stateR t 109 l = R := by unfold stateR; exact List.append_nil R
  rw [e1, e2]
  clear e1 e2
  go_enter Tryz.func87, Tryz.ntmps87
  go_wp2_with (first | (go_at_call 120; refine K32.ca (fun xw hs => ?_); (try simp only [emV_sets] at hs); have hC := (sgr_w t.m.cu.pen nv l xw (nums_row (hs.hereRow (v := nv) K32.rm)) (fun y hy => by have := L8.out.2 y hy; omega) (by have := L8.out.1; omega)); (with_reducible refine hC.mono ?_); clear hC; rintro e w1 ⟨rfl, hb⟩; have hs := hs.below hb; clear hb; (try clear hcE0 hcE1 hcE2 hcE3 hcE4 hcE5 hcE6 hcE29 hcE31 hcE32 hzE hlE); obtain ⟨hcE0, hcE1, hcE2, hcE3, hcE4, hcE5, hcE6, hcE29, hcE31, hcE32, hzE, hlE⟩ := T1.f0_1_2_3_4_5_6_29_31_32 hs K32.rm; have HS := Lib.hid hs; clear hs))
  (first | go_end0 | refine bodyPost_ret (results_none rfl _ _ _) rfl ?_)
  refine ⟨⟨av, rfl, ?_⟩⟩
  ((with_reducible apply K30.sep_end); exact K32.fnd; intro hs; (try simp only [emV_sets] at hs); exact hs.end6 K32.rm K32.rm K32.rm K32.rm K32.rm K32.rm K32.sub)
set_option maxHeartbeats 4000000 in
theorem state_n (b cb gb gc : Nat) (pv : Value) (pm po : Option Addr) (av : Value) (sb : Nat) (t : Te) (R : List UInt8) (l : List Int) (nv : Value) (F : List Res) (w : World) (hs : Sep w (.blk b (emQ t.m pv pm po (.pointer (some ⟨sb, 0, none⟩)) av) 108 :: gL cb gb gc t.cg (.blk sb (scells t.s) 126 :: .row av 5 1 (R).length ((R).map K14.u8) :: .row nv 3 1 l.length (ints l) :: F))) (hcur : (if t.m.alt = true then po else pm) = some ⟨cb, 0, none⟩) (ok : TeOk t) (hl : NumOk l) (hR : R.length ≤ 1000000) : Calls Tryz.prog 87 #[.pointer (some ⟨b, 0, none⟩), .int .i64 110, nv] w (StP b cb gb gc pv pm po sb (stateE t 110 l) (R ++ stateR t 110 l) l nv F) := by
  have HCUR := Lib.hid hcur
  have OK := Lib.hid ok
  have L8 := Lib.hid hl
  have STOK := Lib.hid (show StOk t.s from ⟨ok.st⟩)
  obtain ⟨r3, r4⟩ := atN_rng hl 0
  obtain ⟨hcE, hzE, hlE⟩ := hs.here (b := b) K32.rm
  have hcE0 := (hcE 0).trans (emV_0 ..); have hcE1 := (hcE 1).trans (emV_1 ..); have hcE31 := (hcE 31).trans (emV_31 ..); have hcE29 := (hcE 29).trans (emV_29 ..); have hcE32 := (hcE 32).trans (emV_32 ..); have hcE2 := (hcE 2).trans (emV_2 ..); have hcE3 := (hcE 3).trans (emV_3 ..); have hcE4 := (hcE 4).trans (emV_4 ..); have hcE5 := (hcE 5).trans (emV_5 ..); have hcE6 := (hcE 6).trans (emV_6 ..)
  have HS := Lib.hid hs
  clear hs ok hcur hl hcE
  have e1 : stateE t 110 l = t := by unfold stateE; rfl
  have e2 : R ++ stateR t 110 l = R ++ reportR t (atN l 0) := by unfold stateR; rfl
  rw [e1, e2]
  clear e1 e2
  go_enter Tryz.func87, Tryz.ntmps87
  go_wp2_with (first | (go_at_call 112; refine K32.ca (fun xw hs => ?_); (try simp only [emV_sets] at hs); have hC := (at0 nv l xw (rd_ints (hs.hereRow (v := nv) K32.rm)) L8.out.1); (with_reducible refine hC.mono ?_); clear hC; rintro e w1 ⟨rfl, hb⟩; have hs := hs.below hb; clear hb; (try clear hcE0 hcE1 hcE2 hcE3 hcE4 hcE5 hcE6 hcE29 hcE31 hcE32 hzE hlE); obtain ⟨hcE0, hcE1, hcE2, hcE3, hcE4, hcE5, hcE6, hcE29, hcE31, hcE32, hzE, hlE⟩ := T1.f0_1_2_3_4_5_6_29_31_32 hs K32.rm; have HS := Lib.hid hs; clear hs) | (go_at_call 121; refine K32.ca (fun xw hs => ?_); (try simp only [emV_sets] at hs); have hs := hs.pick2 (r1 := .blk b (emQ t.m pv pm po (.pointer (some ⟨sb, 0, none⟩)) av) 108) (r2 := .row av 5 1 (R).length ((R).map K14.u8)) K32.rm K32.rm; refine (report_any b cb gb gc  pv pm po (.pointer (some ⟨sb, 0, none⟩)) av t (atN l 0) R _ _ hs OK.out hR).mono ?_; clear hs; rintro e w1 ⟨⟨av1, rfl, hs⟩⟩; (try clear hcE0 hcE1 hcE2 hcE3 hcE4 hcE5 hcE6 hcE29 hcE31 hcE32 hzE hlE); obtain ⟨hcE0, hcE1, hcE2, hcE3, hcE4, hcE5, hcE6, hcE29, hcE31, hcE32, hzE, hlE⟩ := T1.f0_1_2_3_4_5_6_29_31_32 hs K32.rm; have HS := Lib.hid hs; clear hs))
  (first | go_end0 | refine bodyPost_ret (results_none rfl _ _ _) rfl ?_)
  refine ⟨⟨av1, rfl, ?_⟩⟩
  ((with_reducible apply K30.sep_end); exact K32.fnd; intro hs; (try simp only [emV_sets] at hs); exact hs.end6 K32.rm K32.rm K32.rm K32.rm K32.rm K32.rm K32.sub)
set_option maxHeartbeats 4000000 in
theorem state_c (b cb gb gc : Nat) (pv : Value) (pm po : Option Addr) (av : Value) (sb : Nat) (t : Te) (R : List UInt8) (l : List Int) (nv : Value) (F : List Res) (w : World) (hs : Sep w (.blk b (emQ t.m pv pm po (.pointer (some ⟨sb, 0, none⟩)) av) 108 :: gL cb gb gc t.cg (.blk sb (scells t.s) 126 :: .row av 5 1 (R).length ((R).map K14.u8) :: .row nv 3 1 l.length (ints l) :: F))) (hcur : (if t.m.alt = true then po else pm) = some ⟨cb, 0, none⟩) (ok : TeOk t) (hl : NumOk l) (hR : R.length ≤ 1000000) : Calls Tryz.prog 87 #[.pointer (some ⟨b, 0, none⟩), .int .i64 99, nv] w (StP b cb gb gc pv pm po sb (stateE t 99 l) (R ++ stateR t 99 l) l nv F) := by
  have HCUR := Lib.hid hcur
  have OK := Lib.hid ok
  have L8 := Lib.hid hl
  have STOK := Lib.hid (show StOk t.s from ⟨ok.st⟩)
  obtain ⟨r3, r4⟩ := atN_rng hl 0
  obtain ⟨hcE, hzE, hlE⟩ := hs.here (b := b) K32.rm
  have hcE0 := (hcE 0).trans (emV_0 ..); have hcE1 := (hcE 1).trans (emV_1 ..); have hcE31 := (hcE 31).trans (emV_31 ..); have hcE29 := (hcE 29).trans (emV_29 ..); have hcE32 := (hcE 32).trans (emV_32 ..); have hcE2 := (hcE 2).trans (emV_2 ..); have hcE3 := (hcE 3).trans (emV_3 ..); have hcE4 := (hcE 4).trans (emV_4 ..); have hcE5 := (hcE 5).trans (emV_5 ..); have hcE6 := (hcE 6).trans (emV_6 ..)
  have HS := Lib.hid hs
  clear hs ok hcur hl hcE
  have e1 : stateE t 99 l = t := by unfold stateE; rfl
  rw [e1]
  clear e1
  have hst : stateR t 99 l = if (99 : Int) = 99 ∧ atN l 0 < 1 then [27, 91, 63, 49, 59, 50, 99] else [] := rfl
  by_cases ha : atN l 0 < 1
  · have e2 : R ++ stateR t 99 l = R ++ [27, 91, 63, 49, 59, 50, 99] := by rw [hst, if_pos ⟨rfl, ha⟩]
    rw [e2]
    clear e2 hst
    go_enter Tryz.func87, Tryz.ntmps87
    go_wp2_with (first | (go_at_call 112; refine K32.ca (fun xw hs => ?_); (try simp only [emV_sets] at hs); have hC := (at0 nv l xw (rd_ints (hs.hereRow (v := nv) K32.rm)) L8.out.1); (with_reducible refine hC.mono ?_); clear hC; rintro e w1 ⟨rfl, hb⟩; have hs := hs.below hb; clear hb; (try clear hcE0 hcE1 hcE2 hcE3 hcE4 hcE5 hcE6 hcE29 hcE31 hcE32 hzE hlE); obtain ⟨hcE0, hcE1, hcE2, hcE3, hcE4, hcE5, hcE6, hcE29, hcE31, hcE32, hzE, hlE⟩ := T1.f0_1_2_3_4_5_6_29_31_32 hs K32.rm; have HS := Lib.hid hs; clear hs) | (go_at_call 122; refine K32.ca (fun xw hs => ?_); (try simp only [emV_sets] at hs); have hs := hs.pick2 (r1 := .blk b (emQ t.m pv pm po (.pointer (some ⟨sb, 0, none⟩)) av) 108) (r2 := .row av 5 1 (R).length ((R).map K14.u8)) K32.rm K32.rm; refine (reply_l b pv pm po (.pointer (some ⟨sb, 0, none⟩)) av t R [27, 91, 63, 49, 59, 50, 99] _ _ _ hs hR (by decide) rfl).mono ?_; clear hs; rintro e w1 ⟨⟨av1, rfl, hs⟩⟩; (try clear hcE0 hcE1 hcE2 hcE3 hcE4 hcE5 hcE6 hcE29 hcE31 hcE32 hzE hlE); obtain ⟨hcE0, hcE1, hcE2, hcE3, hcE4, hcE5, hcE6, hcE29, hcE31, hcE32, hzE, hlE⟩ := T1.f0_1_2_3_4_5_6_29_31_32 hs K32.rm; have HS := Lib.hid hs; clear hs))
    (first | go_end0 | refine bodyPost_ret (results_none rfl _ _ _) rfl ?_)
    refine ⟨⟨av1, rfl, ?_⟩⟩
    ((with_reducible apply K30.sep_end); exact K32.fnd; intro hs; (try simp only [emV_sets] at hs); exact hs.end6 K32.rm K32.rm K32.rm K32.rm K32.rm K32.rm K32.sub)
  · have e2 : R ++ stateR t 99 l = R := by rw [hst, if_neg (fun h => ha h.2), List.append_nil]
    rw [e2]
    clear e2 hst
    go_enter Tryz.func87, Tryz.ntmps87
    go_wp2_with (first | (go_at_call 112; refine K32.ca (fun xw hs => ?_); (try simp only [emV_sets] at hs); have hC := (at0 nv l xw (rd_ints (hs.hereRow (v := nv) K32.rm)) L8.out.1); (with_reducible refine hC.mono ?_); clear hC; rintro e w1 ⟨rfl, hb⟩; have hs := hs.below hb; clear hb; (try clear hcE0 hcE1 hcE2 hcE3 hcE4 hcE5 hcE6 hcE29 hcE31 hcE32 hzE hlE); obtain ⟨hcE0, hcE1, hcE2, hcE3, hcE4, hcE5, hcE6, hcE29, hcE31, hcE32, hzE, hlE⟩ := T1.f0_1_2_3_4_5_6_29_31_32 hs K32.rm; have HS := Lib.hid hs; clear hs))
    (first | go_end0 | refine bodyPost_ret (results_none rfl _ _ _) rfl ?_)
    refine ⟨⟨av, rfl, ?_⟩⟩
    ((with_reducible apply K30.sep_end); exact K32.fnd; intro hs; (try simp only [emV_sets] at hs); exact hs.end6 K32.rm K32.rm K32.rm K32.rm K32.rm K32.rm K32.sub)
set_option maxHeartbeats 4000000 in
theorem state_s (b cb gb gc : Nat) (pv : Value) (pm po : Option Addr) (av : Value) (sb : Nat) (t : Te) (R : List UInt8) (l : List Int) (nv : Value) (F : List Res) (w : World) (hs : Sep w (.blk b (emQ t.m pv pm po (.pointer (some ⟨sb, 0, none⟩)) av) 108 :: gL cb gb gc t.cg (.blk sb (scells t.s) 126 :: .row av 5 1 (R).length ((R).map K14.u8) :: .row nv 3 1 l.length (ints l) :: F))) (hcur : (if t.m.alt = true then po else pm) = some ⟨cb, 0, none⟩) (ok : TeOk t) (hl : NumOk l) (hR : R.length ≤ 1000000) : Calls Tryz.prog 87 #[.pointer (some ⟨b, 0, none⟩), .int .i64 115, nv] w (StP b cb gb gc pv pm po sb (stateE t 115 l) (R ++ stateR t 115 l) l nv F) := by
  have HCUR := Lib.hid hcur
  have OK := Lib.hid ok
  have L8 := Lib.hid hl
  have STOK := Lib.hid (show StOk t.s from ⟨ok.st⟩)
  obtain ⟨r3, r4⟩ := atN_rng hl 0
  obtain ⟨hcE, hzE, hlE⟩ := hs.here (b := b) K32.rm
  have hcE0 := (hcE 0).trans (emV_0 ..); have hcE1 := (hcE 1).trans (emV_1 ..); have hcE31 := (hcE 31).trans (emV_31 ..); have hcE29 := (hcE 29).trans (emV_29 ..); have hcE32 := (hcE 32).trans (emV_32 ..); have hcE2 := (hcE 2).trans (emV_2 ..); have hcE3 := (hcE 3).trans (emV_3 ..); have hcE4 := (hcE 4).trans (emV_4 ..); have hcE5 := (hcE 5).trans (emV_5 ..); have hcE6 := (hcE 6).trans (emV_6 ..)
  have HS := Lib.hid hs
  clear hs ok hcur hl hcE
  have e1 : stateE t 115 l = saveE t := by unfold stateE; rfl
  have e2 : R ++ stateR t 115 l = R := by unfold stateR; exact List.append_nil R
  rw [e1, e2]
  clear e1 e2
  go_enter Tryz.func87, Tryz.ntmps87
  go_wp2_with (first | (go_at_call 102; refine K32.ca (fun xw hs => ?_); (try simp only [emV_sets] at hs); have hs := hs.pick3 (r1 := .blk b (emQ t.m pv pm po (.pointer (some ⟨sb, 0, none⟩)) av) 108) (r2 := .blk cb (gcells t.cg gb gc) 121) (r3 := .row (.slice (some ⟨gb, 0, none⟩) t.cg.c.length gc) 58 6 t.cg.c.length (t.cg.c.flatMap ceV)) K32.rm K32.rm K32.rm; refine (save_any b cb gb gc pv pm po (.pointer (some ⟨sb, 0, none⟩)) av t _ _ hs HCUR.out OK.out).mono ?_; clear hs; rintro e w1 ⟨⟨rfl, hs⟩⟩; (try clear hcE0 hcE1 hcE2 hcE3 hcE4 hcE5 hcE6 hcE29 hcE31 hcE32 hzE hlE); obtain ⟨hcE0, hcE1, hcE2, hcE3, hcE4, hcE5, hcE6, hcE29, hcE31, hcE32, hzE, hlE⟩ := T1.f0_1_2_3_4_5_6_29_31_32 hs K32.rm; have HS := Lib.hid hs; clear hs))
  (first | go_end0 | refine bodyPost_ret (results_none rfl _ _ _) rfl ?_)
  refine ⟨⟨av, rfl, ?_⟩⟩
  ((with_reducible apply K30.sep_end); exact K32.fnd; intro hs; (try simp only [emV_sets] at hs); exact hs.end6 K32.rm K32.rm K32.rm K32.rm K32.rm K32.rm K32.sub)
set_option maxHeartbeats 4000000 in
theorem state_u (b cb gb gc : Nat) (pv : Value) (pm po : Option Addr) (av : Value) (sb : Nat) (t : Te) (R : List UInt8) (l : List Int) (nv : Value) (F : List Res) (w : World) (hs : Sep w (.blk b (emQ t.m pv pm po (.pointer (some ⟨sb, 0, none⟩)) av) 108 :: gL cb gb gc t.cg (.blk sb (scells t.s) 126 :: .row av 5 1 (R).length ((R).map K14.u8) :: .row nv 3 1 l.length (ints l) :: F))) (hcur : (if t.m.alt = true then po else pm) = some ⟨cb, 0, none⟩) (ok : TeOk t) (hl : NumOk l) (hR : R.length ≤ 1000000) : Calls Tryz.prog 87 #[.pointer (some ⟨b, 0, none⟩), .int .i64 117, nv] w (StP b cb gb gc pv pm po sb (stateE t 117 l) (R ++ stateR t 117 l) l nv F) := by
  have HCUR := Lib.hid hcur
  have OK := Lib.hid ok
  have L8 := Lib.hid hl
  have STOK := Lib.hid (show StOk t.s from ⟨ok.st⟩)
  obtain ⟨r3, r4⟩ := atN_rng hl 0
  obtain ⟨hcE, hzE, hlE⟩ := hs.here (b := b) K32.rm
  have hcE0 := (hcE 0).trans (emV_0 ..); have hcE1 := (hcE 1).trans (emV_1 ..); have hcE31 := (hcE 31).trans (emV_31 ..); have hcE29 := (hcE 29).trans (emV_29 ..); have hcE32 := (hcE 32).trans (emV_32 ..); have hcE2 := (hcE 2).trans (emV_2 ..); have hcE3 := (hcE 3).trans (emV_3 ..); have hcE4 := (hcE 4).trans (emV_4 ..); have hcE5 := (hcE 5).trans (emV_5 ..); have hcE6 := (hcE 6).trans (emV_6 ..)
  have HS := Lib.hid hs
  clear hs ok hcur hl hcE
  have e1 : stateE t 117 l = restoreE t := by unfold stateE; rfl
  have e2 : R ++ stateR t 117 l = R := by unfold stateR; exact List.append_nil R
  rw [e1, e2]
  clear e1 e2
  go_enter Tryz.func87, Tryz.ntmps87
  go_wp2_with (first | (go_at_call 103; refine K32.ca (fun xw hs => ?_); (try simp only [emV_sets] at hs); have hs := hs.pick3 (r1 := .blk b (emQ t.m pv pm po (.pointer (some ⟨sb, 0, none⟩)) av) 108) (r2 := .blk cb (gcells t.cg gb gc) 121) (r3 := .row (.slice (some ⟨gb, 0, none⟩) t.cg.c.length gc) 58 6 t.cg.c.length (t.cg.c.flatMap ceV)) K32.rm K32.rm K32.rm; refine (restore_any b cb gb gc pv pm po (.pointer (some ⟨sb, 0, none⟩)) av t _ _ hs HCUR.out OK.out.cg OK.out.kept).mono ?_; clear hs; rintro e w1 ⟨⟨rfl, hs⟩⟩; (try clear hcE0 hcE1 hcE2 hcE3 hcE4 hcE5 hcE6 hcE29 hcE31 hcE32 hzE hlE); obtain ⟨hcE0, hcE1, hcE2, hcE3, hcE4, hcE5, hcE6, hcE29, hcE31, hcE32, hzE, hlE⟩ := T1.f0_1_2_3_4_5_6_29_31_32 hs K32.rm; have HS := Lib.hid hs; clear hs))
  (first | go_end0 | refine bodyPost_ret (results_none rfl _ _ _) rfl ?_)
  refine ⟨⟨av, rfl, ?_⟩⟩
  ((with_reducible apply K30.sep_end); exact K32.fnd; intro hs; (try simp only [emV_sets] at hs); exact hs.end6 K32.rm K32.rm K32.rm K32.rm K32.rm K32.rm K32.sub)
set_option maxHeartbeats 4000000 in
theorem state_0 (b cb gb gc : Nat) (pv : Value) (pm po : Option Addr) (av : Value) (sb : Nat) (t : Te) (k : Int) (R : List UInt8) (l : List Int) (nv : Value) (F : List Res) (w : World) (hs : Sep w (.blk b (emQ t.m pv pm po (.pointer (some ⟨sb, 0, none⟩)) av) 108 :: gL cb gb gc t.cg (.blk sb (scells t.s) 126 :: .row av 5 1 (R).length ((R).map K14.u8) :: .row nv 3 1 l.length (ints l) :: F))) (hcur : (if t.m.alt = true then po else pm) = some ⟨cb, 0, none⟩) (ok : TeOk t) (hl : NumOk l) (hk : k ≠ 103 ∧ k ≠ 114 ∧ k ≠ 109 ∧ k ≠ 104 ∧ k ≠ 108 ∧ k ≠ 110 ∧ k ≠ 99 ∧ k ≠ 115 ∧ k ≠ 117) : Calls Tryz.prog 87 #[.pointer (some ⟨b, 0, none⟩), .int .i64 k, nv] w (StP b cb gb gc pv pm po sb (stateE t k l) (R ++ stateR t k l) l nv F) := by
  obtain ⟨k103, k114, k109, k104, k108, k110, k99, k115, k117⟩ := hk
  have HCUR := Lib.hid hcur
  have OK := Lib.hid ok
  have L8 := Lib.hid hl
  have STOK := Lib.hid (show StOk t.s from ⟨ok.st⟩)
  obtain ⟨r3, r4⟩ := atN_rng hl 0
  obtain ⟨hcE, hzE, hlE⟩ := hs.here (b := b) K32.rm
  have hcE0 := (hcE 0).trans (emV_0 ..); have hcE1 := (hcE 1).trans (emV_1 ..); have hcE31 := (hcE 31).trans (emV_31 ..); have hcE29 := (hcE 29).trans (emV_29 ..); have hcE32 := (hcE 32).trans (emV_32 ..); have hcE2 := (hcE 2).trans (emV_2 ..); have hcE3 := (hcE 3).trans (emV_3 ..); have hcE4 := (hcE 4).trans (emV_4 ..); have hcE5 := (hcE 5).trans (emV_5 ..); have hcE6 := (hcE 6).trans (emV_6 ..)
  have HS := Lib.hid hs
  clear hs ok hcur hl hcE
  have e1 : stateE t k l = t := by unfold stateE; rw [if_neg k103, if_neg k114, if_neg k109, if_neg (by omega), if_neg k115, if_neg k117]
  have e2 : R ++ stateR t k l = R := by unfold stateR; rw [if_neg k110, if_neg (fun h => k99 h.1), List.append_nil]
  rw [e1, e2]
  clear e1 e2
  go_enter Tryz.func87, Tryz.ntmps87
  go_wp2_with fail
  (first | go_end0 | refine bodyPost_ret (results_none rfl _ _ _) rfl ?_)
  refine ⟨⟨av, rfl, ?_⟩⟩
  ((with_reducible apply K30.sep_end); exact K32.fnd; intro hs; (try simp only [emV_sets] at hs); exact hs.end6 K32.rm K32.rm K32.rm K32.rm K32.rm K32.rm K32.sub)
structure HlI (b cb gb gc : Nat) (pv : Value) (pm po : Option Addr) (av : Value) (sb : Nat) (t : Te) (kb : Bool) (R : List UInt8) (l : List Int) (nv : Value) (F : List Res) (i : Value) (wr : World) : Prop where
  out : ∃ (j : Nat) (q : Bool), j ≤ l.length ∧ i = .int .i64 j ∧ q = (if 4 ∈ l.take j then kb else t.m.ins) ∧ Sep wr (.blk b (emV (.int .i64 t.m.cu.x) (.int .i64 t.m.cu.y) (.int .i64 t.m.cu.pen.fg) (.int .i64 t.m.cu.pen.bg) (.bool t.m.cu.pen.bold) (.bool t.m.cu.pen.under) (.bool t.m.cu.pen.inv) (.bool t.m.cu.origin) (.int .u8 t.m.cu.s0) (.int .u8 t.m.cu.s1) (.int .i64 t.m.cu.use) (.int .i64 t.m.kept.x) (.int .i64 t.m.kept.y) (.int .i64 t.m.kept.pen.fg) (.int .i64 t.m.kept.pen.bg) (.bool t.m.kept.pen.bold) (.bool t.m.kept.pen.under) (.bool t.m.kept.pen.inv) (.bool t.m.kept.origin) (.int .u8 t.m.kept.s0) (.int .u8 t.m.kept.s1) (.int .i64 t.m.kept.use) pv (.pointer pm) (.pointer po) (.bool t.m.alt) (.int .i64 t.m.top) (.int .i64 t.m.bottom) (.bool t.m.wrap) (.bool q) (.bool t.m.hidden) (.bool t.m.late) (.pointer (some ⟨sb, 0, none⟩)) av) 108 :: gL cb gb gc t.cg (.blk sb (scells t.s) 126 :: .row av 5 1 (R).length ((R).map K14.u8) :: .row nv 3 1 l.length (ints l) :: F))
set_option maxHeartbeats 4000000 in
theorem state_104 (b cb gb gc : Nat) (pv : Value) (pm po : Option Addr) (av : Value) (sb : Nat) (t : Te) (R : List UInt8) (l : List Int) (nv : Value) (F : List Res) (w : World) (hs : Sep w (.blk b (emQ t.m pv pm po (.pointer (some ⟨sb, 0, none⟩)) av) 108 :: gL cb gb gc t.cg (.blk sb (scells t.s) 126 :: .row av 5 1 (R).length ((R).map K14.u8) :: .row nv 3 1 l.length (ints l) :: F))) (hcur : (if t.m.alt = true then po else pm) = some ⟨cb, 0, none⟩) (ok : TeOk t) (hl : NumOk l) (hR : R.length ≤ 1000000) : Calls Tryz.prog 87 #[.pointer (some ⟨b, 0, none⟩), .int .i64 104, nv] w (StP b cb gb gc pv pm po sb (stateE t 104 l) (R ++ stateR t 104 l) l nv F) := by
  obtain ⟨na, nc, rfl⟩ := E3.own_form (hs.hereRow (v := nv) K32.rm)
  obtain ⟨nv, hnv⟩ : ∃ v, v = Value.slice na l.length nc := ⟨_, rfl⟩
  have L8 := Lib.hid hl
  have hl8 := hl.1
  have HS := Lib.hid hs
  have e1 : stateE t 104 l = (if 4 ∈ l then { t with m := { t.m with ins := true } } else t) := by unfold stateE; rfl
  have e2 : R ++ stateR t 104 l = R := by unfold stateR; exact List.append_nil R
  rw [e2]
  have HE := Lib.hid e1
  clear hs ok hcur hl e1 e2 hnv
  go_enter Tryz.func87, Tryz.ntmps87
  go_wp2_with fail
  go_loopw [57] (fun i wr => HlI b cb gb gc pv pm po av sb t true R l (.slice na l.length nc) F i wr) (fun i _ => l.length - (intOf i).toNat)
  case atStart => exact ⟨⟨0, t.m.ins, Nat.zero_le _, rfl, by simp, HS.out⟩⟩
  case round =>
    clear HS
    obtain ⟨⟨j, q, hj, rfl, hq, hs⟩⟩ := hrel
    by_cases hlt : j < l.length
    · obtain ⟨g, rc', hg⟩ := E5.own_some (hs.hereRow (v := .slice na l.length nc) K32.rm) (by omega)
      obtain ⟨rfl, hrc⟩ : na = some ⟨g, 0, none⟩ ∧ nc = rc' := by cases hg; exact ⟨rfl, rfl⟩
      clear hg
      subst hrc
      obtain ⟨x, hx⟩ : ∃ x, l[j]? = some x := ⟨_, List.getElem?_eq_getElem hlt⟩
      obtain ⟨-, hqr, hgr, -, -⟩ := K30.row_cells (hs.hereRow (v := .slice (some ⟨g, 0, none⟩) l.length nc) K32.rm)
      have hxj := K25.own_at (hs.hereRow (v := .slice (some ⟨g, 0, none⟩) l.length nc) K32.rm) (j := j) (u := .int .i64 x) (by unfold ints; rw [List.getElem?_map, hx]; rfl)
      have hqj := hqr j
      obtain ⟨hcE, hzE, hlE⟩ := hs.here (b := b) K32.rm
      have hcE29 := (hcE 29).trans (emV_29 ..)
      have HT : Hid (l.take (j + 1) = l.take j ++ [x]) := Lib.hid (by rw [List.take_add_one, hx]; rfl)
      have HQ := Lib.hid hq
      have HS := Lib.hid hs
      clear hs hq hqr hx hcE
      by_cases h4 : x = 4
      · subst h4
        go_wp2_with fail
        go_roundw
        case rel =>
          refine ⟨⟨j + 1, true, by omega, by go_num, ?_, ?_⟩⟩
          · rw [if_pos (by rw [HT.out]; simp)]
          · (with_reducible apply K30.sep_end)
            exact K32.fnd
            intro hs
            (try simp only [emV_sets] at hs)
            exact hs
        case measure => simp [intOf]; omega
      · go_wp2_with fail
        go_roundw
        case rel =>
          refine ⟨⟨j + 1, q, by omega, by go_num, ?_, HS.out⟩⟩
          have e : (4 ∈ l.take (j + 1)) ↔ (4 ∈ l.take j) := by rw [HT.out]; simp; intro h; exact absurd h.symm h4
          rw [HQ.out]
          simp only [e]
        case measure => simp [intOf]; omega
    · obtain rfl : j = l.length := by omega
      rw [List.take_length] at hq
      have HQ := Lib.hid hq
      have HS := Lib.hid hs
      clear hs hq
      go_wp2_with fail
      (first | go_end0 | refine bodyPost_ret (results_none rfl _ _ _) rfl ?_)
      refine ⟨⟨av, rfl, ?_⟩⟩
      have h := HS.out
      rw [HQ.out] at h
      rw [HE.out]
      by_cases h4 : 4 ∈ l
      · rw [if_pos h4] at h ⊢
        exact h
      · rw [if_neg h4] at h ⊢
        exact h
set_option maxHeartbeats 4000000 in
theorem state_108 (b cb gb gc : Nat) (pv : Value) (pm po : Option Addr) (av : Value) (sb : Nat) (t : Te) (R : List UInt8) (l : List Int) (nv : Value) (F : List Res) (w : World) (hs : Sep w (.blk b (emQ t.m pv pm po (.pointer (some ⟨sb, 0, none⟩)) av) 108 :: gL cb gb gc t.cg (.blk sb (scells t.s) 126 :: .row av 5 1 (R).length ((R).map K14.u8) :: .row nv 3 1 l.length (ints l) :: F))) (hcur : (if t.m.alt = true then po else pm) = some ⟨cb, 0, none⟩) (ok : TeOk t) (hl : NumOk l) (hR : R.length ≤ 1000000) : Calls Tryz.prog 87 #[.pointer (some ⟨b, 0, none⟩), .int .i64 108, nv] w (StP b cb gb gc pv pm po sb (stateE t 108 l) (R ++ stateR t 108 l) l nv F) := by
  obtain ⟨na, nc, rfl⟩ := E3.own_form (hs.hereRow (v := nv) K32.rm)
  obtain ⟨nv, hnv⟩ : ∃ v, v = Value.slice na l.length nc := ⟨_, rfl⟩
  have L8 := Lib.hid hl
  have hl8 := hl.1
  have HS := Lib.hid hs
  have e1 : stateE t 108 l = (if 4 ∈ l then { t with m := { t.m with ins := false } } else t) := by unfold stateE; rfl
  have e2 : R ++ stateR t 108 l = R := by unfold stateR; exact List.append_nil R
  rw [e2]
  have HE := Lib.hid e1
  clear hs ok hcur hl e1 e2 hnv
  go_enter Tryz.func87, Tryz.ntmps87
  go_wp2_with fail
  go_loopw [57] (fun i wr => HlI b cb gb gc pv pm po av sb t false R l (.slice na l.length nc) F i wr) (fun i _ => l.length - (intOf i).toNat)
  case atStart => exact ⟨⟨0, t.m.ins, Nat.zero_le _, rfl, by simp, HS.out⟩⟩
  case round =>
    clear HS
    obtain ⟨⟨j, q, hj, rfl, hq, hs⟩⟩ := hrel
    by_cases hlt : j < l.length
    · obtain ⟨g, rc', hg⟩ := E5.own_some (hs.hereRow (v := .slice na l.length nc) K32.rm) (by omega)
      obtain ⟨rfl, hrc⟩ : na = some ⟨g, 0, none⟩ ∧ nc = rc' := by cases hg; exact ⟨rfl, rfl⟩
      clear hg
      subst hrc
      obtain ⟨x, hx⟩ : ∃ x, l[j]? = some x := ⟨_, List.getElem?_eq_getElem hlt⟩
      obtain ⟨-, hqr, hgr, -, -⟩ := K30.row_cells (hs.hereRow (v := .slice (some ⟨g, 0, none⟩) l.length nc) K32.rm)
      have hxj := K25.own_at (hs.hereRow (v := .slice (some ⟨g, 0, none⟩) l.length nc) K32.rm) (j := j) (u := .int .i64 x) (by unfold ints; rw [List.getElem?_map, hx]; rfl)
      have hqj := hqr j
      obtain ⟨hcE, hzE, hlE⟩ := hs.here (b := b) K32.rm
      have hcE29 := (hcE 29).trans (emV_29 ..)
      have HT : Hid (l.take (j + 1) = l.take j ++ [x]) := Lib.hid (by rw [List.take_add_one, hx]; rfl)
      have HQ := Lib.hid hq
      have HS := Lib.hid hs
      clear hs hq hqr hx hcE
      by_cases h4 : x = 4
      · subst h4
        go_wp2_with fail
        go_roundw
        case rel =>
          refine ⟨⟨j + 1, false, by omega, by go_num, ?_, ?_⟩⟩
          · rw [if_pos (by rw [HT.out]; simp)]
          · (with_reducible apply K30.sep_end)
            exact K32.fnd
            intro hs
            (try simp only [emV_sets] at hs)
            exact hs
        case measure => simp [intOf]; omega
      · go_wp2_with fail
        go_roundw
        case rel =>
          refine ⟨⟨j + 1, q, by omega, by go_num, ?_, HS.out⟩⟩
          have e : (4 ∈ l.take (j + 1)) ↔ (4 ∈ l.take j) := by rw [HT.out]; simp; intro h; exact absurd h.symm h4
          rw [HQ.out]
          simp only [e]
        case measure => simp [intOf]; omega
    · obtain rfl : j = l.length := by omega
      rw [List.take_length] at hq
      have HQ := Lib.hid hq
      have HS := Lib.hid hs
      clear hs hq
      go_wp2_with fail
      (first | go_end0 | refine bodyPost_ret (results_none rfl _ _ _) rfl ?_)
      refine ⟨⟨av, rfl, ?_⟩⟩
      have h := HS.out
      rw [HQ.out] at h
      rw [HE.out]
      by_cases h4 : 4 ∈ l
      · rw [if_pos h4] at h ⊢
        exact h
      · rw [if_neg h4] at h ⊢
        exact h
theorem state_any (b cb gb gc : Nat) (pv : Value) (pm po : Option Addr) (av : Value) (sb : Nat) (t : Te) (k : Int) (R : List UInt8) (l : List Int) (nv : Value) (F : List Res) (w : World) (hs : Sep w (.blk b (emQ t.m pv pm po (.pointer (some ⟨sb, 0, none⟩)) av) 108 :: gL cb gb gc t.cg (.blk sb (scells t.s) 126 :: .row av 5 1 (R).length ((R).map K14.u8) :: .row nv 3 1 l.length (ints l) :: F))) (hcur : (if t.m.alt = true then po else pm) = some ⟨cb, 0, none⟩) (ok : TeOk t) (hl : NumOk l) (hR : R.length ≤ 1000000) : Calls Tryz.prog 87 #[.pointer (some ⟨b, 0, none⟩), .int .i64 k, nv] w (StP b cb gb gc pv pm po sb (stateE t k l) (R ++ stateR t k l) l nv F) := by
  by_cases hb : k = 103 ∨ k = 114 ∨ k = 109 ∨ k = 104 ∨ k = 108 ∨ k = 110 ∨ k = 99 ∨ k = 115 ∨ k = 117
  · rcases hb with rfl | rfl | rfl | rfl | rfl | rfl | rfl | rfl | rfl
    · exact state_g b cb gb gc pv pm po av sb t R l nv F w hs hcur ok hl hR
    · exact state_r b cb gb gc pv pm po av sb t R l nv F w hs hcur ok hl hR
    · exact state_m b cb gb gc pv pm po av sb t R l nv F w hs hcur ok hl hR
    · exact state_104 b cb gb gc pv pm po av sb t R l nv F w hs hcur ok hl hR
    · exact state_108 b cb gb gc pv pm po av sb t R l nv F w hs hcur ok hl hR
    · exact state_n b cb gb gc pv pm po av sb t R l nv F w hs hcur ok hl hR
    · exact state_c b cb gb gc pv pm po av sb t R l nv F w hs hcur ok hl hR
    · exact state_s b cb gb gc pv pm po av sb t R l nv F w hs hcur ok hl hR
    · exact state_u b cb gb gc pv pm po av sb t R l nv F w hs hcur ok hl hR
  · exact state_0 b cb gb gc pv pm po av sb t k R l nv F w hs hcur ok hl (by omega)
end Go.Proofs.YtnjgnbdebkckfaaGreatDoor.T11
