/- T6 -/
import Derived.Test.YtnjgnbdebkckfaaGreatDoorA2
import Derived.Test.YtnjgnbdebkckfaaGreatDoorA18
import Derived.Lib.Hide
set_option linter.unusedVariables false
set_option linter.unusedSimpArgs false
set_option linter.unnecessarySimpa false
namespace Go.Proofs.YtnjgnbdebkckfaaGreatDoor.T6
set_option maxRecDepth 100000
open Go.RowKit K1 K3 K5 K11 K12 K14 K20 K21 K22 K25 K30 K31 M0 C1 G1 G2 G3 G4 G5 G6 G7 G8 ME MF S3 T1 T2 T3 T4 T5
attribute [local go_sem] cell_pastA froz_pastA
theorem atN_lt {l : List Int} {k : Nat} {x : Int} (h : l[k]? = some x) : atN l k = x := by unfold atN; rw [List.getD_eq_getElem?_getD, h]; rfl
theorem atN_ge {l : List Int} {k : Nat} (h : l.length ≤ k) : atN l k = -1 := by unfold atN; rw [List.getD_eq_getElem?_getD, List.getElem?_eq_none h]; rfl
theorem at_any (v : Value) (l : List Int) (k : Nat) (w : World) (h : Rd 1 intE w v l) (hk : k ≤ 1) (hl : l.length ≤ 100) : Calls Tryz.prog 112 #[v, .int .i64 k] w fun e w' => e = .returned (.int .i64 (atN l k)) ∧ Below w.heap.size w w' := by
  by_cases hlt : k < l.length
  · obtain ⟨x, hx⟩ : ∃ x, l[k]? = some x := ⟨_, List.getElem?_eq_getElem hlt⟩
    obtain ⟨sb, so, cp, rfl, hsb, hcx⟩ := h.cell1 hx (u := .int .i64 x) rfl
    rw [atN_lt hx]
    clear h hx
    go_enter Tryz.func112, Tryz.ntmps112
    go_wp2_with fail
    go_ret
    exact ⟨rfl, Below.refl _ _⟩
  · obtain ⟨a, c, rfl, hc⟩ := K25.Rd.len h
    rw [atN_ge (by omega)]
    clear h
    go_enter Tryz.func112, Tryz.ntmps112
    go_wp2_with fail
    go_ret
    exact ⟨rfl, Below.refl _ _⟩
theorem count_any (v : Value) (l : List Int) (k : Nat) (w : World) (h : Rd 1 intE w v l) (hk : k ≤ 1) (hl : l.length ≤ 100) : Calls Tryz.prog 85 #[v, .int .i64 k] w fun e w' => e = .returned (.int .i64 (countN l k)) ∧ Below w.heap.size w w' := by
  have H := Lib.hid h
  clear h
  go_enter Tryz.func85, Tryz.ntmps85
  go_wp2_with (first | (go_at_call 112; refine (at_any v l k _ H.out hk hl).mono ?_; rintro e w1 ⟨rfl, hb⟩))
  go_ret
  exact ⟨rfl, hb⟩
set_option maxHeartbeats 4000000 in
theorem up_any (b cb gb gc : Nat) (pv : Value) (pm po : Option Addr) (sv av : Value) (t : Te) (n : Int) (F : List Res) (w : World) (hs : Sep w (.blk b (emQ t.m pv pm po sv av) 108 :: gL cb gb gc t.cg F)) (hcur : (if t.m.alt = true then po else pm) = some ⟨cb, 0, none⟩) (ok : TeOk t) (n1 : 1 ≤ n) (n9 : n ≤ 9999) : Calls Tryz.prog 108 #[.pointer (some ⟨b, 0, none⟩), .int .i64 n] w (EmP b cb gb gc pv pm po sv av (upE t n).m (upE t n).cg F) := by
  have y0 := ok.cu.y0; have y1 := ok.cu.y1; have bt := ok.tb; have bt0 := ok.top; have bh := ok.bc; have h20 := ok.cg.h20; have yh := ok.yc; have h1 := ok.cg.h1; have x0 := ok.cu.x0; have x1 := ok.cu.x1; have w2 := ok.cg.w2; have w40 := ok.cg.w40
  have HCUR := Lib.hid hcur
  have HS := Lib.hid hs
  obtain ⟨hcE, hzE, hlE⟩ := hs.here (b := b) K32.rm
  have hcE1 := (hcE 1).trans (emV_1 ..); have hcE26 := (hcE 26).trans (emV_26 ..); have hcE27 := (hcE 27).trans (emV_27 ..)
  clear hs ok hcur hcE
  by_cases h : t.m.top ≤ t.m.cu.y
  · have e : upE t n = t.setY (max (t.m.cu.y - n) t.m.top) := by unfold upE; rw [if_pos h]
    rw [e]
    clear e
    go_enter Tryz.func108, Tryz.ntmps108
    go_wp2_with (first | (refine K32.atW 0 (fun xw hs => ?_); (try simp only [emV_sets] at hs); (try clear hcE1 hcE26 hcE27 hzE hlE); obtain ⟨hcE1, hcE26, hcE27, hzE, hlE⟩ := T1.f1_26_27 hs K32.rm; have HS := Lib.hid hs; clear hs; refine K32.reg0 (w := xw) [] [] 10 ?_; simp only [numbered, List.take_succ_cons, List.take_zero, List.drop_succ_cons, List.drop_zero, List.take_nil, List.drop_nil, Nat.reduceAdd]; (iterate 10 (refine K32.zd ?_; (try go_simp))); refine wz_nil ?_; intro wq hbq hLq; clear hLq ; have hcwq := cellA hbq; have hfwq := frozA hbq; have hzwq := hbq.size; (try simp at hzwq); have hs := HS.out.below hbq; (try clear hcE1 hcE26 hcE27 hzE hlE); obtain ⟨hcE1, hcE26, hcE27, hzE, hlE⟩ := T1.f1_26_27 hs K32.rm; have HS := Lib.hid hs; clear hs hcwq hfwq hzwq hbq) | (refine K32.atW 1 (fun xw hs => ?_); (try simp only [emV_sets] at hs); (try clear hcE1 hcE26 hcE27 hzE hlE); obtain ⟨hcE1, hcE26, hcE27, hzE, hlE⟩ := T1.f1_26_27 hs K32.rm; have HS := Lib.hid hs; clear hs; refine K32.reg0 (w := xw) [] [] 16 ?_; simp only [numbered, List.take_succ_cons, List.take_zero, List.drop_succ_cons, List.drop_zero, List.take_nil, List.drop_nil, Nat.reduceAdd]; (iterate 16 (refine K32.zd ?_; (try go_simp))); refine wz_nil ?_; intro wq hbq hLq; clear hLq ; have hcwq := cellA hbq; have hfwq := frozA hbq; have hzwq := hbq.size; (try simp at hzwq); have hs := HS.out.below hbq; (try clear hcE1 hcE26 hcE27 hzE hlE); obtain ⟨hcE1, hcE26, hcE27, hzE, hlE⟩ := T1.f1_26_27 hs K32.rm; have HS := Lib.hid hs; clear hs hcwq hfwq hzwq hbq))
    (first | go_end0 | refine bodyPost_ret (results_none rfl _ _ _) rfl ?_)
    refine ⟨⟨rfl, ?_⟩⟩
    exact K32.e3
  · have e : upE t n = t.setY (max (t.m.cu.y - n) 0) := by unfold upE; rw [if_neg h]
    rw [e]
    clear e
    go_enter Tryz.func108, Tryz.ntmps108
    go_wp2_with (first | (refine K32.atW 0 (fun xw hs => ?_); (try simp only [emV_sets] at hs); (try clear hcE1 hcE26 hcE27 hzE hlE); obtain ⟨hcE1, hcE26, hcE27, hzE, hlE⟩ := T1.f1_26_27 hs K32.rm; have HS := Lib.hid hs; clear hs; refine K32.reg0 (w := xw) [] [] 10 ?_; simp only [numbered, List.take_succ_cons, List.take_zero, List.drop_succ_cons, List.drop_zero, List.take_nil, List.drop_nil, Nat.reduceAdd]; (iterate 10 (refine K32.zd ?_; (try go_simp))); refine wz_nil ?_; intro wq hbq hLq; clear hLq ; have hcwq := cellA hbq; have hfwq := frozA hbq; have hzwq := hbq.size; (try simp at hzwq); have hs := HS.out.below hbq; (try clear hcE1 hcE26 hcE27 hzE hlE); obtain ⟨hcE1, hcE26, hcE27, hzE, hlE⟩ := T1.f1_26_27 hs K32.rm; have HS := Lib.hid hs; clear hs hcwq hfwq hzwq hbq) | (refine K32.atW 1 (fun xw hs => ?_); (try simp only [emV_sets] at hs); (try clear hcE1 hcE26 hcE27 hzE hlE); obtain ⟨hcE1, hcE26, hcE27, hzE, hlE⟩ := T1.f1_26_27 hs K32.rm; have HS := Lib.hid hs; clear hs; refine K32.reg0 (w := xw) [] [] 16 ?_; simp only [numbered, List.take_succ_cons, List.take_zero, List.drop_succ_cons, List.drop_zero, List.take_nil, List.drop_nil, Nat.reduceAdd]; (iterate 16 (refine K32.zd ?_; (try go_simp))); refine wz_nil ?_; intro wq hbq hLq; clear hLq ; have hcwq := cellA hbq; have hfwq := frozA hbq; have hzwq := hbq.size; (try simp at hzwq); have hs := HS.out.below hbq; (try clear hcE1 hcE26 hcE27 hzE hlE); obtain ⟨hcE1, hcE26, hcE27, hzE, hlE⟩ := T1.f1_26_27 hs K32.rm; have HS := Lib.hid hs; clear hs hcwq hfwq hzwq hbq))
    (first | go_end0 | refine bodyPost_ret (results_none rfl _ _ _) rfl ?_)
    refine ⟨⟨rfl, ?_⟩⟩
    exact K32.e3
set_option maxHeartbeats 4000000 in
theorem down_any (b cb gb gc : Nat) (pv : Value) (pm po : Option Addr) (sv av : Value) (t : Te) (n : Int) (F : List Res) (w : World) (hs : Sep w (.blk b (emQ t.m pv pm po sv av) 108 :: gL cb gb gc t.cg F)) (hcur : (if t.m.alt = true then po else pm) = some ⟨cb, 0, none⟩) (ok : TeOk t) (n1 : 1 ≤ n) (n9 : n ≤ 9999) : Calls Tryz.prog 109 #[.pointer (some ⟨b, 0, none⟩), .int .i64 n] w (EmP b cb gb gc pv pm po sv av (downE t n).m (downE t n).cg F) := by
  have y0 := ok.cu.y0; have y1 := ok.cu.y1; have bt := ok.tb; have bt0 := ok.top; have bh := ok.bc; have h20 := ok.cg.h20; have yh := ok.yc; have h1 := ok.cg.h1; have x0 := ok.cu.x0; have x1 := ok.cu.x1; have w2 := ok.cg.w2; have w40 := ok.cg.w40
  have HCUR := Lib.hid hcur
  have HS := Lib.hid hs
  obtain ⟨hcE, hzE, hlE⟩ := hs.here (b := b) K32.rm
  have hcE1 := (hcE 1).trans (emV_1 ..); have hcE26 := (hcE 26).trans (emV_26 ..); have hcE27 := (hcE 27).trans (emV_27 ..)
  clear hs ok hcur hcE
  by_cases h : t.m.cu.y < t.m.bottom
  · have e : downE t n = t.setY (min t.m.cu.y (t.m.bottom - 1) + min n (t.m.bottom - 1 - min t.m.cu.y (t.m.bottom - 1))) := by unfold downE lastRow; rw [if_pos h]
    rw [e]
    clear e
    go_enter Tryz.func109, Tryz.ntmps109
    go_wp2_with (first | (go_at_call 51; refine K32.ca (fun xw hs => ?_); (try simp only [emV_sets] at hs); have hC := (grid_c b _ t.m.alt pm po (some ⟨cb, 0, none⟩) xw (EmAt.of hs K32.rm) (by rfl) (by rfl) (by rfl) HCUR.out); (with_reducible refine hC.mono ?_); clear hC; rintro e w1 ⟨rfl, hb⟩; have hs := hs.below hb; clear hb; (try clear hcE1 hcE26 hcE27 hzE hlE); obtain ⟨hcE1, hcE26, hcE27, hzE, hlE⟩ := T1.f1_26_27 hs K32.rm; have HS := Lib.hid hs; clear hs) | (go_at_call 45; refine K32.ca (fun xw hs => ?_); (try simp only [emV_sets] at hs); have hC := (G1.H_any cb gb gc t.cg xw (GrAt.of hs K32.rm)); (with_reducible refine hC.mono ?_); clear hC; rintro e w1 ⟨rfl, hb⟩; have hs := hs.below hb; clear hb; (try clear hcE1 hcE26 hcE27 hzE hlE); obtain ⟨hcE1, hcE26, hcE27, hzE, hlE⟩ := T1.f1_26_27 hs K32.rm; have HS := Lib.hid hs; clear hs) | (refine K32.atW 1 (fun xw hs => ?_); (try simp only [emV_sets] at hs); (try clear hcE1 hcE26 hcE27 hzE hlE); obtain ⟨hcE1, hcE26, hcE27, hzE, hlE⟩ := T1.f1_26_27 hs K32.rm; have HS := Lib.hid hs; clear hs; refine K32.reg0 (w := xw) [] [] 10 ?_; simp only [numbered, List.take_succ_cons, List.take_zero, List.drop_succ_cons, List.drop_zero, List.take_nil, List.drop_nil, Nat.reduceAdd]; (iterate 10 (refine K32.zd ?_; (try go_simp))); refine wz_nil ?_; intro wq hbq hLq; clear hLq ; have hcwq := cellA hbq; have hfwq := frozA hbq; have hzwq := hbq.size; (try simp at hzwq); have hs := HS.out.below hbq; (try clear hcE1 hcE26 hcE27 hzE hlE); obtain ⟨hcE1, hcE26, hcE27, hzE, hlE⟩ := T1.f1_26_27 hs K32.rm; have HS := Lib.hid hs; clear hs hcwq hfwq hzwq hbq) | (refine K32.atW 3 (fun xw hs => ?_); (try simp only [emV_sets] at hs); (try clear hcE1 hcE26 hcE27 hzE hlE); obtain ⟨hcE1, hcE26, hcE27, hzE, hlE⟩ := T1.f1_26_27 hs K32.rm; have HS := Lib.hid hs; clear hs; refine K32.reg0 (w := xw) [] [] 23 ?_; simp only [numbered, List.take_succ_cons, List.take_zero, List.drop_succ_cons, List.drop_zero, List.take_nil, List.drop_nil, Nat.reduceAdd]; (iterate 23 (refine K32.zd ?_; (try go_simp))); refine wz_nil ?_; intro wq hbq hLq; clear hLq ; have hcwq := cellA hbq; have hfwq := frozA hbq; have hzwq := hbq.size; (try simp at hzwq); have hs := HS.out.below hbq; (try clear hcE1 hcE26 hcE27 hzE hlE); obtain ⟨hcE1, hcE26, hcE27, hzE, hlE⟩ := T1.f1_26_27 hs K32.rm; have HS := Lib.hid hs; clear hs hcwq hfwq hzwq hbq))
    (first | go_end0 | refine bodyPost_ret (results_none rfl _ _ _) rfl ?_)
    refine ⟨⟨rfl, ?_⟩⟩
    exact K32.e3
  · have e : downE t n = t.setY (min t.m.cu.y (t.cg.h - 1) + min n (t.cg.h - 1 - min t.m.cu.y (t.cg.h - 1))) := by unfold downE lastRow; rw [if_neg h]
    rw [e]
    clear e
    go_enter Tryz.func109, Tryz.ntmps109
    go_wp2_with (first | (go_at_call 51; refine K32.ca (fun xw hs => ?_); (try simp only [emV_sets] at hs); have hC := (grid_c b _ t.m.alt pm po (some ⟨cb, 0, none⟩) xw (EmAt.of hs K32.rm) (by rfl) (by rfl) (by rfl) HCUR.out); (with_reducible refine hC.mono ?_); clear hC; rintro e w1 ⟨rfl, hb⟩; have hs := hs.below hb; clear hb; (try clear hcE1 hcE26 hcE27 hzE hlE); obtain ⟨hcE1, hcE26, hcE27, hzE, hlE⟩ := T1.f1_26_27 hs K32.rm; have HS := Lib.hid hs; clear hs) | (go_at_call 45; refine K32.ca (fun xw hs => ?_); (try simp only [emV_sets] at hs); have hC := (G1.H_any cb gb gc t.cg xw (GrAt.of hs K32.rm)); (with_reducible refine hC.mono ?_); clear hC; rintro e w1 ⟨rfl, hb⟩; have hs := hs.below hb; clear hb; (try clear hcE1 hcE26 hcE27 hzE hlE); obtain ⟨hcE1, hcE26, hcE27, hzE, hlE⟩ := T1.f1_26_27 hs K32.rm; have HS := Lib.hid hs; clear hs) | (refine K32.atW 1 (fun xw hs => ?_); (try simp only [emV_sets] at hs); (try clear hcE1 hcE26 hcE27 hzE hlE); obtain ⟨hcE1, hcE26, hcE27, hzE, hlE⟩ := T1.f1_26_27 hs K32.rm; have HS := Lib.hid hs; clear hs; refine K32.reg0 (w := xw) [] [] 10 ?_; simp only [numbered, List.take_succ_cons, List.take_zero, List.drop_succ_cons, List.drop_zero, List.take_nil, List.drop_nil, Nat.reduceAdd]; (iterate 10 (refine K32.zd ?_; (try go_simp))); refine wz_nil ?_; intro wq hbq hLq; clear hLq ; have hcwq := cellA hbq; have hfwq := frozA hbq; have hzwq := hbq.size; (try simp at hzwq); have hs := HS.out.below hbq; (try clear hcE1 hcE26 hcE27 hzE hlE); obtain ⟨hcE1, hcE26, hcE27, hzE, hlE⟩ := T1.f1_26_27 hs K32.rm; have HS := Lib.hid hs; clear hs hcwq hfwq hzwq hbq) | (refine K32.atW 3 (fun xw hs => ?_); (try simp only [emV_sets] at hs); (try clear hcE1 hcE26 hcE27 hzE hlE); obtain ⟨hcE1, hcE26, hcE27, hzE, hlE⟩ := T1.f1_26_27 hs K32.rm; have HS := Lib.hid hs; clear hs; refine K32.reg0 (w := xw) [] [] 23 ?_; simp only [numbered, List.take_succ_cons, List.take_zero, List.drop_succ_cons, List.drop_zero, List.take_nil, List.drop_nil, Nat.reduceAdd]; (iterate 23 (refine K32.zd ?_; (try go_simp))); refine wz_nil ?_; intro wq hbq hLq; clear hLq ; have hcwq := cellA hbq; have hfwq := frozA hbq; have hzwq := hbq.size; (try simp at hzwq); have hs := HS.out.below hbq; (try clear hcE1 hcE26 hcE27 hzE hlE); obtain ⟨hcE1, hcE26, hcE27, hzE, hlE⟩ := T1.f1_26_27 hs K32.rm; have HS := Lib.hid hs; clear hs hcwq hfwq hzwq hbq))
    (first | go_end0 | refine bodyPost_ret (results_none rfl _ _ _) rfl ?_)
    refine ⟨⟨rfl, ?_⟩⟩
    exact K32.e3
set_option maxHeartbeats 4000000 in
theorem column_any (b cb gb gc : Nat) (pv : Value) (pm po : Option Addr) (sv av : Value) (t : Te) (k : Int) (F : List Res) (w : World) (hs : Sep w (.blk b (emQ t.m pv pm po sv av) 108 :: gL cb gb gc t.cg F)) (hcur : (if t.m.alt = true then po else pm) = some ⟨cb, 0, none⟩) (ok : TeOk t) (k0 : 0 ≤ k) (k9 : k ≤ 9999) : Calls Tryz.prog 110 #[.pointer (some ⟨b, 0, none⟩), .int .i64 k] w (EmP b cb gb gc pv pm po sv av (columnE t k).m (columnE t k).cg F) := by
  have y0 := ok.cu.y0; have y1 := ok.cu.y1; have bt := ok.tb; have bt0 := ok.top; have bh := ok.bc; have h20 := ok.cg.h20; have yh := ok.yc; have h1 := ok.cg.h1; have x0 := ok.cu.x0; have x1 := ok.cu.x1; have w2 := ok.cg.w2; have w40 := ok.cg.w40
  have HCUR := Lib.hid hcur
  have HS := Lib.hid hs
  obtain ⟨hcE, hzE, hlE⟩ := hs.here (b := b) K32.rm
  have hcE0 := (hcE 0).trans (emV_0 ..)
  clear hs ok hcur hcE
  go_enter Tryz.func110, Tryz.ntmps110
  go_wp2_with (first | (go_at_call 51; refine K32.ca (fun xw hs => ?_); (try simp only [emV_sets] at hs); have hC := (grid_c b _ t.m.alt pm po (some ⟨cb, 0, none⟩) xw (EmAt.of hs K32.rm) (by rfl) (by rfl) (by rfl) HCUR.out); (with_reducible refine hC.mono ?_); clear hC; rintro e w1 ⟨rfl, hb⟩; have hs := hs.below hb; clear hb; (try clear hcE0 hzE hlE); obtain ⟨hcE0, hzE, hlE⟩ := T1.f0 hs K32.rm; have HS := Lib.hid hs; clear hs) | (go_at_call 47; refine K32.ca (fun xw hs => ?_); (try simp only [emV_sets] at hs); have hC := (G1.W_any cb gb gc t.cg xw (GrAt.of hs K32.rm)); (with_reducible refine hC.mono ?_); clear hC; rintro e w1 ⟨rfl, hb⟩; have hs := hs.below hb; clear hb; (try clear hcE0 hzE hlE); obtain ⟨hcE0, hzE, hlE⟩ := T1.f0 hs K32.rm; have HS := Lib.hid hs; clear hs))
  (first | go_end0 | refine bodyPost_ret (results_none rfl _ _ _) rfl ?_)
  refine ⟨⟨rfl, ?_⟩⟩
  exact K32.e3
set_option maxHeartbeats 4000000 in
theorem row_any (b cb gb gc : Nat) (pv : Value) (pm po : Option Addr) (sv av : Value) (t : Te) (k : Int) (F : List Res) (w : World) (hs : Sep w (.blk b (emQ t.m pv pm po sv av) 108 :: gL cb gb gc t.cg F)) (hcur : (if t.m.alt = true then po else pm) = some ⟨cb, 0, none⟩) (ok : TeOk t) (k0 : 0 ≤ k) (k9 : k ≤ 9999) : Calls Tryz.prog 111 #[.pointer (some ⟨b, 0, none⟩), .int .i64 k] w (EmP b cb gb gc pv pm po sv av (rowE t k).m (rowE t k).cg F) := by
  have y0 := ok.cu.y0; have y1 := ok.cu.y1; have bt := ok.tb; have bt0 := ok.top; have bh := ok.bc; have h20 := ok.cg.h20; have yh := ok.yc; have h1 := ok.cg.h1; have x0 := ok.cu.x0; have x1 := ok.cu.x1; have w2 := ok.cg.w2; have w40 := ok.cg.w40
  have HCUR := Lib.hid hcur
  have HS := Lib.hid hs
  obtain ⟨hcE, hzE, hlE⟩ := hs.here (b := b) K32.rm
  have hcE1 := (hcE 1).trans (emV_1 ..); have hcE26 := (hcE 26).trans (emV_26 ..); have hcE27 := (hcE 27).trans (emV_27 ..); have hcE7 := (hcE 7).trans (emV_7 ..)
  clear hs ok hcur hcE
  by_cases h : t.m.cu.origin = true
  · have e : rowE t k = t.setY (min k (t.m.bottom - 1 - t.m.top) + t.m.top) := by unfold rowE; rw [if_pos h]
    rw [e]
    rw [h] at hcE7
    clear e
    have HO := Lib.hid h
    clear h
    go_enter Tryz.func111, Tryz.ntmps111
    go_wp2_with (first | (refine K32.atW 1 (fun xw hs => ?_); (try simp only [emV_sets] at hs); (try clear hcE hzE hlE); obtain ⟨hcE, hzE, hlE⟩ := hs.here (b := b) K32.rm; (try clear hcE1 hcE26 hcE27 hcE7); have hcE1 := (hcE 1).trans (emV_1 ..); have hcE26 := (hcE 26).trans (emV_26 ..); have hcE27 := (hcE 27).trans (emV_27 ..); have hcE7 := (hcE 7).trans (emV_7 ..); rw [HO.out] at hcE7; clear hcE; have HS := Lib.hid hs; clear hs; refine K32.reg0 (w := xw) [] [] 21 ?_; simp only [numbered, List.take_succ_cons, List.take_zero, List.drop_succ_cons, List.drop_zero, List.take_nil, List.drop_nil, Nat.reduceAdd]; (iterate 21 (refine K32.zd ?_; (try go_simp))); refine wz_nil ?_; intro wq hbq hLq; clear hLq ; have hcwq := cellA hbq; have hfwq := frozA hbq; have hzwq := hbq.size; (try simp at hzwq); have hs := HS.out.below hbq; (try clear hcE hzE hlE); obtain ⟨hcE, hzE, hlE⟩ := hs.here (b := b) K32.rm; (try clear hcE1 hcE26 hcE27 hcE7); have hcE1 := (hcE 1).trans (emV_1 ..); have hcE26 := (hcE 26).trans (emV_26 ..); have hcE27 := (hcE 27).trans (emV_27 ..); have hcE7 := (hcE 7).trans (emV_7 ..); rw [HO.out] at hcE7; clear hcE; have HS := Lib.hid hs; clear hs hcwq hfwq hzwq hbq) | (go_at_call 51; refine K32.ca (fun xw hs => ?_); (try simp only [emV_sets] at hs); have hC := (grid_c b _ t.m.alt pm po (some ⟨cb, 0, none⟩) xw (EmAt.of hs K32.rm) (by rfl) (by rfl) (by rfl) HCUR.out); (with_reducible refine hC.mono ?_); clear hC; rintro e w1 ⟨rfl, hb⟩; have hs := hs.below hb; clear hb; (try clear hcE1 hcE7 hcE26 hcE27 hzE hlE); obtain ⟨hcE1, hcE7, hcE26, hcE27, hzE, hlE⟩ := T1.f1_7_26_27 hs K32.rm; have HS := Lib.hid hs; clear hs) | (go_at_call 45; refine K32.ca (fun xw hs => ?_); (try simp only [emV_sets] at hs); have hC := (G1.H_any cb gb gc t.cg xw (GrAt.of hs K32.rm)); (with_reducible refine hC.mono ?_); clear hC; rintro e w1 ⟨rfl, hb⟩; have hs := hs.below hb; clear hb; (try clear hcE1 hcE7 hcE26 hcE27 hzE hlE); obtain ⟨hcE1, hcE7, hcE26, hcE27, hzE, hlE⟩ := T1.f1_7_26_27 hs K32.rm; have HS := Lib.hid hs; clear hs))
    (first | go_end0 | refine bodyPost_ret (results_none rfl _ _ _) rfl ?_)
    refine ⟨⟨rfl, ?_⟩⟩
    exact K32.e3
  · have h : t.m.cu.origin = false := Bool.eq_false_iff.2 h
    have e : rowE t k = t.setY (min k (t.cg.h - 1)) := by unfold rowE; rw [h]; rfl
    rw [e]
    rw [h] at hcE7
    clear e
    have HO := Lib.hid h
    clear h
    go_enter Tryz.func111, Tryz.ntmps111
    go_wp2_with (first | (refine K32.atW 1 (fun xw hs => ?_); (try simp only [emV_sets] at hs); (try clear hcE1 hcE7 hcE26 hcE27 hzE hlE); obtain ⟨hcE1, hcE7, hcE26, hcE27, hzE, hlE⟩ := T1.f1_7_26_27 hs K32.rm; have HS := Lib.hid hs; clear hs; refine K32.reg0 (w := xw) [] [] 21 ?_; simp only [numbered, List.take_succ_cons, List.take_zero, List.drop_succ_cons, List.drop_zero, List.take_nil, List.drop_nil, Nat.reduceAdd]; (iterate 21 (refine K32.zd ?_; (try go_simp))); refine wz_nil ?_; intro wq hbq hLq; clear hLq ; have hcwq := cellA hbq; have hfwq := frozA hbq; have hzwq := hbq.size; (try simp at hzwq); have hs := HS.out.below hbq; (try clear hcE1 hcE7 hcE26 hcE27 hzE hlE); obtain ⟨hcE1, hcE7, hcE26, hcE27, hzE, hlE⟩ := T1.f1_7_26_27 hs K32.rm; have HS := Lib.hid hs; clear hs hcwq hfwq hzwq hbq) | (go_at_call 51; refine K32.ca (fun xw hs => ?_); (try simp only [emV_sets] at hs); have hC := (grid_c b _ t.m.alt pm po (some ⟨cb, 0, none⟩) xw (EmAt.of hs K32.rm) (by rfl) (by rfl) (by rfl) HCUR.out); (with_reducible refine hC.mono ?_); clear hC; rintro e w1 ⟨rfl, hb⟩; have hs := hs.below hb; clear hb; (try clear hcE1 hcE7 hcE26 hcE27 hzE hlE); obtain ⟨hcE1, hcE7, hcE26, hcE27, hzE, hlE⟩ := T1.f1_7_26_27 hs K32.rm; have HS := Lib.hid hs; clear hs) | (go_at_call 45; refine K32.ca (fun xw hs => ?_); (try simp only [emV_sets] at hs); have hC := (G1.H_any cb gb gc t.cg xw (GrAt.of hs K32.rm)); (with_reducible refine hC.mono ?_); clear hC; rintro e w1 ⟨rfl, hb⟩; have hs := hs.below hb; clear hb; (try clear hcE1 hcE7 hcE26 hcE27 hzE hlE); obtain ⟨hcE1, hcE7, hcE26, hcE27, hzE, hlE⟩ := T1.f1_7_26_27 hs K32.rm; have HS := Lib.hid hs; clear hs))
    (first | go_end0 | refine bodyPost_ret (results_none rfl _ _ _) rfl ?_)
    refine ⟨⟨rfl, ?_⟩⟩
    exact K32.e3
end Go.Proofs.YtnjgnbdebkckfaaGreatDoor.T6
