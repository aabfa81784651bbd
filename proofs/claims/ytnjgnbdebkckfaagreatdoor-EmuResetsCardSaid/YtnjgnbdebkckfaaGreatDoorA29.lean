/- T18, T19, T20 -/
import Derived.Test.YtnjgnbdebkckfaaGreatDoorA2
import Derived.Test.YtnjgnbdebkckfaaGreatDoorA6
import Derived.Test.YtnjgnbdebkckfaaGreatDoorA11
import Derived.Test.YtnjgnbdebkckfaaGreatDoorA28
import Derived.Lib.Hide
set_option linter.unusedVariables false
set_option linter.unusedSimpArgs false
set_option linter.unnecessarySimpa false
namespace Go.Proofs.YtnjgnbdebkckfaaGreatDoor.T18
set_option maxRecDepth 100000
open Go.RowKit K1 K3 K5 K11 K12 K14 K20 K21 K22 K25 K30 K31 M0 C1 G1 G2 G3 G4 G5 G6 G7 G8 G9 G10 E3 E12 E14 E25 ME MF S3 S4 T1 T2 T3 T4 T5 T6 T7 T8 T9 T10 T11 T12 T13 T14 T15 T16 E2 K7 K9 T17
attribute [local go_sem] cell_pastA froz_pastA
structure PvI104 (b : Nat) (pp va na : Option Addr) (vn vc nc : Nat) (t : Te) (a : Ac) (R : List UInt8) (w : World) (F : List Res) (i : Value) (wr : World) : Prop where
  out : ∃ j : Nat, j ≤ a.nums.length ∧ i = .int .i64 j ∧ TeAt b (.pointer pp) (.slice va vn vc) ((a.nums.take j).foldl (fun t n => privE t n true) t) (.row (.slice va vn vc) 5 1 (R).length ((R).map K14.u8) :: .row (.slice na a.nums.length nc) 3 1 a.nums.length (ints a.nums) :: .blk w.heap.size [.int .i64 a.kind, .int .i32 a.rune, .int .i64 104, .int .i64 63, (.slice na a.nums.length nc), .string ⟨([] : List UInt8).toArray⟩, .string ⟨a.text.toArray⟩] 118 :: F) wr
set_option maxHeartbeats 4000000 in
theorem csi_104 (b sb cb gb gc xb hb hc : Nat) (pp pm po va : Option Addr) (vn vc : Nat) (t : Te) (a : Ac) (nv : Value) (R : List UInt8) (F : List Res) (w : World) (hs : Sep w (teL b (.pointer pp) (.slice va vn vc) pm po sb cb gb gc xb hb hc t (.row (.slice va vn vc) 5 1 (R).length ((R).map K14.u8) :: .row nv 3 1 a.nums.length (ints a.nums) :: F))) (hcur : (if t.m.alt = true then po else pm) = some ⟨cb, 0, none⟩) (hoth : (if t.m.alt = true then pm else po) = some ⟨xb, 0, none⟩) (ok : TeOk t) (ka : AcOk a) (hR : R.length ≤ 1000000) (hi : a.inter = []) (hm : a.mark = 63) (hb0 : a.byte = 104) : Calls Tryz.prog 67 #[.pointer (some ⟨b, 0, none⟩), actA a nv] w (CsP b pp (csiE t a) (R ++ csiR t a) nv a.nums F) := by
  have e : csiE t a = a.nums.foldl (fun t n => privE t n true) t := by
    unfold csiE
    rw [if_neg (by rw [hi]; simp), if_neg (by rw [hm]; decide), if_pos ⟨hm, by omega⟩, hb0]
    rfl
  have e2 : R ++ csiR t a = R := by unfold csiR; rw [if_neg (fun h => by rw [hm] at h; exact absurd h.2 (by decide)), List.append_nil]
  rw [e, e2]
  obtain ⟨na, nc, rfl⟩ := E3.own_form ((show Sep w (.blk b (emQ t.m (.pointer pp) pm po (.pointer (some ⟨sb, 0, none⟩)) (.slice va vn vc)) 108 :: gL cb gb gc t.cg (gL xb hb hc t.og (.blk sb (scells t.s) 126 :: (.row (.slice va vn vc) 5 1 (R).length ((R).map K14.u8) :: .row nv 3 1 a.nums.length (ints a.nums) :: F)))) from hs).hereRow (v := nv) (t := 3) (s := 1) (n := a.nums.length) (xs := ints a.nums) K32.rm)
  have n8 := ka.n8
  unfold actA
  have hst : TeAt b (.pointer pp) (.slice va vn vc) t (.row (.slice va vn vc) 5 1 (R).length ((R).map K14.u8) :: .row (.slice na a.nums.length nc) 3 1 a.nums.length (ints a.nums) :: .blk w.heap.size [.int .i64 a.kind, .int .i32 a.rune, .int .i64 104, .int .i64 63, (.slice na a.nums.length nc), .string ⟨([] : List UInt8).toArray⟩, .string ⟨a.text.toArray⟩] 118 :: F) (w.alloc (.cells #[.int .i64 a.kind, .int .i32 a.rune, .int .i64 104, .int .i64 63, (.slice na a.nums.length nc), .string ⟨([] : List UInt8).toArray⟩, .string ⟨a.text.toArray⟩] 118)) := by
    refine ⟨⟨sb, cb, gb, gc, xb, hb, hc, pm, po, hcur, hoth, ?_⟩⟩
    have h0 : Sep w (.blk b (emQ t.m (.pointer pp) pm po (.pointer (some ⟨sb, 0, none⟩)) (.slice va vn vc)) 108 :: gL cb gb gc t.cg (gL xb hb hc t.og (.blk sb (scells t.s) 126 :: (.row (.slice va vn vc) 5 1 (R).length ((R).map K14.u8) :: .row (.slice na a.nums.length nc) 3 1 a.nums.length (ints a.nums) :: F)))) := hs
    have h1 := h0.allocT (cs := #[.int .i64 a.kind, .int .i32 a.rune, .int .i64 104, .int .i64 63, (.slice na a.nums.length nc), .string ⟨([] : List UInt8).toArray⟩, .string ⟨a.text.toArray⟩]) (t := 118)
    exact h1.end9 (s1 := .blk b (emQ t.m (.pointer pp) pm po (.pointer (some ⟨sb, 0, none⟩)) (.slice va vn vc)) 108) (s2 := .blk cb (gcells t.cg gb gc) 121) (s3 := .row (.slice (some ⟨gb, 0, none⟩) t.cg.c.length gc) 58 6 t.cg.c.length (t.cg.c.flatMap ceV)) (s4 := .blk xb (gcells t.og hb hc) 121) (s5 := .row (.slice (some ⟨hb, 0, none⟩) t.og.c.length hc) 58 6 t.og.c.length (t.og.c.flatMap ceV)) (s6 := .blk sb (scells t.s) 126) (s7 := .row (.slice va vn vc) 5 1 (R).length ((R).map K14.u8)) (s8 := .row (.slice na a.nums.length nc) 3 1 a.nums.length (ints a.nums)) (s9 := .blk w.heap.size [.int .i64 a.kind, .int .i32 a.rune, .int .i64 104, .int .i64 63, (.slice na a.nums.length nc), .string ⟨([] : List UInt8).toArray⟩, .string ⟨a.text.toArray⟩] 118) K32.rm K32.rm K32.rm K32.rm K32.rm K32.rm K32.rm K32.rm K32.rm K32.sub
  have HST := Lib.hid hst
  have OK0 := Lib.hid ok
  have HS := Lib.hid ((show Sep w (.blk b (emQ t.m (.pointer pp) pm po (.pointer (some ⟨sb, 0, none⟩)) (.slice va vn vc)) 108 :: gL cb gb gc t.cg (gL xb hb hc t.og (.blk sb (scells t.s) 126 :: (.row (.slice va vn vc) 5 1 (R).length ((R).map K14.u8) :: .row (.slice na a.nums.length nc) 3 1 a.nums.length (ints a.nums) :: F)))) from hs).allocT (cs := #[.int .i64 a.kind, .int .i32 a.rune, .int .i64 104, .int .i64 63, (.slice na a.nums.length nc), .string ⟨([] : List UInt8).toArray⟩, .string ⟨a.text.toArray⟩]) (t := 118))
  rw [hi, hm, hb0]
  clear e e2 hs hst ok hcur hoth ka hi hm hb0
  go_enter Tryz.func67, Tryz.ntmps67
  go_wp2_with fail
  go_loopw [55] (fun i wr => PvI104 b pp va na vn vc nc t a R w F i wr) (fun i _ => a.nums.length - (intOf i).toNat)
  case atStart => exact ⟨⟨0, Nat.zero_le _, rfl, HST.out⟩⟩
  case round =>
    clear HST HS
    obtain ⟨⟨j, hj, rfl, ⟨⟨sb1, cb1, gb1, gc1, xb1, hb1, hc1, pm1, po1, hp1, hp2, hs⟩⟩⟩⟩ := hrel
    by_cases hlt : j < a.nums.length
    · obtain ⟨x, hx⟩ : ∃ x, a.nums[j]? = some x := ⟨_, List.getElem?_eq_getElem hlt⟩
      obtain ⟨tj, htj⟩ : ∃ u, u = (a.nums.take j).foldl (fun t n => privE t n true) t := ⟨_, rfl⟩
      have okj : TeOk tj := htj ▸ privs_ok true (a.nums.take j) OK0.out
      have HT : Hid ((a.nums.take (j + 1)).foldl (fun t n => privE t n true) t = privE tj x true) := Lib.hid (by rw [List.take_add_one, hx, htj]; simp)
      rw [← htj] at hs hp1 hp2
      have HS2 := Lib.hid hs
      unfold teL at hs
      obtain ⟨g, rc', hg⟩ := E5.own_some (hs.hereRow (v := (.slice na a.nums.length nc)) (t := 3) (s := 1) (n := a.nums.length) (xs := ints a.nums) K32.rm) (by omega)
      obtain ⟨rfl, hrc⟩ : na = some ⟨g, 0, none⟩ ∧ nc = rc' := by cases hg; exact ⟨rfl, rfl⟩
      clear hg
      subst hrc
      obtain ⟨-, hqr, hgr, -, -⟩ := K30.row_cells (hs.hereRow (v := .slice (some ⟨g, 0, none⟩) a.nums.length nc) (t := 3) (s := 1) (n := a.nums.length) (xs := ints a.nums) K32.rm)
      have hxj := K25.own_at (hs.hereRow (v := .slice (some ⟨g, 0, none⟩) a.nums.length nc) (t := 3) (s := 1) (n := a.nums.length) (xs := ints a.nums) K32.rm) (j := j) (u := .int .i64 x) (by unfold ints; rw [List.getElem?_map, hx]; rfl)
      have hqj := hqr j
      (try clear hcX hzX hlX); obtain ⟨hcX, hzX, hlX⟩ := hs.here (b := w.heap.size) K32.rm; (try clear hcX0 hcX1 hcX2 hcX3 hcX4 hcX5 hcX6); have hcX0 := hcX 0; have hcX1 := hcX 1; have hcX2 := hcX 2; have hcX3 := hcX 3; have hcX4 := hcX 4; have hcX5 := hcX 5; have hcX6 := hcX 6; clear hcX; simp only [actV, List.getElem?_cons_zero, List.getElem?_cons_succ] at hcX0 hcX1 hcX2 hcX3 hcX4 hcX5 hcX6
      have HS := HS2
      have OKJ := Lib.hid okj
      have HC1 := Lib.hid hp1
      have HX1 := Lib.hid hp2
      clear hs HS2 okj hp1 hp2 htj hqr hx
      go_wp2_with (first | (go_at_call 88; refine (priv_any b sb1 cb1 gb1 gc1 xb1 hb1 hc1 pp pm1 po1 va vn vc tj x true _ _ HS.out HC1.out HX1.out OKJ.out).mono ?_; rintro e w1 ⟨⟨rfl, ht⟩⟩))
      go_roundw
      case rel => exact ⟨⟨j + 1, by omega, by go_num, by rw [HT.out]; exact ht⟩⟩
      case measure => simp [intOf]; omega
    · obtain rfl : j = a.nums.length := by omega
      rw [List.take_length] at hs hp1 hp2
      have HS := Lib.hid hs
      have HC1 := Lib.hid hp1
      have HX1 := Lib.hid hp2
      clear hs hp1 hp2
      go_wp2_with fail
      (first | go_end0 | refine bodyPost_ret (results_none rfl _ _ _) rfl ?_)
      have hs := HS.out
      unfold teL at hs
      refine ⟨⟨va, vn, vc, rfl, ⟨⟨sb1, cb1, gb1, gc1, xb1, hb1, hc1, pm1, po1, HC1.out, HX1.out, ?_⟩⟩⟩⟩
      exact hs.sub (by unfold gL; repeat (first | exact List.sublist_cons_self _ _ | apply List.Sublist.cons_cons))
structure PvI108 (b : Nat) (pp va na : Option Addr) (vn vc nc : Nat) (t : Te) (a : Ac) (R : List UInt8) (w : World) (F : List Res) (i : Value) (wr : World) : Prop where
  out : ∃ j : Nat, j ≤ a.nums.length ∧ i = .int .i64 j ∧ TeAt b (.pointer pp) (.slice va vn vc) ((a.nums.take j).foldl (fun t n => privE t n false) t) (.row (.slice va vn vc) 5 1 (R).length ((R).map K14.u8) :: .row (.slice na a.nums.length nc) 3 1 a.nums.length (ints a.nums) :: .blk w.heap.size [.int .i64 a.kind, .int .i32 a.rune, .int .i64 108, .int .i64 63, (.slice na a.nums.length nc), .string ⟨([] : List UInt8).toArray⟩, .string ⟨a.text.toArray⟩] 118 :: F) wr
set_option maxHeartbeats 4000000 in
theorem csi_108 (b sb cb gb gc xb hb hc : Nat) (pp pm po va : Option Addr) (vn vc : Nat) (t : Te) (a : Ac) (nv : Value) (R : List UInt8) (F : List Res) (w : World) (hs : Sep w (teL b (.pointer pp) (.slice va vn vc) pm po sb cb gb gc xb hb hc t (.row (.slice va vn vc) 5 1 (R).length ((R).map K14.u8) :: .row nv 3 1 a.nums.length (ints a.nums) :: F))) (hcur : (if t.m.alt = true then po else pm) = some ⟨cb, 0, none⟩) (hoth : (if t.m.alt = true then pm else po) = some ⟨xb, 0, none⟩) (ok : TeOk t) (ka : AcOk a) (hR : R.length ≤ 1000000) (hi : a.inter = []) (hm : a.mark = 63) (hb0 : a.byte = 108) : Calls Tryz.prog 67 #[.pointer (some ⟨b, 0, none⟩), actA a nv] w (CsP b pp (csiE t a) (R ++ csiR t a) nv a.nums F) := by
  have e : csiE t a = a.nums.foldl (fun t n => privE t n false) t := by
    unfold csiE
    rw [if_neg (by rw [hi]; simp), if_neg (by rw [hm]; decide), if_pos ⟨hm, by omega⟩, hb0]
    rfl
  have e2 : R ++ csiR t a = R := by unfold csiR; rw [if_neg (fun h => by rw [hm] at h; exact absurd h.2 (by decide)), List.append_nil]
  rw [e, e2]
  obtain ⟨na, nc, rfl⟩ := E3.own_form ((show Sep w (.blk b (emQ t.m (.pointer pp) pm po (.pointer (some ⟨sb, 0, none⟩)) (.slice va vn vc)) 108 :: gL cb gb gc t.cg (gL xb hb hc t.og (.blk sb (scells t.s) 126 :: (.row (.slice va vn vc) 5 1 (R).length ((R).map K14.u8) :: .row nv 3 1 a.nums.length (ints a.nums) :: F)))) from hs).hereRow (v := nv) (t := 3) (s := 1) (n := a.nums.length) (xs := ints a.nums) K32.rm)
  have n8 := ka.n8
  unfold actA
  have hst : TeAt b (.pointer pp) (.slice va vn vc) t (.row (.slice va vn vc) 5 1 (R).length ((R).map K14.u8) :: .row (.slice na a.nums.length nc) 3 1 a.nums.length (ints a.nums) :: .blk w.heap.size [.int .i64 a.kind, .int .i32 a.rune, .int .i64 108, .int .i64 63, (.slice na a.nums.length nc), .string ⟨([] : List UInt8).toArray⟩, .string ⟨a.text.toArray⟩] 118 :: F) (w.alloc (.cells #[.int .i64 a.kind, .int .i32 a.rune, .int .i64 108, .int .i64 63, (.slice na a.nums.length nc), .string ⟨([] : List UInt8).toArray⟩, .string ⟨a.text.toArray⟩] 118)) := by
    refine ⟨⟨sb, cb, gb, gc, xb, hb, hc, pm, po, hcur, hoth, ?_⟩⟩
    have h0 : Sep w (.blk b (emQ t.m (.pointer pp) pm po (.pointer (some ⟨sb, 0, none⟩)) (.slice va vn vc)) 108 :: gL cb gb gc t.cg (gL xb hb hc t.og (.blk sb (scells t.s) 126 :: (.row (.slice va vn vc) 5 1 (R).length ((R).map K14.u8) :: .row (.slice na a.nums.length nc) 3 1 a.nums.length (ints a.nums) :: F)))) := hs
    have h1 := h0.allocT (cs := #[.int .i64 a.kind, .int .i32 a.rune, .int .i64 108, .int .i64 63, (.slice na a.nums.length nc), .string ⟨([] : List UInt8).toArray⟩, .string ⟨a.text.toArray⟩]) (t := 118)
    exact h1.end9 (s1 := .blk b (emQ t.m (.pointer pp) pm po (.pointer (some ⟨sb, 0, none⟩)) (.slice va vn vc)) 108) (s2 := .blk cb (gcells t.cg gb gc) 121) (s3 := .row (.slice (some ⟨gb, 0, none⟩) t.cg.c.length gc) 58 6 t.cg.c.length (t.cg.c.flatMap ceV)) (s4 := .blk xb (gcells t.og hb hc) 121) (s5 := .row (.slice (some ⟨hb, 0, none⟩) t.og.c.length hc) 58 6 t.og.c.length (t.og.c.flatMap ceV)) (s6 := .blk sb (scells t.s) 126) (s7 := .row (.slice va vn vc) 5 1 (R).length ((R).map K14.u8)) (s8 := .row (.slice na a.nums.length nc) 3 1 a.nums.length (ints a.nums)) (s9 := .blk w.heap.size [.int .i64 a.kind, .int .i32 a.rune, .int .i64 108, .int .i64 63, (.slice na a.nums.length nc), .string ⟨([] : List UInt8).toArray⟩, .string ⟨a.text.toArray⟩] 118) K32.rm K32.rm K32.rm K32.rm K32.rm K32.rm K32.rm K32.rm K32.rm K32.sub
  have HST := Lib.hid hst
  have OK0 := Lib.hid ok
  have HS := Lib.hid ((show Sep w (.blk b (emQ t.m (.pointer pp) pm po (.pointer (some ⟨sb, 0, none⟩)) (.slice va vn vc)) 108 :: gL cb gb gc t.cg (gL xb hb hc t.og (.blk sb (scells t.s) 126 :: (.row (.slice va vn vc) 5 1 (R).length ((R).map K14.u8) :: .row (.slice na a.nums.length nc) 3 1 a.nums.length (ints a.nums) :: F)))) from hs).allocT (cs := #[.int .i64 a.kind, .int .i32 a.rune, .int .i64 108, .int .i64 63, (.slice na a.nums.length nc), .string ⟨([] : List UInt8).toArray⟩, .string ⟨a.text.toArray⟩]) (t := 118))
  rw [hi, hm, hb0]
  clear e e2 hs hst ok hcur hoth ka hi hm hb0
  go_enter Tryz.func67, Tryz.ntmps67
  go_wp2_with fail
  go_loopw [55] (fun i wr => PvI108 b pp va na vn vc nc t a R w F i wr) (fun i _ => a.nums.length - (intOf i).toNat)
  case atStart => exact ⟨⟨0, Nat.zero_le _, rfl, HST.out⟩⟩
  case round =>
    clear HST HS
    obtain ⟨⟨j, hj, rfl, ⟨⟨sb1, cb1, gb1, gc1, xb1, hb1, hc1, pm1, po1, hp1, hp2, hs⟩⟩⟩⟩ := hrel
    by_cases hlt : j < a.nums.length
    · obtain ⟨x, hx⟩ : ∃ x, a.nums[j]? = some x := ⟨_, List.getElem?_eq_getElem hlt⟩
      obtain ⟨tj, htj⟩ : ∃ u, u = (a.nums.take j).foldl (fun t n => privE t n false) t := ⟨_, rfl⟩
      have okj : TeOk tj := htj ▸ privs_ok false (a.nums.take j) OK0.out
      have HT : Hid ((a.nums.take (j + 1)).foldl (fun t n => privE t n false) t = privE tj x false) := Lib.hid (by rw [List.take_add_one, hx, htj]; simp)
      rw [← htj] at hs hp1 hp2
      have HS2 := Lib.hid hs
      unfold teL at hs
      obtain ⟨g, rc', hg⟩ := E5.own_some (hs.hereRow (v := (.slice na a.nums.length nc)) (t := 3) (s := 1) (n := a.nums.length) (xs := ints a.nums) K32.rm) (by omega)
      obtain ⟨rfl, hrc⟩ : na = some ⟨g, 0, none⟩ ∧ nc = rc' := by cases hg; exact ⟨rfl, rfl⟩
      clear hg
      subst hrc
      obtain ⟨-, hqr, hgr, -, -⟩ := K30.row_cells (hs.hereRow (v := .slice (some ⟨g, 0, none⟩) a.nums.length nc) (t := 3) (s := 1) (n := a.nums.length) (xs := ints a.nums) K32.rm)
      have hxj := K25.own_at (hs.hereRow (v := .slice (some ⟨g, 0, none⟩) a.nums.length nc) (t := 3) (s := 1) (n := a.nums.length) (xs := ints a.nums) K32.rm) (j := j) (u := .int .i64 x) (by unfold ints; rw [List.getElem?_map, hx]; rfl)
      have hqj := hqr j
      (try clear hcX hzX hlX); obtain ⟨hcX, hzX, hlX⟩ := hs.here (b := w.heap.size) K32.rm; (try clear hcX0 hcX1 hcX2 hcX3 hcX4 hcX5 hcX6); have hcX0 := hcX 0; have hcX1 := hcX 1; have hcX2 := hcX 2; have hcX3 := hcX 3; have hcX4 := hcX 4; have hcX5 := hcX 5; have hcX6 := hcX 6; clear hcX; simp only [actV, List.getElem?_cons_zero, List.getElem?_cons_succ] at hcX0 hcX1 hcX2 hcX3 hcX4 hcX5 hcX6
      have HS := HS2
      have OKJ := Lib.hid okj
      have HC1 := Lib.hid hp1
      have HX1 := Lib.hid hp2
      clear hs HS2 okj hp1 hp2 htj hqr hx
      go_wp2_with (first | (go_at_call 88; refine (priv_any b sb1 cb1 gb1 gc1 xb1 hb1 hc1 pp pm1 po1 va vn vc tj x false _ _ HS.out HC1.out HX1.out OKJ.out).mono ?_; rintro e w1 ⟨⟨rfl, ht⟩⟩))
      go_roundw
      case rel => exact ⟨⟨j + 1, by omega, by go_num, by rw [HT.out]; exact ht⟩⟩
      case measure => simp [intOf]; omega
    · obtain rfl : j = a.nums.length := by omega
      rw [List.take_length] at hs hp1 hp2
      have HS := Lib.hid hs
      have HC1 := Lib.hid hp1
      have HX1 := Lib.hid hp2
      clear hs hp1 hp2
      go_wp2_with fail
      (first | go_end0 | refine bodyPost_ret (results_none rfl _ _ _) rfl ?_)
      have hs := HS.out
      unfold teL at hs
      refine ⟨⟨va, vn, vc, rfl, ⟨⟨sb1, cb1, gb1, gc1, xb1, hb1, hc1, pm1, po1, HC1.out, HX1.out, ?_⟩⟩⟩⟩
      exact hs.sub (by unfold gL; repeat (first | exact List.sublist_cons_self _ _ | apply List.Sublist.cons_cons))
set_option maxHeartbeats 4000000 in
theorem csi_none (b sb cb gb gc xb hb hc : Nat) (pp pm po va : Option Addr) (vn vc : Nat) (t : Te) (a : Ac) (nv : Value) (R : List UInt8) (F : List Res) (w : World) (hs : Sep w (teL b (.pointer pp) (.slice va vn vc) pm po sb cb gb gc xb hb hc t (.row (.slice va vn vc) 5 1 (R).length ((R).map K14.u8) :: .row nv 3 1 a.nums.length (ints a.nums) :: F))) (hcur : (if t.m.alt = true then po else pm) = some ⟨cb, 0, none⟩) (hoth : (if t.m.alt = true then pm else po) = some ⟨xb, 0, none⟩) (ok : TeOk t) (ka : AcOk a) (hR : R.length ≤ 1000000) (hi : a.inter = []) (hm0 : a.mark ≠ 0) (hn : ¬ (a.mark = 63 ∧ (a.byte = 104 ∨ a.byte = 108))) : Calls Tryz.prog 67 #[.pointer (some ⟨b, 0, none⟩), actA a nv] w (CsP b pp (csiE t a) (R ++ csiR t a) nv a.nums F) := by
  have e : csiE t a = t := by unfold csiE; rw [if_neg (by rw [hi]; simp), if_neg hm0, if_neg hn]
  have e2 : R ++ csiR t a = R := by unfold csiR; rw [if_neg (fun h => hm0 h.2), List.append_nil]
  rw [e, e2]
  unfold actA
  have hs : Sep w (.blk b (emQ t.m (.pointer pp) pm po (.pointer (some ⟨sb, 0, none⟩)) (.slice va vn vc)) 108 :: gL cb gb gc t.cg (gL xb hb hc t.og (.blk sb (scells t.s) 126 :: (.row (.slice va vn vc) 5 1 (R).length ((R).map K14.u8) :: .row nv 3 1 a.nums.length (ints a.nums) :: F)))) := hs
  have HCUR := Lib.hid hcur
  have HOTH := Lib.hid hoth
  have OK := Lib.hid ok
  have L8 := Lib.hid (show NumOk a.nums from ⟨by have := ka.n8; omega, ka.nums⟩)
  obtain ⟨r1, r2⟩ := countN_rng L8.out 0
  obtain ⟨r5, r6⟩ := countN_rng L8.out 1
  have HS := Lib.hid hs
  clear hs ok hcur hoth
  rw [hi]
  clear e e2 hi
  have hcm : a.mark ≠ 63 ∨ (a.mark = 63 ∧ a.byte ≠ 104 ∧ a.byte ≠ 108) := by omega
  clear hn
  rcases hcm with hcm | ⟨hcm, hd1, hd2⟩
  · go_enter Tryz.func67, Tryz.ntmps67
    go_wp2_with fail
    (first | go_end0 | refine bodyPost_ret (results_none rfl _ _ _) rfl ?_)
    refine ⟨⟨va, vn, vc, rfl, teAt_same (t := t) (u := t) (sb := sb) (gb := gb) (gc := gc) (hb := hb) (hc := hc) (teL_same (t := t) ?_ (.refl t)) HCUR.out HOTH.out (.refl t)⟩⟩
    (with_reducible apply K30.sep_end)
    exact K32.fnd
    intro hs
    exact hs.end8 (s1 := .blk b (emQ ((t).m) (.pointer pp) pm po (.pointer (some ⟨sb, 0, none⟩)) (.slice va vn vc)) 108) (s2 := .blk cb (gcells (t).cg gb gc) 121) (s3 := .row (.slice (some ⟨gb, 0, none⟩) (t).cg.c.length gc) 58 6 (t).cg.c.length ((t).cg.c.flatMap ceV)) (s4 := .blk xb (gcells t.og hb hc) 121) (s5 := .row (.slice (some ⟨hb, 0, none⟩) t.og.c.length hc) 58 6 t.og.c.length (t.og.c.flatMap ceV)) (s6 := .blk sb (scells t.s) 126) (s7 := .row (.slice va vn vc) 5 1 (R).length ((R).map K14.u8)) (s8 := .row nv 3 1 a.nums.length (ints a.nums)) K32.rm K32.rm K32.rm K32.rm K32.rm K32.rm K32.rm K32.rm K32.sub
  · rw [hcm]
    have hq1 : (a.byte == 104) = false := by simpa using hd1
    have hq2 : (a.byte == 108) = false := by simpa using hd2
    clear hcm hm0 hd1 hd2
    go_enter Tryz.func67, Tryz.ntmps67
    go_wp2_with fail
    (first | go_end0 | refine bodyPost_ret (results_none rfl _ _ _) rfl ?_)
    refine ⟨⟨va, vn, vc, rfl, teAt_same (t := t) (u := t) (sb := sb) (gb := gb) (gc := gc) (hb := hb) (hc := hc) (teL_same (t := t) ?_ (.refl t)) HCUR.out HOTH.out (.refl t)⟩⟩
    (with_reducible apply K30.sep_end)
    exact K32.fnd
    intro hs
    exact hs.end8 (s1 := .blk b (emQ ((t).m) (.pointer pp) pm po (.pointer (some ⟨sb, 0, none⟩)) (.slice va vn vc)) 108) (s2 := .blk cb (gcells (t).cg gb gc) 121) (s3 := .row (.slice (some ⟨gb, 0, none⟩) (t).cg.c.length gc) 58 6 (t).cg.c.length ((t).cg.c.flatMap ceV)) (s4 := .blk xb (gcells t.og hb hc) 121) (s5 := .row (.slice (some ⟨hb, 0, none⟩) t.og.c.length hc) 58 6 t.og.c.length (t.og.c.flatMap ceV)) (s6 := .blk sb (scells t.s) 126) (s7 := .row (.slice va vn vc) 5 1 (R).length ((R).map K14.u8)) (s8 := .row nv 3 1 a.nums.length (ints a.nums)) K32.rm K32.rm K32.rm K32.rm K32.rm K32.rm K32.rm K32.rm K32.sub
theorem csi_any (b sb cb gb gc xb hb hc : Nat) (pp pm po va : Option Addr) (vn vc : Nat) (t : Te) (a : Ac) (nv : Value) (R : List UInt8) (F : List Res) (w : World) (hs : Sep w (teL b (.pointer pp) (.slice va vn vc) pm po sb cb gb gc xb hb hc t (.row (.slice va vn vc) 5 1 (R).length ((R).map K14.u8) :: .row nv 3 1 a.nums.length (ints a.nums) :: F))) (hcur : (if t.m.alt = true then po else pm) = some ⟨cb, 0, none⟩) (hoth : (if t.m.alt = true then pm else po) = some ⟨xb, 0, none⟩) (ok : TeOk t) (ka : AcOk a) (hR : R.length ≤ 1000000) : Calls Tryz.prog 67 #[.pointer (some ⟨b, 0, none⟩), actA a nv] w (CsP b pp (csiE t a) (R ++ csiR t a) nv a.nums F) := by
  by_cases hi : a.inter = []
  · by_cases hm : a.mark = 0
    · cases hmv : moveL t a.byte (countN a.nums 0) (countN a.nums 1) with
      | some u => exact csi_mv b sb cb gb gc xb hb hc pp pm po va vn vc t a nv R F w hs hcur hoth ok ka hR hi hm u hmv
      | none =>
        cases hed : editE t a.byte a.nums with
        | some u => exact csi_ed b sb cb gb gc xb hb hc pp pm po va vn vc t a nv R F w hs hcur hoth ok ka hR hi hm u hmv hed
        | none => exact csi_st b sb cb gb gc xb hb hc pp pm po va vn vc t a nv R F w hs hcur hoth ok ka hR hi hm hmv hed
    · by_cases hp : a.mark = 63 ∧ (a.byte = 104 ∨ a.byte = 108)
      · obtain ⟨h1, h2 | h2⟩ := hp
        · exact csi_104 b sb cb gb gc xb hb hc pp pm po va vn vc t a nv R F w hs hcur hoth ok ka hR hi h1 h2
        · exact csi_108 b sb cb gb gc xb hb hc pp pm po va vn vc t a nv R F w hs hcur hoth ok ka hR hi h1 h2
      · exact csi_none b sb cb gb gc xb hb hc pp pm po va vn vc t a nv R F w hs hcur hoth ok ka hR hi hm hp
  · exact csi_inter b sb cb gb gc xb hb hc pp pm po va vn vc t a nv R F w hs hcur hoth ok ka hR hi
end Go.Proofs.YtnjgnbdebkckfaaGreatDoor.T18
namespace Go.Proofs.YtnjgnbdebkckfaaGreatDoor.T19
set_option maxRecDepth 100000
open Go.RowKit K1 K3 K5 K11 K12 K14 K20 K21 K22 K25 K30 K31 M0 C1 G1 G2 G3 G4 G5 G6 G7 G8 G9 G10 E3 E12 E14 E25 ME MF S3 S4 T1 T2 T3 T4 T5 T6 T7 T8 T9 T10 T11 T12 T13 T14 T15 T16 E2 E15 K7 K9 T17 T18 U1 MP
attribute [local go_sem] cell_pastA froz_pastA
theorem TeAt.perm {b : Nat} {pv av : Value} {t : Te} {F F' : List Res} {w : World} (h : TeAt b pv av t F w) (hp : F.Perm F') : TeAt b pv av t F' w := by
  obtain ⟨sb, cb, gb, gc, xb, hb, hc, pm, po, h1, h2, h3⟩ := h
  exact ⟨⟨sb, cb, gb, gc, xb, hb, hc, pm, po, h1, h2, h3.perm (by unfold teL; exact List.Perm.append_left [_, _, _, _, _, _] hp)⟩⟩
theorem TeAt.sub {b : Nat} {pv av : Value} {t : Te} {F F' : List Res} {w : World} (h : TeAt b pv av t F w) (hp : F'.Sublist F) : TeAt b pv av t F' w := by
  obtain ⟨sb, cb, gb, gc, xb, hb, hc, pm, po, h1, h2, h3⟩ := h
  exact ⟨⟨sb, cb, gb, gc, xb, hb, hc, pm, po, h1, h2, h3.sub (by unfold teL; exact (List.Sublist.refl [_, _, _, _, _, _]).append hp)⟩⟩
theorem print_t (b sb cb gb gc xb hb hc : Nat) (pp pm po va : Option Addr) (vn vc : Nat) (t : Te) (r : Int) (F : List Res) (w : World) (hs : Sep w (teL b (.pointer pp) (.slice va vn vc) pm po sb cb gb gc xb hb hc t F)) (hcur : (if t.m.alt = true then po else pm) = some ⟨cb, 0, none⟩) (hoth : (if t.m.alt = true then pm else po) = some ⟨xb, 0, none⟩) (ok : TeOk t) : Calls Tryz.prog 64 #[.pointer (some ⟨b, 0, none⟩), .int .i32 r] w (TeP b (.pointer pp) (.slice va vn vc) (printE t r) F) := by
  refine (print_any b cb gb gc (.pointer pp) pm po (.pointer (some ⟨sb, 0, none⟩)) (.slice va vn vc) t r _ w (show Sep w (.blk b (emQ t.m (.pointer pp) pm po (.pointer (some ⟨sb, 0, none⟩)) (.slice va vn vc)) 108 :: gL cb gb gc t.cg (gL xb hb hc t.og (.blk sb (scells t.s) 126 :: F))) from hs) hcur ok).mono ?_
  rintro e w' ⟨⟨rfl, h⟩⟩
  exact ⟨⟨rfl, teAt_same (t := t) (sb := sb) (gb := gb) (gc := gc) (hb := hb) (hc := hc) (teL_same (t := t) h (same_print t r)) hcur hoth (same_print t r)⟩⟩
theorem control_t (b sb cb gb gc xb hb hc : Nat) (pp pm po va : Option Addr) (vn vc : Nat) (t : Te) (k : Int) (F : List Res) (w : World) (hs : Sep w (teL b (.pointer pp) (.slice va vn vc) pm po sb cb gb gc xb hb hc t F)) (hcur : (if t.m.alt = true then po else pm) = some ⟨cb, 0, none⟩) (hoth : (if t.m.alt = true then pm else po) = some ⟨xb, 0, none⟩) (ok : TeOk t) : Calls Tryz.prog 65 #[.pointer (some ⟨b, 0, none⟩), .int .i64 k] w (TeP b (.pointer pp) (.slice va vn vc) (controlE t k) F) := by
  have hs : Sep w (.blk b (emQ t.m (.pointer pp) pm po (.pointer (some ⟨sb, 0, none⟩)) (.slice va vn vc)) 108 :: gL cb gb gc t.cg (gL xb hb hc t.og (.blk sb (scells t.s) 126 :: F))) := hs
  have h4 := hs.end4 (F := gL xb hb hc t.og F) (s1 := .blk b (emQ t.m (.pointer pp) pm po (.pointer (some ⟨sb, 0, none⟩)) (.slice va vn vc)) 108) (s2 := .blk cb (gcells t.cg gb gc) 121) (s3 := .row (.slice (some ⟨gb, 0, none⟩) t.cg.c.length gc) 58 6 t.cg.c.length (t.cg.c.flatMap ceV)) (s4 := .blk sb (scells t.s) 126) K32.rm K32.rm K32.rm K32.rm (List.Sublist.refl _)
  refine (control_any b cb gb gc (.pointer pp) pm po (.slice va vn vc) sb t k _ w h4 hcur ok).mono ?_
  rintro e w' ⟨⟨rfl, h⟩⟩
  refine ⟨⟨rfl, teAt_same (t := t) (sb := sb) (gb := gb) (gc := gc) (hb := hb) (hc := hc) (teL_same (t := t) ?_ (same_control t k)) hcur hoth (same_control t k)⟩⟩
  exact h.end6 (s1 := .blk b (emQ ((controlE t k).m) (.pointer pp) pm po (.pointer (some ⟨sb, 0, none⟩)) (.slice va vn vc)) 108) (s2 := .blk cb (gcells (controlE t k).cg gb gc) 121) (s3 := .row (.slice (some ⟨gb, 0, none⟩) (controlE t k).cg.c.length gc) 58 6 (controlE t k).cg.c.length ((controlE t k).cg.c.flatMap ceV)) (s4 := .blk xb (gcells t.og hb hc) 121) (s5 := .row (.slice (some ⟨hb, 0, none⟩) t.og.c.length hc) 58 6 t.og.c.length (t.og.c.flatMap ceV)) (s6 := .blk sb (scells t.s) 126) K32.rm K32.rm K32.rm K32.rm K32.rm K32.rm K32.sub
theorem actsV_get {l : List (Ac × Value)} {j : Nat} {a : Ac} {nv : Value} (h : l[j]? = some (a, nv)) (k : Nat) (hk : k < 7) : (actsV l)[j * 7 + k]? = (actV a nv)[k]? := by
  induction l generalizing j with
  | nil => simp at h
  | cons p l ih =>
    have hp : (actV p.1 p.2).length = 7 := rfl
    show (actV p.1 p.2 ++ actsV l)[j * 7 + k]? = _
    cases j with
    | zero =>
      simp only [List.getElem?_cons_zero, Option.some.injEq] at h
      subst h
      rw [Nat.zero_mul, Nat.zero_add, List.getElem?_append_left (by rw [hp]; exact hk)]
    | succ j =>
      rw [List.getElem?_append_right (by rw [hp]; omega), hp, show (j + 1) * 7 + k - 7 = j * 7 + k by omega]
      exact ih (by simpa using h)
theorem actsR_split {l : List (Ac × Value)} {j : Nat} {a : Ac} {nv : Value} (h : l[j]? = some (a, nv)) : (actsR l).Perm (.row nv 3 1 a.nums.length (ints a.nums) :: actsR (l.eraseIdx j)) := by
  induction l generalizing j with
  | nil => simp at h
  | cons p l ih =>
    cases j with
    | zero =>
      simp only [List.getElem?_cons_zero, Option.some.injEq] at h
      subst h
      exact List.Perm.refl _
    | succ j => exact ((ih (j := j) (by simpa using h)).cons _).trans (List.Perm.swap _ _ _)
theorem acts_app : ∀ (l m : List Ac) (t : Te), actsE t (l ++ m) = ((actsE t l).1 ++ (actsE (actsE t l).2 m).1, (actsE (actsE t l).2 m).2)
  | [], m, t => rfl
  | a :: l, m, t => by
    show (actR t a ++ (actsE (actE1 t a) (l ++ m)).1, (actsE (actE1 t a) (l ++ m)).2) = _
    rw [acts_app l m]
    show _ = ((actR t a ++ (actsE (actE1 t a) l).1) ++ _, _)
    rw [List.append_assoc]
    rfl
theorem rep_len (t : Te) (ok : TeOk t) (k : Int) : (reportR t k).length ≤ 8 := by
  have y0 := ok.cu.y0; have y1 := ok.cu.y1; have x0 := ok.cu.x0; have x1 := ok.cu.x1; have tp := ok.top
  unfold reportR
  split
  · decide
  · split
    · have h1 : (digF (repY t + 1)).length ≤ 2 := by unfold repY; split <;> exact dig_len _ (by omega) (by omega)
      have h2 := dig_len (t.m.cu.x + 1) (by omega) (by omega)
      simp only [List.length_append, List.length_cons, List.length_nil]
      omega
    · exact Nat.zero_le _
theorem actR_len (t : Te) (ok : TeOk t) (a : Ac) : (actR t a).length ≤ 8 := by
  unfold actR csiR
  split
  · split
    · unfold stateR
      split
      · exact rep_len t ok _
      · split <;> simp
    · exact Nat.zero_le _
  · exact Nat.zero_le _
theorem actsE_len : ∀ (l : List Ac) (t : Te) (_ : TeOk t), (∀ a ∈ l, AcOk a) → (actsE t l).1.length ≤ 8 * l.length
  | [], t, _, _ => Nat.zero_le _
  | a :: l, t, ok, h => by
    have h1 := actR_len t ok a
    have h2 := actsE_len l (actE1 t a) (act_ok ok (h a (by simp))) (fun b hb => h b (by simp [hb]))
    show (actR t a ++ (actsE (actE1 t a) l).1).length ≤ _
    rw [List.length_append, List.length_cons]
    omega
theorem none_any (b : Nat) (pm : Option Addr) (g : Nat) (w : World) (h : w.cell? ⟨b, 23, none⟩ = some (.pointer (some ⟨g, 0, none⟩))) : Calls Tryz.prog 48 #[.pointer (some ⟨b, 0, none⟩)] w fun e w' => e = .returned (.bool false) ∧ Below w.heap.size w w' := by
  go_enter Tryz.func48, Tryz.ntmps48
  go_wp2_with fail
  go_ret
  exact ⟨rfl, Below.refl _ _⟩
/-- the first grid's pointer -/
theorem main_some {alt : Bool} {pm po : Option Addr} {cb xb : Nat} (h1 : (if alt = true then po else pm) = some ⟨cb, 0, none⟩) (h2 : (if alt = true then pm else po) = some ⟨xb, 0, none⟩) : ∃ g, pm = some ⟨g, 0, none⟩ := by
  cases alt with
  | true => exact ⟨xb, h2⟩
  | false => exact ⟨cb, h1⟩
end Go.Proofs.YtnjgnbdebkckfaaGreatDoor.T19
namespace Go.Proofs.YtnjgnbdebkckfaaGreatDoor.T20
set_option maxRecDepth 100000
open Go.RowKit K1 K3 K5 K11 K12 K14 K20 K21 K22 K25 K30 K31 M0 C1 G1 G2 G3 G4 G5 G6 G7 G8 G9 G10 E3 E12 E14 E25 ME MF S3 S4 T1 T2 T3 T4 T5 T6 T7 T8 T9 T10 T11 T12 T13 T14 T15 T16 E2 E15 K7 K9 T17 T18 T19 U1 MP
attribute [local go_sem] cell_pastA froz_pastA
theorem csi_4 (b sb cb gb gc xb hb hc : Nat) (pp pm po va : Option Addr) (vn vc : Nat) (t : Te) (a : Ac) (nv : Value) (R : List UInt8) (F : List Res) (w : World) (hs : Sep w (teL b (.pointer pp) (.slice va vn vc) pm po sb cb gb gc xb hb hc t (.row (.slice va vn vc) 5 1 (R).length ((R).map K14.u8) :: .row nv 3 1 a.nums.length (ints a.nums) :: F))) (hcur : (if t.m.alt = true then po else pm) = some ⟨cb, 0, none⟩) (hoth : (if t.m.alt = true then pm else po) = some ⟨xb, 0, none⟩) (ok : TeOk t) (ka : AcOk a) (hR : R.length ≤ 1000000) (hk : a.kind = 4) : Calls Tryz.prog 67 #[.pointer (some ⟨b, 0, none⟩), .agg #[.int .i64 4, .int .i32 a.rune, .int .i64 a.byte, .int .i64 a.mark, nv, .string ⟨a.inter.toArray⟩, .string ⟨a.text.toArray⟩]] w (CsP b pp (csiE t a) (R ++ csiR t a) nv a.nums F) := by
  have h := csi_any b sb cb gb gc xb hb hc pp pm po va vn vc t a nv R F w hs hcur hoth ok ka hR
  unfold actA at h
  rw [hk] at h
  exact h
structure ActI (b : Nat) (pp na : Option Addr) (nc : Nat) (t : Te) (l : List (Ac × Value)) (F : List Res) (i : Value) (wr : World) : Prop where
  out : ∃ (j : Nat) (va : Option Addr) (vn vc : Nat) (R : List UInt8), j ≤ l.length ∧ i = .int .i64 j ∧ R = (actsE t ((l.take j).map (·.1))).1 ∧ TeAt b (.pointer pp) (.slice va vn vc) (actsE t ((l.take j).map (·.1))).2 (.row (.slice va vn vc) 5 1 (R).length ((R).map K14.u8) :: .row (.slice na l.length nc) 118 7 l.length (actsV l) :: (actsR l ++ F)) wr
structure ActP (b : Nat) (pp : Option Addr) (t : Te) (r : List UInt8 × Te) (F : List Res) (e : Ending) (w' : World) : Prop where
  out : e = .returned (.string ⟨r.1.toArray⟩) ∧ TeAt b (.pointer pp) (.slice none 0 0) r.2 F w'
set_option maxHeartbeats 4000000 in
theorem Act_any (b : Nat) (pp : Option Addr) (t : Te) (v : Value) (l : List (Ac × Value)) (F : List Res) (w : World) (ht : TeAt b (.pointer pp) (.slice none 0 0) t (.row v 118 7 l.length (actsV l) :: (actsR l ++ F)) w) (ok : TeOk t) (hk : ∀ p ∈ l, AcOk p.1) (hl : l.length ≤ 100000) :
    Calls Tryz.prog 49 #[.pointer (some ⟨b, 0, none⟩), v] w (ActP b pp t (actsE t (l.map (·.1))) F) := by
  have hst : TeAt b (.pointer pp) (.slice none 0 0) t (.row (.slice none 0 0) 5 1 0 [] :: .row v 118 7 l.length (actsV l) :: (actsR l ++ F)) w := by
    obtain ⟨sb, cb, gb, gc, xb, hb, hc, pm, po, h1, h2, h3⟩ := ht
    refine ⟨⟨sb, cb, gb, gc, xb, hb, hc, pm, po, h1, h2, ?_⟩⟩
    have h4 := h3.nilRow (t := 5) (s := 1)
    exact h4.perm (by unfold teL; exact List.perm_middle (l₁ := [_, _, _, _, _, _]) |>.symm)
  obtain ⟨na, nc, rfl⟩ : ∃ na nc, v = .slice na l.length nc := by
    obtain ⟨sb, cb, gb, gc, xb, hb, hc, pm, po, h1, h2, h3⟩ := ht
    unfold teL at h3
    obtain ⟨ad, c, e⟩ := E3.own_form (h3.hereRow (v := v) (t := 118) (s := 7) (n := l.length) (xs := actsV l) K32.rm)
    exact ⟨ad, c, e⟩
  obtain ⟨g0, hg0, hg1⟩ : ∃ g0, w.cell? ⟨b, 23, none⟩ = some (.pointer (some ⟨g0, 0, none⟩)) ∧ b < w.heap.size := by
    obtain ⟨sb, cb, gb, gc, xb, hb, hc, pm, po, h1, h2, h3⟩ := ht
    obtain ⟨g, hg⟩ := main_some h1 h2
    unfold teL at h3
    obtain ⟨hcE, hzE, hlE⟩ := h3.here (b := b) K32.rm
    have := (hcE 23).trans (emV_23 ..)
    rw [hg] at this
    exact ⟨g, this, hlE⟩
  have HST := Lib.hid hst
  have OK0 := Lib.hid ok
  have HK := Lib.hid hk
  clear ht hst ok hk
  go_enter Tryz.func49, Tryz.ntmps49
  go_wp2_with (first | (go_at_call 48; refine (none_any b none g0 _ hg0).mono ?_; rintro e w1 ⟨rfl, hbw⟩))
  have hst1 : TeAt b (.pointer pp) (.slice none 0 0) t (.row (.slice none 0 0) 5 1 0 [] :: .row (.slice na l.length nc) 118 7 l.length (actsV l) :: (actsR l ++ F)) w1 := by
    obtain ⟨sb, cb, gb, gc, xb, hb, hc, pm, po, h1, h2, h3⟩ := HST.out
    exact ⟨⟨sb, cb, gb, gc, xb, hb, hc, pm, po, h1, h2, h3.below hbw⟩⟩
  have HS1 := Lib.hid hst1
  clear HST hst1 hg0 hg1 hbw
  go_loopw [12] (fun i wr => ActI b pp na nc t l F i wr) (fun i _ => l.length - (intOf i).toNat)
  case atStart => exact ⟨⟨0, none, 0, 0, [], Nat.zero_le _, rfl, rfl, HS1.out⟩⟩
  case round =>
    clear HS1
    obtain ⟨⟨j, va1, vn1, vc1, R, hj, rfl, hR, ht⟩⟩ := hrel
    by_cases hlt : j < l.length
    · obtain ⟨⟨a, nv⟩, hx⟩ : ∃ x, l[j]? = some x := ⟨_, List.getElem?_eq_getElem hlt⟩
      have hAK : AcOk a := HK.out (a, nv) (List.mem_of_getElem? hx)
      have hacs : ∀ q ∈ ((l.take j).map (·.1)), AcOk q := by
        intro q hq
        obtain ⟨p, hp, rfl⟩ := List.mem_map.1 hq
        exact HK.out p (List.mem_of_mem_take hp)
      have okj := acts_ok ((l.take j).map (·.1)) OK0.out hacs
      have hRL := actsE_len ((l.take j).map (·.1)) t OK0.out hacs
      rw [← hR, List.length_map, List.length_take] at hRL
      have hT : (actsE t ((l.take (j + 1)).map (·.1))) = (R ++ actR (actsE t ((l.take j).map (·.1))).2 a, actE1 (actsE t ((l.take j).map (·.1))).2 a) := by
        rw [List.take_add_one, hx, List.map_append, acts_app, ← hR]
        show (R ++ (actR _ a ++ []), actE1 _ a) = _
        rw [List.append_nil]
      obtain ⟨tj, htj⟩ : ∃ u, u = (actsE t ((l.take j).map (·.1))).2 := ⟨_, rfl⟩
      rw [← htj] at okj hT ht
      obtain ⟨nva, nvc, hnv⟩ : ∃ nva nvc, nv = .slice nva a.nums.length nvc := by
        obtain ⟨sb1, cb1, gb1, gc1, xb1, hb1, hc1, pm1, po1, hp1, hp2, hs⟩ := TeAt.perm ht (F' := (.row (.slice va1 vn1 vc1) 5 1 (R).length ((R).map K14.u8) :: .row nv 3 1 a.nums.length (ints a.nums) :: (.row (.slice na l.length nc) 118 7 l.length (actsV l) :: (actsR (l.eraseIdx j) ++ F)))) ((List.Perm.cons _ ((((actsR_split hx).append_right F).cons _).trans (List.Perm.swap _ _ _))))
        unfold teL at hs
        obtain ⟨ad, c, e⟩ := E3.own_form (hs.hereRow (v := nv) (t := 3) (s := 1) (n := a.nums.length) (xs := ints a.nums) K32.rm)
        exact ⟨ad, c, e⟩
      subst hnv
      have hsp := actsR_split hx
      have ht := TeAt.perm ht (F' := (.row (.slice va1 vn1 vc1) 5 1 (R).length ((R).map K14.u8) :: .row (.slice nva a.nums.length nvc) 3 1 a.nums.length (ints a.nums) :: (.row (.slice na l.length nc) 118 7 l.length (actsV l) :: (actsR (l.eraseIdx j) ++ F)))) (by
        refine (List.Perm.cons _ ?_)
        have h1 : (actsR l ++ F).Perm (.row (.slice nva a.nums.length nvc) 3 1 a.nums.length (ints a.nums) :: (actsR (l.eraseIdx j) ++ F)) := hsp.append_right F
        exact ((h1.cons _).trans (List.Perm.swap _ _ _)))
      obtain ⟨⟨sb1, cb1, gb1, gc1, xb1, hb1, hc1, pm1, po1, hp1, hp2, hs⟩⟩ := ht
      have hs : Sep wr (.blk b (emQ tj.m (.pointer pp) pm1 po1 (.pointer (some ⟨sb1, 0, none⟩)) (.slice va1 vn1 vc1)) 108 :: gL cb1 gb1 gc1 tj.cg (gL xb1 hb1 hc1 tj.og (.blk sb1 (scells tj.s) 126 :: (.row (.slice va1 vn1 vc1) 5 1 (R).length ((R).map K14.u8) :: .row (.slice nva a.nums.length nvc) 3 1 a.nums.length (ints a.nums) :: (.row (.slice na l.length nc) 118 7 l.length (actsV l) :: (actsR (l.eraseIdx j) ++ F)))))) := hs
      obtain ⟨g, rc', hg⟩ := E5.own_some (hs.hereRow (v := .slice na l.length nc) (t := 118) (s := 7) (n := l.length) (xs := actsV l) K32.rm) (by omega)
      obtain ⟨rfl, hrc⟩ : na = some ⟨g, 0, none⟩ ∧ nc = rc' := by cases hg; exact ⟨rfl, rfl⟩
      clear hg
      subst hrc
      obtain ⟨-, hqr, hgr, -, -⟩ := K30.row_cells (hs.hereRow (v := .slice (some ⟨g, 0, none⟩) l.length nc) (t := 118) (s := 7) (n := l.length) (xs := actsV l) K32.rm)
      have hv := fun k hk u (hu : (actV a (.slice nva a.nums.length nvc))[k]? = some u) => K25.own_at (hs.hereRow (v := .slice (some ⟨g, 0, none⟩) l.length nc) (t := 118) (s := 7) (n := l.length) (xs := actsV l) K32.rm) (j := j * 7 + k) (u := u) ((actsV_get hx k hk).trans hu)
      have hv0 := hv 0 (by decide) (.int .i64 a.kind) rfl
      have hv1 := hv 1 (by decide) (.int .i32 a.rune) rfl
      have hv2 := hv 2 (by decide) (.int .i64 a.byte) rfl
      have hv3 := hv 3 (by decide) (.int .i64 a.mark) rfl
      have hv4 := hv 4 (by decide) (.slice nva a.nums.length nvc) rfl
      have hv5 := hv 5 (by decide) (.string ⟨a.inter.toArray⟩) rfl
      have hv6 := hv 6 (by decide) (.string ⟨a.text.toArray⟩) rfl
      rw [Nat.add_zero] at hv0
      have HS := Lib.hid hs
      have HC1 := Lib.hid hp1
      have HX1 := Lib.hid hp2
      have OKJ := Lib.hid okj
      have AK := Lib.hid hAK
      have HT := Lib.hid hT
      have HSP := Lib.hid hsp
      have HRL := Lib.hid hRL
      have HTJ := Lib.hid htj
      have hbb0 := hAK.b0; have hbb1 := hAK.b1
      clear hs hp1 hp2 okj hAK hT hsp hRL htj hx hv hqr hR hacs
      have HPB := Lib.hid (fun o : Res => (show (o :: .row (.slice nva a.nums.length nvc) 3 1 a.nums.length (ints a.nums) :: (.row (.slice (some ⟨g, 0, none⟩) l.length nc) 118 7 l.length (actsV l) :: (actsR (l.eraseIdx j) ++ F))).Perm (o :: .row (.slice (some ⟨g, 0, none⟩) l.length nc) 118 7 l.length (actsV l) :: (actsR l ++ F)) from (List.Perm.cons _ ((List.Perm.swap _ _ _).trans ((HSP.out.symm.append_right F).cons _)))))
      have hkk : a.kind = 1 ∨ a.kind = 2 ∨ a.kind = 3 ∨ a.kind = 4 ∨ (a.kind ≠ 1 ∧ a.kind ≠ 2 ∧ a.kind ≠ 3 ∧ a.kind ≠ 4) := by omega
      rcases hkk with hk | hk | hk | hk | ⟨hk1, hk2, hk3, hk4⟩
      · have hA : actE1 tj a = printE tj a.rune := by unfold actE1; rw [if_pos hk]
        have hr : actR tj a = [] := by unfold actR; rw [if_neg (by omega)]
        have HA := Lib.hid (And.intro hA hr)
        have HK4 := Lib.hid hk
        rw [hk] at hv0
        clear hA hr hk
        go_wp2_with (first | (go_at_call 64; refine K32.ca (fun xw hs => ?_); have hs := hs.tail; refine (print_t b sb1 cb1 gb1 gc1 xb1 hb1 hc1 pp pm1 po1 va1 vn1 vc1 tj a.rune _ xw hs HC1.out HX1.out OKJ.out).mono ?_; clear hs; rintro e w1 ⟨⟨rfl, ht⟩⟩))
        go_roundw
        case rel =>
          refine ⟨⟨j + 1, va1, vn1, vc1, R, by omega, by go_num, ?_, ?_⟩⟩
          · rw [HT.out, HA.out.2]; simp
          · rw [HT.out, HA.out.1]
            exact TeAt.perm ht (HPB.out _)
        case measure => simp [intOf]; omega
      · have hA : actE1 tj a = controlE tj a.byte := by unfold actE1; rw [if_neg (by omega), if_pos hk]
        have hr : actR tj a = [] := by unfold actR; rw [if_neg (by omega)]
        have HA := Lib.hid (And.intro hA hr)
        have HK4 := Lib.hid hk
        rw [hk] at hv0
        clear hA hr hk
        go_wp2_with (first | (go_at_call 65; refine K32.ca (fun xw hs => ?_); have hs := hs.tail; refine (control_t b sb1 cb1 gb1 gc1 xb1 hb1 hc1 pp pm1 po1 va1 vn1 vc1 tj a.byte _ xw hs HC1.out HX1.out OKJ.out).mono ?_; clear hs; rintro e w1 ⟨⟨rfl, ht⟩⟩))
        go_roundw
        case rel =>
          refine ⟨⟨j + 1, va1, vn1, vc1, R, by omega, by go_num, ?_, ?_⟩⟩
          · rw [HT.out, HA.out.2]; simp
          · rw [HT.out, HA.out.1]
            exact TeAt.perm ht (HPB.out _)
        case measure => simp [intOf]; omega
      · have hA : actE1 tj a = escapeE tj a.inter a.byte := by unfold actE1; rw [if_neg (by omega), if_neg (by omega), if_pos hk]
        have hr : actR tj a = [] := by unfold actR; rw [if_neg (by omega)]
        have HA := Lib.hid (And.intro hA hr)
        have HK4 := Lib.hid hk
        rw [hk] at hv0
        clear hA hr hk
        go_wp2_with (first | (go_at_call 66; refine K32.ca (fun xw hs => ?_); have hs := hs.tail; refine (escape_any b sb1 cb1 gb1 gc1 xb1 hb1 hc1 pp pm1 po1 va1 vn1 vc1 tj a.inter a.byte _ xw hs HC1.out HX1.out OKJ.out AK.out.b0 AK.out.b1).mono ?_; clear hs; rintro e w1 ⟨⟨rfl, ht⟩⟩))
        go_roundw
        case rel =>
          refine ⟨⟨j + 1, va1, vn1, vc1, R, by omega, by go_num, ?_, ?_⟩⟩
          · rw [HT.out, HA.out.2]; simp
          · rw [HT.out, HA.out.1]
            exact TeAt.perm ht (HPB.out _)
        case measure => simp [intOf]; omega
      · have hA : actE1 tj a = csiE tj a := by unfold actE1; rw [if_neg (by omega), if_neg (by omega), if_neg (by omega), if_pos hk]
        have hr : actR tj a = csiR tj a := by unfold actR; rw [if_pos hk]
        have HA := Lib.hid (And.intro hA hr)
        have HK4 := Lib.hid hk
        rw [hk] at hv0
        clear hA hr hk
        go_wp2_with (first | (go_at_call 67; refine K32.ca (fun xw hs => ?_); have hs := hs.tail; refine (csi_4 b sb1 cb1 gb1 gc1 xb1 hb1 hc1 pp pm1 po1 va1 vn1 vc1 tj a (.slice nva a.nums.length nvc) R _ xw hs HC1.out HX1.out OKJ.out AK.out (by have := HRL.out; omega) HK4.out).mono ?_; clear hs; rintro e w1 ⟨⟨va2, vn2, vc2, rfl, ht⟩⟩))
        go_roundw
        case rel =>
          refine ⟨⟨j + 1, va2, vn2, vc2, R ++ csiR tj a, by omega, by go_num, ?_, ?_⟩⟩
          · rw [HT.out, HA.out.2]
          · rw [HT.out, HA.out.1]
            exact TeAt.perm ht (HPB.out _)
        case measure => simp [intOf]; omega
      · have hA : actE1 tj a = tj := by unfold actE1; rw [if_neg hk1, if_neg hk2, if_neg hk3, if_neg hk4]
        have hr : actR tj a = [] := by unfold actR; rw [if_neg hk4]
        have HA := Lib.hid (And.intro hA hr)
        clear hA hr
        go_wp2_with fail
        go_roundw
        case rel =>
          refine ⟨⟨j + 1, va1, vn1, vc1, R, by omega, by go_num, ?_, ?_⟩⟩
          · rw [HT.out, HA.out.2]; simp
          · rw [HT.out, HA.out.1]
            refine TeAt.perm (F := (.row (.slice va1 vn1 vc1) 5 1 (R).length ((R).map K14.u8) :: .row (.slice nva a.nums.length nvc) 3 1 a.nums.length (ints a.nums) :: (.row (.slice (some ⟨g, 0, none⟩) l.length nc) 118 7 l.length (actsV l) :: (actsR (l.eraseIdx j) ++ F)))) ⟨⟨sb1, cb1, gb1, gc1, xb1, hb1, hc1, pm1, po1, HC1.out, HX1.out, ?_⟩⟩ (HPB.out _)
            (with_reducible apply K30.sep_end)
            exact K32.fnd
            intro hs
            exact hs.tail
        case measure => simp [intOf]; omega
    · obtain rfl : j = l.length := by omega
      rw [List.take_length] at hR ht
      have hacs : ∀ q ∈ (l.map (·.1)), AcOk q := by
        intro q hq
        obtain ⟨p, hp, rfl⟩ := List.mem_map.1 hq
        exact HK.out p hp
      have hRL := actsE_len (l.map (·.1)) t OK0.out hacs
      rw [← hR, List.length_map] at hRL
      obtain ⟨⟨sb1, cb1, gb1, gc1, xb1, hb1, hc1, pm1, po1, hp1, hp2, hs⟩⟩ := ht
      obtain ⟨tj, htj⟩ : ∃ u, u = (actsE t (l.map (·.1))).2 := ⟨_, rfl⟩
      rw [← htj] at hs hp1 hp2
      have hs : Sep wr (.blk b (emQ tj.m (.pointer pp) pm1 po1 (.pointer (some ⟨sb1, 0, none⟩)) (.slice va1 vn1 vc1)) 108 :: gL cb1 gb1 gc1 tj.cg (gL xb1 hb1 hc1 tj.og (.blk sb1 (scells tj.s) 126 :: (.row (.slice va1 vn1 vc1) 5 1 (R).length ((R).map K14.u8) :: .row (.slice na l.length nc) 118 7 l.length (actsV l) :: (actsR l ++ F))))) := hs
      have hvn : vn1 = R.length := by
        have h1 := hs.hereRow (v := (.slice va1 vn1 vc1)) (t := 5) (s := 1) (n := R.length) (xs := R.map K14.u8) K32.rm
        obtain ⟨ad, c, e⟩ := E3.own_form h1
        cases e
        rfl
      subst hvn
      have hcv := conv_own (hs.hereRow (v := .slice va1 R.length vc1) (t := 5) (s := 1) (n := R.length) (xs := R.map K14.u8) K32.rm) (n := R.length) (l := R) rfl
      obtain ⟨hcE, hzE, hlE⟩ := hs.here (b := b) K32.rm
      have hcE33 := (hcE 33).trans (emV_33 ..)
      have HS := Lib.hid hs
      have HC1 := Lib.hid hp1
      have HX1 := Lib.hid hp2
      have HR := Lib.hid hR
      have HTJ := Lib.hid htj
      clear hs hp1 hp2 hR htj hcE hRL hacs
      go_wp2_with fail
      go_ret
      have hfin : (actsE t (l.map (·.1))).1 = R := HR.out.symm
      refine ⟨⟨by rw [hfin]; rfl, ?_⟩⟩
      rw [← HTJ.out]
      refine TeAt.sub (F := (.row (.slice va1 R.length vc1) 5 1 (R).length ((R).map K14.u8) :: .row (.slice na l.length nc) 118 7 l.length (actsV l) :: (actsR l ++ F))) ⟨⟨sb1, cb1, gb1, gc1, xb1, hb1, hc1, pm1, po1, HC1.out, HX1.out, ?_⟩⟩ ((((List.sublist_append_right (actsR l) F).cons _)).cons _)
      (with_reducible apply K30.sep_end)
      exact K32.fnd
      intro hs
      (try simp only [emV_sets] at hs)
      exact hs
end Go.Proofs.YtnjgnbdebkckfaaGreatDoor.T20
