/- T7 -/
import Derived.Test.YtnjgnbdebkckfaaGreatDoorA2
import Derived.Test.YtnjgnbdebkckfaaGreatDoorA19
import Derived.Lib.Hide
set_option linter.unusedVariables false
set_option linter.unusedSimpArgs false
set_option linter.unnecessarySimpa false
namespace Go.Proofs.YtnjgnbdebkckfaaGreatDoor.T7
set_option maxRecDepth 100000
open Go.RowKit K1 K3 K5 K11 K12 K14 K20 K21 K22 K25 K30 K31 M0 C1 G1 G2 G3 G4 G5 G6 G7 G8 ME MF S3 T1 T2 T3 T4 T5 T6
attribute [local go_sem] cell_pastA froz_pastA
structure MvP (b cb gb gc : Nat) (pv : Value) (pm po : Option Addr) (sv av : Value) (t : Te) (r : Option Te) (F : List Res) (e : Ending) (w' : World) : Prop where
  out : e = .returned (.bool r.isSome) ∧ Sep w' (.blk b (emQ ((r.getD t).m) pv pm po sv av) 108 :: gL cb gb gc (r.getD t).cg F)
theorem row_alt (t : Te) (k : Int) : (rowE t k).m.alt = t.m.alt := by unfold rowE; split <;> rfl
def moveL (t : Te) (k n m : Int) : Option Te := (moveE t k n m).map (·.setLate false)
set_option maxHeartbeats 4000000 in
theorem move_any (b cb gb gc : Nat) (pv : Value) (pm po : Option Addr) (sv av : Value) (t : Te) (k n m : Int) (F : List Res) (w : World) (hs : Sep w (.blk b (emQ t.m pv pm po sv av) 108 :: gL cb gb gc t.cg F)) (hcur : (if t.m.alt = true then po else pm) = some ⟨cb, 0, none⟩) (ok : TeOk t) (n1 : 1 ≤ n) (n9 : n ≤ 9999) (m1 : 1 ≤ m) (m9 : m ≤ 9999) : Calls Tryz.prog 84 #[.pointer (some ⟨b, 0, none⟩), .int .i64 k, .int .i64 n, .int .i64 m] w (MvP b cb gb gc pv pm po sv av  t (moveL t k n m) F) := by
  have HCR := Lib.hid (show (if (rowE t (n - 1)).m.alt = true then po else pm) = some ⟨cb, 0, none⟩ by rw [row_alt]; exact hcur)
  have OKR := Lib.hid (row_ok ok (k := n - 1) (by omega))
  have y0 := ok.cu.y0; have y1 := ok.cu.y1; have bt := ok.tb; have bt0 := ok.top; have bh := ok.bc; have h20 := ok.cg.h20; have yh := ok.yc; have h1 := ok.cg.h1; have x0 := ok.cu.x0; have x1 := ok.cu.x1; have w2 := ok.cg.w2; have w40 := ok.cg.w40; have xw := ok.xc
  have HCUR := Lib.hid hcur
  have HS := Lib.hid hs
  have OK := Lib.hid ok
  obtain ⟨hcE, hzE, hlE⟩ := hs.here (b := b) K32.rm
  have hcE0 := (hcE 0).trans (emV_0 ..); have hcE31 := (hcE 31).trans (emV_31 ..)
  clear hs ok hcur hcE
  by_cases hb : k = 65 ∨ k = 66 ∨ k = 67 ∨ k = 68 ∨ k = 69 ∨ k = 70 ∨ k = 71 ∨ k = 100 ∨ k = 72 ∨ k = 102
  · rcases hb with rfl | rfl | rfl | rfl | rfl | rfl | rfl | rfl | rfl | rfl
    · have e : moveL t 65 n m = some ((upE t n).setLate false) := by unfold moveL moveE; rfl
      rw [e]
      clear e
      go_enter Tryz.func84, Tryz.ntmps84
      go_wp2_with (first | (go_at_call 108; refine K32.ca (fun xw hs => ?_); (try simp only [emV_sets] at hs); have hs := hs.pick3 (r1 := .blk b (emQ t.m pv pm po sv av) 108) (r2 := .blk cb (gcells t.cg gb gc) 121) (r3 := .row (.slice (some ⟨gb, 0, none⟩) t.cg.c.length gc) 58 6 t.cg.c.length (t.cg.c.flatMap ceV)) K32.rm K32.rm K32.rm; refine (up_any b cb gb gc pv pm po sv av t n _ _ hs HCUR.out OK.out n1 n9).mono ?_; clear hs; rintro e w1 ⟨⟨rfl, hs⟩⟩; (try clear hcE0 hcE31 hzE hlE); obtain ⟨hcE0, hcE31, hzE, hlE⟩ := T1.f0_31 hs K32.rm; have HS := Lib.hid hs; clear hs))
      go_ret
      refine ⟨⟨rfl, ?_⟩⟩
      exact K32.e3
    · have e : moveL t 66 n m = some ((downE t n).setLate false) := by unfold moveL moveE; rfl
      rw [e]
      clear e
      go_enter Tryz.func84, Tryz.ntmps84
      go_wp2_with (first | (go_at_call 109; refine K32.ca (fun xw hs => ?_); (try simp only [emV_sets] at hs); have hs := hs.pick3 (r1 := .blk b (emQ t.m pv pm po sv av) 108) (r2 := .blk cb (gcells t.cg gb gc) 121) (r3 := .row (.slice (some ⟨gb, 0, none⟩) t.cg.c.length gc) 58 6 t.cg.c.length (t.cg.c.flatMap ceV)) K32.rm K32.rm K32.rm; refine (down_any b cb gb gc pv pm po sv av t n _ _ hs HCUR.out OK.out n1 n9).mono ?_; clear hs; rintro e w1 ⟨⟨rfl, hs⟩⟩; (try clear hcE0 hcE31 hzE hlE); obtain ⟨hcE0, hcE31, hzE, hlE⟩ := T1.f0_31 hs K32.rm; have HS := Lib.hid hs; clear hs))
      go_ret
      refine ⟨⟨rfl, ?_⟩⟩
      exact K32.e3
    · have e : moveL t 67 n m = some ((t.setX (t.m.cu.x + min n (t.cg.w - 1 - t.m.cu.x))).setLate false) := by unfold moveL moveE; rfl
      rw [e]
      clear e
      go_enter Tryz.func84, Tryz.ntmps84
      go_wp2_with (first | (refine K32.atW 8 (fun xw hs => ?_); (try simp only [emV_sets] at hs); (try clear hcE0 hcE31 hzE hlE); obtain ⟨hcE0, hcE31, hzE, hlE⟩ := T1.f0_31 hs K32.rm; have HS := Lib.hid hs; clear hs; refine K32.reg0 (w := xw) [] [] 21 ?_; simp only [numbered, List.take_succ_cons, List.take_zero, List.drop_succ_cons, List.drop_zero, List.take_nil, List.drop_nil, Nat.reduceAdd]; (iterate 21 (refine K32.zc ?_; apply Exists.intro; refine ⟨fun bs hok wx hwx hL => ?_, ?_⟩; (focus ((have hwx : Below _ _ wx := hwx; have hcx := cellA hwx; have hfx := frozA hwx; have hzx := hwx.size; (try simp at hzx)); unfold zAt; (try simp [go_sem, K32.ev, ↓IntWalk.iteOmega, *]); (try simp (disch := omega) only [K32.unw]); (try simp only [zUpon]); (first | (refine ⟨rfl, ?_⟩; go_at_call 51; refine (grid_c b _ t.m.alt pm po (some ⟨cb, 0, none⟩) wx ((EmAt.of HS.out K32.rm).low hwx) (by rfl) (by rfl) (by rfl) HCUR.out).mono ?_; rintro e wy ⟨rfl, hby⟩; exact ⟨_, rfl, rfl, hby⟩) | (refine ⟨rfl, ?_⟩; go_at_call 47; refine (G1.W_any cb gb gc t.cg wx ((GrAt.of HS.out K32.rm).low hwx)).mono ?_; rintro e wy ⟨rfl, hby⟩; exact ⟨_, rfl, rfl, hby⟩) | exact ⟨rfl, Below.refl _ _⟩))); (try go_simp))); refine wz_nil ?_; intro wq hbq hLq; clear hLq ; have hcwq := cellA hbq; have hfwq := frozA hbq; have hzwq := hbq.size; (try simp at hzwq); have hs := HS.out.below hbq; (try clear hcE0 hcE31 hzE hlE); obtain ⟨hcE0, hcE31, hzE, hlE⟩ := T1.f0_31 hs K32.rm; have HS := Lib.hid hs; clear hs hcwq hfwq hzwq hbq))
      go_ret
      refine ⟨⟨rfl, ?_⟩⟩
      exact K32.e3
    · have e : moveL t 68 n m = some ((t.setX (max (t.m.cu.x - n) 0)).setLate false) := by unfold moveL moveE; rfl
      rw [e]
      clear e
      go_enter Tryz.func84, Tryz.ntmps84
      go_wp2_with fail
      go_ret
      refine ⟨⟨rfl, ?_⟩⟩
      exact K32.e3
    · have e : moveL t 69 n m = some (((downE t n).setX 0).setLate false) := by unfold moveL moveE; rfl
      rw [e]
      clear e
      go_enter Tryz.func84, Tryz.ntmps84
      go_wp2_with (first | (go_at_call 109; refine K32.ca (fun xw hs => ?_); (try simp only [emV_sets] at hs); have hs := hs.pick3 (r1 := .blk b (emQ t.m pv pm po sv av) 108) (r2 := .blk cb (gcells t.cg gb gc) 121) (r3 := .row (.slice (some ⟨gb, 0, none⟩) t.cg.c.length gc) 58 6 t.cg.c.length (t.cg.c.flatMap ceV)) K32.rm K32.rm K32.rm; refine (down_any b cb gb gc pv pm po sv av t n _ _ hs HCUR.out OK.out n1 n9).mono ?_; clear hs; rintro e w1 ⟨⟨rfl, hs⟩⟩; (try clear hcE0 hcE31 hzE hlE); obtain ⟨hcE0, hcE31, hzE, hlE⟩ := T1.f0_31 hs K32.rm; have HS := Lib.hid hs; clear hs))
      go_ret
      refine ⟨⟨rfl, ?_⟩⟩
      exact K32.e3
    · have e : moveL t 70 n m = some (((upE t n).setX 0).setLate false) := by unfold moveL moveE; rfl
      rw [e]
      clear e
      go_enter Tryz.func84, Tryz.ntmps84
      go_wp2_with (first | (go_at_call 108; refine K32.ca (fun xw hs => ?_); (try simp only [emV_sets] at hs); have hs := hs.pick3 (r1 := .blk b (emQ t.m pv pm po sv av) 108) (r2 := .blk cb (gcells t.cg gb gc) 121) (r3 := .row (.slice (some ⟨gb, 0, none⟩) t.cg.c.length gc) 58 6 t.cg.c.length (t.cg.c.flatMap ceV)) K32.rm K32.rm K32.rm; refine (up_any b cb gb gc pv pm po sv av t n _ _ hs HCUR.out OK.out n1 n9).mono ?_; clear hs; rintro e w1 ⟨⟨rfl, hs⟩⟩; (try clear hcE0 hcE31 hzE hlE); obtain ⟨hcE0, hcE31, hzE, hlE⟩ := T1.f0_31 hs K32.rm; have HS := Lib.hid hs; clear hs))
      go_ret
      refine ⟨⟨rfl, ?_⟩⟩
      exact K32.e3
    · have e : moveL t 71 n m = some ((columnE t (n - 1)).setLate false) := by unfold moveL moveE; rfl
      rw [e]
      clear e
      go_enter Tryz.func84, Tryz.ntmps84
      go_wp2_with (first | (go_at_call 110; refine K32.ca (fun xw hs => ?_); (try simp only [emV_sets] at hs); have hs := hs.pick3 (r1 := .blk b (emQ t.m pv pm po sv av) 108) (r2 := .blk cb (gcells t.cg gb gc) 121) (r3 := .row (.slice (some ⟨gb, 0, none⟩) t.cg.c.length gc) 58 6 t.cg.c.length (t.cg.c.flatMap ceV)) K32.rm K32.rm K32.rm; refine (column_any b cb gb gc pv pm po sv av t (n - 1) _ _ hs HCUR.out OK.out (by omega) (by omega)).mono ?_; clear hs; rintro e w1 ⟨⟨rfl, hs⟩⟩; (try clear hcE0 hcE31 hzE hlE); obtain ⟨hcE0, hcE31, hzE, hlE⟩ := T1.f0_31 hs K32.rm; have HS := Lib.hid hs; clear hs))
      go_ret
      refine ⟨⟨rfl, ?_⟩⟩
      exact K32.e3
    · have e : moveL t 100 n m = some ((rowE t (n - 1)).setLate false) := by unfold moveL moveE; rfl
      rw [e]
      clear e
      go_enter Tryz.func84, Tryz.ntmps84
      go_wp2_with (first | (go_at_call 111; refine K32.ca (fun xw hs => ?_); (try simp only [emV_sets] at hs); have hs := hs.pick3 (r1 := .blk b (emQ t.m pv pm po sv av) 108) (r2 := .blk cb (gcells t.cg gb gc) 121) (r3 := .row (.slice (some ⟨gb, 0, none⟩) t.cg.c.length gc) 58 6 t.cg.c.length (t.cg.c.flatMap ceV)) K32.rm K32.rm K32.rm; refine (row_any b cb gb gc pv pm po sv av t (n - 1) _ _ hs HCUR.out OK.out (by omega) (by omega)).mono ?_; clear hs; rintro e w1 ⟨⟨rfl, hs⟩⟩; (try clear hcE0 hcE31 hzE hlE); obtain ⟨hcE0, hcE31, hzE, hlE⟩ := T1.f0_31 hs K32.rm; have HS := Lib.hid hs; clear hs))
      go_ret
      refine ⟨⟨rfl, ?_⟩⟩
      exact K32.e3
    · have e : moveL t 72 n m = some ((columnE (rowE t (n - 1)) (m - 1)).setLate false) := by unfold moveL moveE; rfl
      rw [e]
      clear e
      go_enter Tryz.func84, Tryz.ntmps84
      go_wp2_with (first | (go_at_call 111; refine K32.ca (fun xw hs => ?_); (try simp only [emV_sets] at hs); have hs := hs.pick3 (r1 := .blk b (emQ t.m pv pm po sv av) 108) (r2 := .blk cb (gcells t.cg gb gc) 121) (r3 := .row (.slice (some ⟨gb, 0, none⟩) t.cg.c.length gc) 58 6 t.cg.c.length (t.cg.c.flatMap ceV)) K32.rm K32.rm K32.rm; refine (row_any b cb gb gc pv pm po sv av t (n - 1) _ _ hs HCUR.out OK.out (by omega) (by omega)).mono ?_; clear hs; rintro e w1 ⟨⟨rfl, hs⟩⟩; (try clear hcE0 hcE31 hzE hlE); obtain ⟨hcE0, hcE31, hzE, hlE⟩ := T1.f0_31 hs K32.rm; have HS := Lib.hid hs; clear hs) | (go_at_call 110; refine K32.ca (fun xw hs => ?_); (try simp only [emV_sets] at hs); have hs := hs.pick3 (r1 := .blk b (emQ ((rowE t (n - 1)).m) pv pm po sv av) 108) (r2 := .blk cb (gcells (rowE t (n - 1)).cg gb gc) 121) (r3 := .row (.slice (some ⟨gb, 0, none⟩) (rowE t (n - 1)).cg.c.length gc) 58 6 (rowE t (n - 1)).cg.c.length ((rowE t (n - 1)).cg.c.flatMap ceV)) K32.rm K32.rm K32.rm; refine (column_any b cb gb gc pv pm po sv av (rowE t (n - 1)) (m - 1) _ _ hs HCR.out OKR.out (by omega) (by omega)).mono ?_; clear hs; rintro e w1 ⟨⟨rfl, hs⟩⟩; (try clear hcE0 hcE31 hzE hlE); obtain ⟨hcE0, hcE31, hzE, hlE⟩ := T1.f0_31 hs K32.rm; have HS := Lib.hid hs; clear hs))
      go_ret
      refine ⟨⟨rfl, ?_⟩⟩
      exact K32.e3
    · have e : moveL t 102 n m = some ((columnE (rowE t (n - 1)) (m - 1)).setLate false) := by unfold moveL moveE; rfl
      rw [e]
      clear e
      go_enter Tryz.func84, Tryz.ntmps84
      go_wp2_with (first | (go_at_call 111; refine K32.ca (fun xw hs => ?_); (try simp only [emV_sets] at hs); have hs := hs.pick3 (r1 := .blk b (emQ t.m pv pm po sv av) 108) (r2 := .blk cb (gcells t.cg gb gc) 121) (r3 := .row (.slice (some ⟨gb, 0, none⟩) t.cg.c.length gc) 58 6 t.cg.c.length (t.cg.c.flatMap ceV)) K32.rm K32.rm K32.rm; refine (row_any b cb gb gc pv pm po sv av t (n - 1) _ _ hs HCUR.out OK.out (by omega) (by omega)).mono ?_; clear hs; rintro e w1 ⟨⟨rfl, hs⟩⟩; (try clear hcE0 hcE31 hzE hlE); obtain ⟨hcE0, hcE31, hzE, hlE⟩ := T1.f0_31 hs K32.rm; have HS := Lib.hid hs; clear hs) | (go_at_call 110; refine K32.ca (fun xw hs => ?_); (try simp only [emV_sets] at hs); have hs := hs.pick3 (r1 := .blk b (emQ ((rowE t (n - 1)).m) pv pm po sv av) 108) (r2 := .blk cb (gcells (rowE t (n - 1)).cg gb gc) 121) (r3 := .row (.slice (some ⟨gb, 0, none⟩) (rowE t (n - 1)).cg.c.length gc) 58 6 (rowE t (n - 1)).cg.c.length ((rowE t (n - 1)).cg.c.flatMap ceV)) K32.rm K32.rm K32.rm; refine (column_any b cb gb gc pv pm po sv av (rowE t (n - 1)) (m - 1) _ _ hs HCR.out OKR.out (by omega) (by omega)).mono ?_; clear hs; rintro e w1 ⟨⟨rfl, hs⟩⟩; (try clear hcE0 hcE31 hzE hlE); obtain ⟨hcE0, hcE31, hzE, hlE⟩ := T1.f0_31 hs K32.rm; have HS := Lib.hid hs; clear hs))
      go_ret
      refine ⟨⟨rfl, ?_⟩⟩
      exact K32.e3
  · have e : moveL t k n m = none := by
      unfold moveL moveE
      rw [if_neg (by omega), if_neg (by omega), if_neg (by omega), if_neg (by omega), if_neg (by omega), if_neg (by omega), if_neg (by omega), if_neg (by omega), if_neg (by omega)]
      rfl
    rw [e]
    have hk65 : k ≠ 65 := by omega
    have hk66 : k ≠ 66 := by omega
    have hk67 : k ≠ 67 := by omega
    have hk68 : k ≠ 68 := by omega
    have hk69 : k ≠ 69 := by omega
    have hk70 : k ≠ 70 := by omega
    have hk71 : k ≠ 71 := by omega
    have hk100 : k ≠ 100 := by omega
    have hk72 : k ≠ 72 := by omega
    have hk102 : k ≠ 102 := by omega
    clear e hb
    go_enter Tryz.func84, Tryz.ntmps84
    go_wp2_with fail
    go_ret
    refine ⟨⟨rfl, ?_⟩⟩
    exact K32.e3
theorem fillL_m (t : Te) (a b : Int) : ((fillE t a b).setLate false).m = { t.m with late := false } := by show { (fillE t a b).m with late := false } = _; unfold fillE; rw [setCg_m]
theorem fillL_cg (t : Te) (a b : Int) : ((fillE t a b).setLate false).cg = fillG t.cg a b (blankC t.m.cu.pen) := setCg_cg _ _
set_option maxHeartbeats 4000000 in
theorem erase_any (b cb gb gc : Nat) (pv : Value) (pm po : Option Addr) (sv av : Value) (t : Te) (k p q : Int) (F : List Res) (w : World) (hs : Sep w (.blk b (emQ t.m pv pm po sv av) 108 :: gL cb gb gc t.cg F)) (hcur : (if t.m.alt = true then po else pm) = some ⟨cb, 0, none⟩) (ok : TeOk t) (p0 : 0 ≤ p) (p1 : p ≤ 10000) (q0 : 0 ≤ q) (q1 : q ≤ 10000) : Calls Tryz.prog 113 #[.pointer (some ⟨b, 0, none⟩), .int .i64 k, .int .i64 p, .int .i64 q] w (EmP b cb gb gc pv pm po sv av (eraseE t k p q).m (eraseE t k p q).cg F) := by
  have OKG := Lib.hid ok.cg
  obtain ⟨z1, z2, z3⟩ := ok.cg.mul (y := t.m.cu.y) ok.cu.y0 (by have := ok.yc; omega)
  have y0 := ok.cu.y0; have y1 := ok.cu.y1; have bt := ok.tb; have bt0 := ok.top; have bh := ok.bc; have h20 := ok.cg.h20; have yh := ok.yc; have h1 := ok.cg.h1; have x0 := ok.cu.x0; have x1 := ok.cu.x1; have w2 := ok.cg.w2; have w40 := ok.cg.w40; have xw := ok.xc
  have HCUR := Lib.hid hcur
  have HS := Lib.hid hs
  have OK := Lib.hid ok
  obtain ⟨hcE, hzE, hlE⟩ := hs.here (b := b) K32.rm
  have hcE0 := (hcE 0).trans (emV_0 ..); have hcE1 := (hcE 1).trans (emV_1 ..); have hcE31 := (hcE 31).trans (emV_31 ..)
  clear hs ok hcur hcE
  have hk : k = -1 ∨ k = 0 ∨ k = 1 ∨ k = 2 ∨ (k ≠ -1 ∧ k ≠ 0 ∧ k ≠ 1 ∧ k ≠ 2) := by omega
  rcases hk with rfl | rfl | rfl | rfl | ⟨k1, k2, k3, k4⟩
  · have e : eraseE t (-1) p q = (fillE t (t.m.cu.y * t.cg.w + t.m.cu.x) q).setLate false := by unfold eraseE; rfl
    rw [e, fillL_m, fillL_cg]
    clear e
    go_enter Tryz.func113, Tryz.ntmps113
    go_wp2_with (first | (go_at_call 51; refine K32.ca (fun xw hs => ?_); (try simp only [emV_sets] at hs); have hC := (grid_c b _ t.m.alt pm po (some ⟨cb, 0, none⟩) xw (EmAt.of hs K32.rm) (by rfl) (by rfl) (by rfl) HCUR.out); (with_reducible refine hC.mono ?_); clear hC; rintro e w1 ⟨rfl, hb⟩; have hs := hs.below hb; clear hb; (try clear hcE0 hcE1 hcE31 hzE hlE); obtain ⟨hcE0, hcE1, hcE31, hzE, hlE⟩ := T1.f0_1_31 hs K32.rm; have HS := Lib.hid hs; clear hs) | (refine K32.atW 1 (fun xw hs => ?_); (try simp only [emV_sets] at hs); (try clear hcE0 hcE1 hcE31 hzE hlE); obtain ⟨hcE0, hcE1, hcE31, hzE, hlE⟩ := T1.f0_1_31 hs K32.rm; have HS := Lib.hid hs; clear hs; refine K32.reg0 (w := xw) [] [] 15 ?_; simp only [numbered, List.take_succ_cons, List.take_zero, List.drop_succ_cons, List.drop_zero, List.take_nil, List.drop_nil, Nat.reduceAdd]; (iterate 15 (refine K32.zc ?_; apply Exists.intro; refine ⟨fun bs hok wx hwx hL => ?_, ?_⟩; (focus ((have hwx : Below _ _ wx := hwx; have hcx := cellA hwx; have hfx := frozA hwx; have hzx := hwx.size; (try simp at hzx)); unfold zAt; (try simp [go_sem, K32.ev, ↓IntWalk.iteOmega, *]); (try simp (disch := omega) only [K32.unw]); (try simp only [zUpon]); (first | (refine ⟨rfl, ?_⟩; go_at_call 47; refine (G1.W_any cb gb gc t.cg wx ((GrAt.of HS.out K32.rm).low hwx)).mono ?_; rintro e wy ⟨rfl, hby⟩; exact ⟨_, rfl, rfl, hby⟩) | exact ⟨rfl, Below.refl _ _⟩))); (try go_simp))); refine wz_nil ?_; intro wq hbq hLq; clear hLq ; have hcwq := cellA hbq; have hfwq := frozA hbq; have hzwq := hbq.size; (try simp at hzwq); have hs := HS.out.below hbq; (try clear hcE0 hcE1 hcE31 hzE hlE); obtain ⟨hcE0, hcE1, hcE31, hzE, hlE⟩ := T1.f0_1_31 hs K32.rm; have HS := Lib.hid hs; clear hs hcwq hfwq hzwq hbq) | (go_at_call 80; refine K32.ca (fun xw hs => ?_); (try simp only [emV_sets] at hs); have hC := (blankE_c b _ t.m.cu.pen xw (EmAt.of hs K32.rm) (by rfl) (by rfl) (by rfl) (by rfl) (by rfl)); (with_reducible refine hC.mono ?_); clear hC; rintro e w1 ⟨rfl, hb⟩; have hs := hs.below hb; clear hb; (try clear hcE0 hcE1 hcE31 hzE hlE); obtain ⟨hcE0, hcE1, hcE31, hzE, hlE⟩ := T1.f0_1_31 hs K32.rm; have HS := Lib.hid hs; clear hs) | (go_at_call 61; refine K32.ca (fun xw hs => ?_); (try simp only [emV_sets] at hs); have hs := hs.pick2 (r1 := .blk cb (gcells t.cg gb gc) 121) (r2 := .row (.slice (some ⟨gb, 0, none⟩) t.cg.c.length gc) 58 6 t.cg.c.length (t.cg.c.flatMap ceV)) K32.rm K32.rm; refine (Fill_any cb gb gc t.cg (t.m.cu.y * t.cg.w + t.m.cu.x) q (blankC t.m.cu.pen) _ _ hs OKG.out).mono ?_; clear hs; rintro e w1 ⟨⟨rfl, hs⟩⟩; (try clear hcE0 hcE1 hcE31 hzE hlE); obtain ⟨hcE0, hcE1, hcE31, hzE, hlE⟩ := T1.f0_1_31 hs K32.rm; have HS := Lib.hid hs; clear hs))
    (first | go_end0 | refine bodyPost_ret (results_none rfl _ _ _) rfl ?_)
    refine ⟨⟨rfl, ?_⟩⟩
    exact K32.e3
  · have e : eraseE t (0) p q = (fillE t (t.m.cu.y * t.cg.w + t.m.cu.x) q).setLate false := by unfold eraseE; rfl
    rw [e, fillL_m, fillL_cg]
    clear e
    go_enter Tryz.func113, Tryz.ntmps113
    go_wp2_with (first | (go_at_call 51; refine K32.ca (fun xw hs => ?_); (try simp only [emV_sets] at hs); have hC := (grid_c b _ t.m.alt pm po (some ⟨cb, 0, none⟩) xw (EmAt.of hs K32.rm) (by rfl) (by rfl) (by rfl) HCUR.out); (with_reducible refine hC.mono ?_); clear hC; rintro e w1 ⟨rfl, hb⟩; have hs := hs.below hb; clear hb; (try clear hcE0 hcE1 hcE31 hzE hlE); obtain ⟨hcE0, hcE1, hcE31, hzE, hlE⟩ := T1.f0_1_31 hs K32.rm; have HS := Lib.hid hs; clear hs) | (refine K32.atW 1 (fun xw hs => ?_); (try simp only [emV_sets] at hs); (try clear hcE0 hcE1 hcE31 hzE hlE); obtain ⟨hcE0, hcE1, hcE31, hzE, hlE⟩ := T1.f0_1_31 hs K32.rm; have HS := Lib.hid hs; clear hs; refine K32.reg0 (w := xw) [] [] 15 ?_; simp only [numbered, List.take_succ_cons, List.take_zero, List.drop_succ_cons, List.drop_zero, List.take_nil, List.drop_nil, Nat.reduceAdd]; (iterate 15 (refine K32.zc ?_; apply Exists.intro; refine ⟨fun bs hok wx hwx hL => ?_, ?_⟩; (focus ((have hwx : Below _ _ wx := hwx; have hcx := cellA hwx; have hfx := frozA hwx; have hzx := hwx.size; (try simp at hzx)); unfold zAt; (try simp [go_sem, K32.ev, ↓IntWalk.iteOmega, *]); (try simp (disch := omega) only [K32.unw]); (try simp only [zUpon]); (first | (refine ⟨rfl, ?_⟩; go_at_call 47; refine (G1.W_any cb gb gc t.cg wx ((GrAt.of HS.out K32.rm).low hwx)).mono ?_; rintro e wy ⟨rfl, hby⟩; exact ⟨_, rfl, rfl, hby⟩) | exact ⟨rfl, Below.refl _ _⟩))); (try go_simp))); refine wz_nil ?_; intro wq hbq hLq; clear hLq ; have hcwq := cellA hbq; have hfwq := frozA hbq; have hzwq := hbq.size; (try simp at hzwq); have hs := HS.out.below hbq; (try clear hcE0 hcE1 hcE31 hzE hlE); obtain ⟨hcE0, hcE1, hcE31, hzE, hlE⟩ := T1.f0_1_31 hs K32.rm; have HS := Lib.hid hs; clear hs hcwq hfwq hzwq hbq) | (go_at_call 80; refine K32.ca (fun xw hs => ?_); (try simp only [emV_sets] at hs); have hC := (blankE_c b _ t.m.cu.pen xw (EmAt.of hs K32.rm) (by rfl) (by rfl) (by rfl) (by rfl) (by rfl)); (with_reducible refine hC.mono ?_); clear hC; rintro e w1 ⟨rfl, hb⟩; have hs := hs.below hb; clear hb; (try clear hcE0 hcE1 hcE31 hzE hlE); obtain ⟨hcE0, hcE1, hcE31, hzE, hlE⟩ := T1.f0_1_31 hs K32.rm; have HS := Lib.hid hs; clear hs) | (go_at_call 61; refine K32.ca (fun xw hs => ?_); (try simp only [emV_sets] at hs); have hs := hs.pick2 (r1 := .blk cb (gcells t.cg gb gc) 121) (r2 := .row (.slice (some ⟨gb, 0, none⟩) t.cg.c.length gc) 58 6 t.cg.c.length (t.cg.c.flatMap ceV)) K32.rm K32.rm; refine (Fill_any cb gb gc t.cg (t.m.cu.y * t.cg.w + t.m.cu.x) q (blankC t.m.cu.pen) _ _ hs OKG.out).mono ?_; clear hs; rintro e w1 ⟨⟨rfl, hs⟩⟩; (try clear hcE0 hcE1 hcE31 hzE hlE); obtain ⟨hcE0, hcE1, hcE31, hzE, hlE⟩ := T1.f0_1_31 hs K32.rm; have HS := Lib.hid hs; clear hs))
    (first | go_end0 | refine bodyPost_ret (results_none rfl _ _ _) rfl ?_)
    refine ⟨⟨rfl, ?_⟩⟩
    exact K32.e3
  · have e : eraseE t (1) p q = (fillE t p ((t.m.cu.y * t.cg.w + t.m.cu.x) + 1)).setLate false := by unfold eraseE; rfl
    rw [e, fillL_m, fillL_cg]
    clear e
    go_enter Tryz.func113, Tryz.ntmps113
    go_wp2_with (first | (go_at_call 51; refine K32.ca (fun xw hs => ?_); (try simp only [emV_sets] at hs); have hC := (grid_c b _ t.m.alt pm po (some ⟨cb, 0, none⟩) xw (EmAt.of hs K32.rm) (by rfl) (by rfl) (by rfl) HCUR.out); (with_reducible refine hC.mono ?_); clear hC; rintro e w1 ⟨rfl, hb⟩; have hs := hs.below hb; clear hb; (try clear hcE0 hcE1 hcE31 hzE hlE); obtain ⟨hcE0, hcE1, hcE31, hzE, hlE⟩ := T1.f0_1_31 hs K32.rm; have HS := Lib.hid hs; clear hs) | (refine K32.atW 1 (fun xw hs => ?_); (try simp only [emV_sets] at hs); (try clear hcE0 hcE1 hcE31 hzE hlE); obtain ⟨hcE0, hcE1, hcE31, hzE, hlE⟩ := T1.f0_1_31 hs K32.rm; have HS := Lib.hid hs; clear hs; refine K32.reg0 (w := xw) [] [] 15 ?_; simp only [numbered, List.take_succ_cons, List.take_zero, List.drop_succ_cons, List.drop_zero, List.take_nil, List.drop_nil, Nat.reduceAdd]; (iterate 15 (refine K32.zc ?_; apply Exists.intro; refine ⟨fun bs hok wx hwx hL => ?_, ?_⟩; (focus ((have hwx : Below _ _ wx := hwx; have hcx := cellA hwx; have hfx := frozA hwx; have hzx := hwx.size; (try simp at hzx)); unfold zAt; (try simp [go_sem, K32.ev, ↓IntWalk.iteOmega, *]); (try simp (disch := omega) only [K32.unw]); (try simp only [zUpon]); (first | (refine ⟨rfl, ?_⟩; go_at_call 47; refine (G1.W_any cb gb gc t.cg wx ((GrAt.of HS.out K32.rm).low hwx)).mono ?_; rintro e wy ⟨rfl, hby⟩; exact ⟨_, rfl, rfl, hby⟩) | exact ⟨rfl, Below.refl _ _⟩))); (try go_simp))); refine wz_nil ?_; intro wq hbq hLq; clear hLq ; have hcwq := cellA hbq; have hfwq := frozA hbq; have hzwq := hbq.size; (try simp at hzwq); have hs := HS.out.below hbq; (try clear hcE0 hcE1 hcE31 hzE hlE); obtain ⟨hcE0, hcE1, hcE31, hzE, hlE⟩ := T1.f0_1_31 hs K32.rm; have HS := Lib.hid hs; clear hs hcwq hfwq hzwq hbq) | (go_at_call 80; refine K32.ca (fun xw hs => ?_); (try simp only [emV_sets] at hs); have hC := (blankE_c b _ t.m.cu.pen xw (EmAt.of hs K32.rm) (by rfl) (by rfl) (by rfl) (by rfl) (by rfl)); (with_reducible refine hC.mono ?_); clear hC; rintro e w1 ⟨rfl, hb⟩; have hs := hs.below hb; clear hb; (try clear hcE0 hcE1 hcE31 hzE hlE); obtain ⟨hcE0, hcE1, hcE31, hzE, hlE⟩ := T1.f0_1_31 hs K32.rm; have HS := Lib.hid hs; clear hs) | (go_at_call 61; refine K32.ca (fun xw hs => ?_); (try simp only [emV_sets] at hs); have hs := hs.pick2 (r1 := .blk cb (gcells t.cg gb gc) 121) (r2 := .row (.slice (some ⟨gb, 0, none⟩) t.cg.c.length gc) 58 6 t.cg.c.length (t.cg.c.flatMap ceV)) K32.rm K32.rm; refine (Fill_any cb gb gc t.cg p ((t.m.cu.y * t.cg.w + t.m.cu.x) + 1) (blankC t.m.cu.pen) _ _ hs OKG.out).mono ?_; clear hs; rintro e w1 ⟨⟨rfl, hs⟩⟩; (try clear hcE0 hcE1 hcE31 hzE hlE); obtain ⟨hcE0, hcE1, hcE31, hzE, hlE⟩ := T1.f0_1_31 hs K32.rm; have HS := Lib.hid hs; clear hs))
    (first | go_end0 | refine bodyPost_ret (results_none rfl _ _ _) rfl ?_)
    refine ⟨⟨rfl, ?_⟩⟩
    exact K32.e3
  · have e : eraseE t (2) p q = (fillE t p q).setLate false := by unfold eraseE; rfl
    rw [e, fillL_m, fillL_cg]
    clear e
    go_enter Tryz.func113, Tryz.ntmps113
    go_wp2_with (first | (go_at_call 51; refine K32.ca (fun xw hs => ?_); (try simp only [emV_sets] at hs); have hC := (grid_c b _ t.m.alt pm po (some ⟨cb, 0, none⟩) xw (EmAt.of hs K32.rm) (by rfl) (by rfl) (by rfl) HCUR.out); (with_reducible refine hC.mono ?_); clear hC; rintro e w1 ⟨rfl, hb⟩; have hs := hs.below hb; clear hb; (try clear hcE0 hcE1 hcE31 hzE hlE); obtain ⟨hcE0, hcE1, hcE31, hzE, hlE⟩ := T1.f0_1_31 hs K32.rm; have HS := Lib.hid hs; clear hs) | (refine K32.atW 1 (fun xw hs => ?_); (try simp only [emV_sets] at hs); (try clear hcE0 hcE1 hcE31 hzE hlE); obtain ⟨hcE0, hcE1, hcE31, hzE, hlE⟩ := T1.f0_1_31 hs K32.rm; have HS := Lib.hid hs; clear hs; refine K32.reg0 (w := xw) [] [] 15 ?_; simp only [numbered, List.take_succ_cons, List.take_zero, List.drop_succ_cons, List.drop_zero, List.take_nil, List.drop_nil, Nat.reduceAdd]; (iterate 15 (refine K32.zc ?_; apply Exists.intro; refine ⟨fun bs hok wx hwx hL => ?_, ?_⟩; (focus ((have hwx : Below _ _ wx := hwx; have hcx := cellA hwx; have hfx := frozA hwx; have hzx := hwx.size; (try simp at hzx)); unfold zAt; (try simp [go_sem, K32.ev, ↓IntWalk.iteOmega, *]); (try simp (disch := omega) only [K32.unw]); (try simp only [zUpon]); (first | (refine ⟨rfl, ?_⟩; go_at_call 47; refine (G1.W_any cb gb gc t.cg wx ((GrAt.of HS.out K32.rm).low hwx)).mono ?_; rintro e wy ⟨rfl, hby⟩; exact ⟨_, rfl, rfl, hby⟩) | exact ⟨rfl, Below.refl _ _⟩))); (try go_simp))); refine wz_nil ?_; intro wq hbq hLq; clear hLq ; have hcwq := cellA hbq; have hfwq := frozA hbq; have hzwq := hbq.size; (try simp at hzwq); have hs := HS.out.below hbq; (try clear hcE0 hcE1 hcE31 hzE hlE); obtain ⟨hcE0, hcE1, hcE31, hzE, hlE⟩ := T1.f0_1_31 hs K32.rm; have HS := Lib.hid hs; clear hs hcwq hfwq hzwq hbq) | (go_at_call 80; refine K32.ca (fun xw hs => ?_); (try simp only [emV_sets] at hs); have hC := (blankE_c b _ t.m.cu.pen xw (EmAt.of hs K32.rm) (by rfl) (by rfl) (by rfl) (by rfl) (by rfl)); (with_reducible refine hC.mono ?_); clear hC; rintro e w1 ⟨rfl, hb⟩; have hs := hs.below hb; clear hb; (try clear hcE0 hcE1 hcE31 hzE hlE); obtain ⟨hcE0, hcE1, hcE31, hzE, hlE⟩ := T1.f0_1_31 hs K32.rm; have HS := Lib.hid hs; clear hs) | (go_at_call 61; refine K32.ca (fun xw hs => ?_); (try simp only [emV_sets] at hs); have hs := hs.pick2 (r1 := .blk cb (gcells t.cg gb gc) 121) (r2 := .row (.slice (some ⟨gb, 0, none⟩) t.cg.c.length gc) 58 6 t.cg.c.length (t.cg.c.flatMap ceV)) K32.rm K32.rm; refine (Fill_any cb gb gc t.cg p q (blankC t.m.cu.pen) _ _ hs OKG.out).mono ?_; clear hs; rintro e w1 ⟨⟨rfl, hs⟩⟩; (try clear hcE0 hcE1 hcE31 hzE hlE); obtain ⟨hcE0, hcE1, hcE31, hzE, hlE⟩ := T1.f0_1_31 hs K32.rm; have HS := Lib.hid hs; clear hs))
    (first | go_end0 | refine bodyPost_ret (results_none rfl _ _ _) rfl ?_)
    refine ⟨⟨rfl, ?_⟩⟩
    exact K32.e3
  · have e : eraseE t k p q = t := by unfold eraseE; rw [if_neg (by omega), if_neg k3, if_neg k4]
    rw [e]
    clear e
    go_enter Tryz.func113, Tryz.ntmps113
    go_wp2_with (first | (go_at_call 51; refine K32.ca (fun xw hs => ?_); (try simp only [emV_sets] at hs); have hC := (grid_c b _ t.m.alt pm po (some ⟨cb, 0, none⟩) xw (EmAt.of hs K32.rm) (by rfl) (by rfl) (by rfl) HCUR.out); (with_reducible refine hC.mono ?_); clear hC; rintro e w1 ⟨rfl, hb⟩; have hs := hs.below hb; clear hb; (try clear hcE0 hcE1 hcE31 hzE hlE); obtain ⟨hcE0, hcE1, hcE31, hzE, hlE⟩ := T1.f0_1_31 hs K32.rm; have HS := Lib.hid hs; clear hs) | (refine K32.atW 1 (fun xw hs => ?_); (try simp only [emV_sets] at hs); (try clear hcE0 hcE1 hcE31 hzE hlE); obtain ⟨hcE0, hcE1, hcE31, hzE, hlE⟩ := T1.f0_1_31 hs K32.rm; have HS := Lib.hid hs; clear hs; refine K32.reg0 (w := xw) [] [] 15 ?_; simp only [numbered, List.take_succ_cons, List.take_zero, List.drop_succ_cons, List.drop_zero, List.take_nil, List.drop_nil, Nat.reduceAdd]; (iterate 15 (refine K32.zc ?_; apply Exists.intro; refine ⟨fun bs hok wx hwx hL => ?_, ?_⟩; (focus ((have hwx : Below _ _ wx := hwx; have hcx := cellA hwx; have hfx := frozA hwx; have hzx := hwx.size; (try simp at hzx)); unfold zAt; (try simp [go_sem, K32.ev, ↓IntWalk.iteOmega, *]); (try simp (disch := omega) only [K32.unw]); (try simp only [zUpon]); (first | (refine ⟨rfl, ?_⟩; go_at_call 47; refine (G1.W_any cb gb gc t.cg wx ((GrAt.of HS.out K32.rm).low hwx)).mono ?_; rintro e wy ⟨rfl, hby⟩; exact ⟨_, rfl, rfl, hby⟩) | exact ⟨rfl, Below.refl _ _⟩))); (try go_simp))); refine wz_nil ?_; intro wq hbq hLq; clear hLq ; have hcwq := cellA hbq; have hfwq := frozA hbq; have hzwq := hbq.size; (try simp at hzwq); have hs := HS.out.below hbq; (try clear hcE0 hcE1 hcE31 hzE hlE); obtain ⟨hcE0, hcE1, hcE31, hzE, hlE⟩ := T1.f0_1_31 hs K32.rm; have HS := Lib.hid hs; clear hs hcwq hfwq hzwq hbq) | (go_at_call 80; refine K32.ca (fun xw hs => ?_); (try simp only [emV_sets] at hs); have hC := (blankE_c b _ t.m.cu.pen xw (EmAt.of hs K32.rm) (by rfl) (by rfl) (by rfl) (by rfl) (by rfl)); (with_reducible refine hC.mono ?_); clear hC; rintro e w1 ⟨rfl, hb⟩; have hs := hs.below hb; clear hb; (try clear hcE0 hcE1 hcE31 hzE hlE); obtain ⟨hcE0, hcE1, hcE31, hzE, hlE⟩ := T1.f0_1_31 hs K32.rm; have HS := Lib.hid hs; clear hs))
    (first | go_end0 | refine bodyPost_ret (results_none rfl _ _ _) rfl ?_)
    refine ⟨⟨rfl, ?_⟩⟩
    exact K32.e3
theorem rowsL_m (t : Te) (g : Gr) : (((t.setCg g).setX 0).setLate false).m = { t.m with late := false, cu := { t.m.cu with x := 0 } } := by
  show { (t.setCg g).m with late := false, cu := { (t.setCg g).m.cu with x := 0 } } = _
  rw [setCg_m]
theorem rowsL_cg (t : Te) (g : Gr) : (((t.setCg g).setX 0).setLate false).cg = g := setCg_cg _ _
set_option maxHeartbeats 4000000 in
theorem rows_out (b cb gb gc : Nat) (pv : Value) (pm po : Option Addr) (sv av : Value) (t : Te) (i : Bool) (n : Int) (F : List Res) (w : World) (hs : Sep w (.blk b (emQ t.m pv pm po sv av) 108 :: gL cb gb gc t.cg F)) (hcur : (if t.m.alt = true then po else pm) = some ⟨cb, 0, none⟩) (ok : TeOk t) (h : t.m.cu.y < t.m.top ∨ (t.m.top ≤ t.m.cu.y ∧ t.m.bottom ≤ t.m.cu.y)) : Calls Tryz.prog 114 #[.pointer (some ⟨b, 0, none⟩), .bool i, .int .i64 n] w (EmP b cb gb gc pv pm po sv av (t).m (t).cg F) := by
  have y0 := ok.cu.y0; have y1 := ok.cu.y1; have bt := ok.tb; have bt0 := ok.top; have bh := ok.bc; have h20 := ok.cg.h20; have yh := ok.yc; have h1 := ok.cg.h1; have x0 := ok.cu.x0; have x1 := ok.cu.x1; have w2 := ok.cg.w2; have w40 := ok.cg.w40; have xw := ok.xc
  have HCUR := Lib.hid hcur
  have HS := Lib.hid hs
  have OK := Lib.hid ok
  obtain ⟨hcE, hzE, hlE⟩ := hs.here (b := b) K32.rm
  have hcE0 := (hcE 0).trans (emV_0 ..); have hcE1 := (hcE 1).trans (emV_1 ..); have hcE26 := (hcE 26).trans (emV_26 ..); have hcE27 := (hcE 27).trans (emV_27 ..); have hcE31 := (hcE 31).trans (emV_31 ..)
  clear hs ok hcur hcE
  rcases h with h | ⟨h, h2⟩
  · go_enter Tryz.func114, Tryz.ntmps114
    go_wp2_with (first | (refine K32.atW 0 (fun xw hs => ?_); (try simp only [emV_sets] at hs); (try clear hcE0 hcE1 hcE26 hcE27 hcE31 hzE hlE); obtain ⟨hcE0, hcE1, hcE26, hcE27, hcE31, hzE, hlE⟩ := T1.f0_1_26_27_31 hs K32.rm; have HS := Lib.hid hs; clear hs; refine K32.reg0 (w := xw) [] [] 22 ?_; simp only [numbered, List.take_succ_cons, List.take_zero, List.drop_succ_cons, List.drop_zero, List.take_nil, List.drop_nil, Nat.reduceAdd]; (iterate 11 (refine K32.zd ?_; (try go_simp))); (iterate 10 (first | (refine wz_skip (by decide) ?_ ?_; (focus (go_simp; first | done | (simp [undef]; done))); (try go_simp)) | (refine K32.zd ?_; (try go_simp)))); (refine K32.zd ?_; (try go_simp)); refine wz_nil ?_; intro wq hbq hLq; clear hLq ; have hcwq := cellA hbq; have hfwq := frozA hbq; have hzwq := hbq.size; (try simp at hzwq); have hs := HS.out.below hbq; (try clear hcE0 hcE1 hcE26 hcE27 hcE31 hzE hlE); obtain ⟨hcE0, hcE1, hcE26, hcE27, hcE31, hzE, hlE⟩ := T1.f0_1_26_27_31 hs K32.rm; have HS := Lib.hid hs; clear hs hcwq hfwq hzwq hbq))
    (first | go_end0 | refine bodyPost_ret (results_none rfl _ _ _) rfl ?_)
    refine ⟨⟨rfl, ?_⟩⟩
    exact K32.e3
  · go_enter Tryz.func114, Tryz.ntmps114
    go_wp2_with (first | (refine K32.atW 0 (fun xw hs => ?_); (try simp only [emV_sets] at hs); (try clear hcE0 hcE1 hcE26 hcE27 hcE31 hzE hlE); obtain ⟨hcE0, hcE1, hcE26, hcE27, hcE31, hzE, hlE⟩ := T1.f0_1_26_27_31 hs K32.rm; have HS := Lib.hid hs; clear hs; refine K32.reg0 (w := xw) [] [] 22 ?_; simp only [numbered, List.take_succ_cons, List.take_zero, List.drop_succ_cons, List.drop_zero, List.take_nil, List.drop_nil, Nat.reduceAdd]; (iterate 11 (refine K32.zd ?_; (try go_simp))); (iterate 10 (first | (refine wz_skip (by decide) ?_ ?_; (focus (go_simp; first | done | (simp [undef]; done))); (try go_simp)) | (refine K32.zd ?_; (try go_simp)))); (refine K32.zd ?_; (try go_simp)); refine wz_nil ?_; intro wq hbq hLq; clear hLq ; have hcwq := cellA hbq; have hfwq := frozA hbq; have hzwq := hbq.size; (try simp at hzwq); have hs := HS.out.below hbq; (try clear hcE0 hcE1 hcE26 hcE27 hcE31 hzE hlE); obtain ⟨hcE0, hcE1, hcE26, hcE27, hcE31, hzE, hlE⟩ := T1.f0_1_26_27_31 hs K32.rm; have HS := Lib.hid hs; clear hs hcwq hfwq hzwq hbq))
    (first | go_end0 | refine bodyPost_ret (results_none rfl _ _ _) rfl ?_)
    refine ⟨⟨rfl, ?_⟩⟩
    exact K32.e3
set_option maxHeartbeats 4000000 in
theorem rows_in (b cb gb gc : Nat) (pv : Value) (pm po : Option Addr) (sv av : Value) (t : Te) (n : Int) (F : List Res) (w : World) (hs : Sep w (.blk b (emQ t.m pv pm po sv av) 108 :: gL cb gb gc t.cg F)) (hcur : (if t.m.alt = true then po else pm) = some ⟨cb, 0, none⟩) (ok : TeOk t) (h : t.m.top ≤ t.m.cu.y) (h2 : t.m.cu.y < t.m.bottom) : Calls Tryz.prog 114 #[.pointer (some ⟨b, 0, none⟩), .bool true, .int .i64 n] w (EmP b cb gb gc pv pm po sv av (((t.setCg (downG t.cg t.m.cu.y t.m.bottom n (blankC t.m.cu.pen))).setX 0).setLate false).m (((t.setCg (downG t.cg t.m.cu.y t.m.bottom n (blankC t.m.cu.pen))).setX 0).setLate false).cg F) := by
  have OKG := Lib.hid ok.cg
  rw [rowsL_m, rowsL_cg]
  have y0 := ok.cu.y0; have y1 := ok.cu.y1; have bt := ok.tb; have bt0 := ok.top; have bh := ok.bc; have h20 := ok.cg.h20; have yh := ok.yc; have h1 := ok.cg.h1; have x0 := ok.cu.x0; have x1 := ok.cu.x1; have w2 := ok.cg.w2; have w40 := ok.cg.w40; have xw := ok.xc
  have HCUR := Lib.hid hcur
  have HS := Lib.hid hs
  have OK := Lib.hid ok
  obtain ⟨hcE, hzE, hlE⟩ := hs.here (b := b) K32.rm
  have hcE0 := (hcE 0).trans (emV_0 ..); have hcE1 := (hcE 1).trans (emV_1 ..); have hcE26 := (hcE 26).trans (emV_26 ..); have hcE27 := (hcE 27).trans (emV_27 ..); have hcE31 := (hcE 31).trans (emV_31 ..)
  clear hs ok hcur hcE
  · go_enter Tryz.func114, Tryz.ntmps114
    go_wp2_with (first | (refine K32.atW 0 (fun xw hs => ?_); (try simp only [emV_sets] at hs); (try clear hcE0 hcE1 hcE26 hcE27 hcE31 hzE hlE); obtain ⟨hcE0, hcE1, hcE26, hcE27, hcE31, hzE, hlE⟩ := T1.f0_1_26_27_31 hs K32.rm; have HS := Lib.hid hs; clear hs; refine K32.reg0 (w := xw) [] [] 22 ?_; simp only [numbered, List.take_succ_cons, List.take_zero, List.drop_succ_cons, List.drop_zero, List.take_nil, List.drop_nil, Nat.reduceAdd]; (iterate 11 (refine K32.zd ?_; (try go_simp))); (iterate 10 (first | (refine wz_skip (by decide) ?_ ?_; (focus (go_simp; first | done | (simp [undef]; done))); (try go_simp)) | (refine K32.zd ?_; (try go_simp)))); (refine K32.zd ?_; (try go_simp)); refine wz_nil ?_; intro wq hbq hLq; clear hLq ; have hcwq := cellA hbq; have hfwq := frozA hbq; have hzwq := hbq.size; (try simp at hzwq); have hs := HS.out.below hbq; (try clear hcE0 hcE1 hcE26 hcE27 hcE31 hzE hlE); obtain ⟨hcE0, hcE1, hcE26, hcE27, hcE31, hzE, hlE⟩ := T1.f0_1_26_27_31 hs K32.rm; have HS := Lib.hid hs; clear hs hcwq hfwq hzwq hbq) | (refine K32.atW 2 (fun xw hs => ?_); (try simp only [emV_sets] at hs); (try clear hcE0 hcE1 hcE26 hcE27 hcE31 hzE hlE); obtain ⟨hcE0, hcE1, hcE26, hcE27, hcE31, hzE, hlE⟩ := T1.f0_1_26_27_31 hs K32.rm; have HS := Lib.hid hs; clear hs; refine K32.reg0 (w := xw) [] [] 14 ?_; simp only [numbered, List.take_succ_cons, List.take_zero, List.drop_succ_cons, List.drop_zero, List.take_nil, List.drop_nil, Nat.reduceAdd]; (iterate 14 (refine K32.zc ?_; apply Exists.intro; refine ⟨fun bs hok wx hwx hL => ?_, ?_⟩; (focus ((have hwx : Below _ _ wx := hwx; have hcx := cellA hwx; have hfx := frozA hwx; have hzx := hwx.size; (try simp at hzx)); unfold zAt; (try simp [go_sem, K32.ev, ↓IntWalk.iteOmega, *]); (try simp (disch := omega) only [K32.unw]); (try simp only [zUpon]); (first | (refine ⟨rfl, ?_⟩; go_at_call 51; refine (grid_c b _ t.m.alt pm po (some ⟨cb, 0, none⟩) wx ((EmAt.of HS.out K32.rm).low hwx) (by rfl) (by rfl) (by rfl) HCUR.out).mono ?_; rintro e wy ⟨rfl, hby⟩; exact ⟨_, rfl, rfl, hby⟩) | (refine ⟨rfl, ?_⟩; go_at_call 80; refine (blankE_c b _ t.m.cu.pen wx ((EmAt.of HS.out K32.rm).low hwx) (by rfl) (by rfl) (by rfl) (by rfl) (by rfl)).mono ?_; rintro e wy ⟨rfl, hby⟩; exact ⟨_, rfl, rfl, hby⟩) | exact ⟨rfl, Below.refl _ _⟩))); (try go_simp))); refine wz_nil ?_; intro wq hbq hLq; clear hLq ; have hcwq := cellA hbq; have hfwq := frozA hbq; have hzwq := hbq.size; (try simp at hzwq); have hs := HS.out.below hbq; (try clear hcE0 hcE1 hcE26 hcE27 hcE31 hzE hlE); obtain ⟨hcE0, hcE1, hcE26, hcE27, hcE31, hzE, hlE⟩ := T1.f0_1_26_27_31 hs K32.rm; have HS := Lib.hid hs; clear hs hcwq hfwq hzwq hbq) | (go_at_call 116; refine K32.ca (fun xw hs => ?_); (try simp only [emV_sets] at hs); have hs := hs.pick2 (r1 := .blk cb (gcells t.cg gb gc) 121) (r2 := .row (.slice (some ⟨gb, 0, none⟩) t.cg.c.length gc) 58 6 t.cg.c.length (t.cg.c.flatMap ceV)) K32.rm K32.rm; refine (Down_any cb gb gc t.cg t.m.cu.y t.m.bottom n (blankC t.m.cu.pen) _ _ hs OKG.out).mono ?_; clear hs; rintro e w1 ⟨⟨rfl, hs⟩⟩; (try clear hcE0 hcE1 hcE26 hcE27 hcE31 hzE hlE); obtain ⟨hcE0, hcE1, hcE26, hcE27, hcE31, hzE, hlE⟩ := T1.f0_1_26_27_31 hs K32.rm; have HS := Lib.hid hs; clear hs))
    (first | go_end0 | refine bodyPost_ret (results_none rfl _ _ _) rfl ?_)
    refine ⟨⟨rfl, ?_⟩⟩
    exact K32.e3
set_option maxHeartbeats 4000000 in
theorem rows_cut (b cb gb gc : Nat) (pv : Value) (pm po : Option Addr) (sv av : Value) (t : Te) (n : Int) (F : List Res) (w : World) (hs : Sep w (.blk b (emQ t.m pv pm po sv av) 108 :: gL cb gb gc t.cg F)) (hcur : (if t.m.alt = true then po else pm) = some ⟨cb, 0, none⟩) (ok : TeOk t) (h : t.m.top ≤ t.m.cu.y) (h2 : t.m.cu.y < t.m.bottom) : Calls Tryz.prog 114 #[.pointer (some ⟨b, 0, none⟩), .bool false, .int .i64 n] w (EmP b cb gb gc pv pm po sv av (((t.setCg (upG t.cg t.m.cu.y t.m.bottom n (blankC t.m.cu.pen))).setX 0).setLate false).m (((t.setCg (upG t.cg t.m.cu.y t.m.bottom n (blankC t.m.cu.pen))).setX 0).setLate false).cg F) := by
  have OKG := Lib.hid ok.cg
  rw [rowsL_m, rowsL_cg]
  have y0 := ok.cu.y0; have y1 := ok.cu.y1; have bt := ok.tb; have bt0 := ok.top; have bh := ok.bc; have h20 := ok.cg.h20; have yh := ok.yc; have h1 := ok.cg.h1; have x0 := ok.cu.x0; have x1 := ok.cu.x1; have w2 := ok.cg.w2; have w40 := ok.cg.w40; have xw := ok.xc
  have HCUR := Lib.hid hcur
  have HS := Lib.hid hs
  have OK := Lib.hid ok
  obtain ⟨hcE, hzE, hlE⟩ := hs.here (b := b) K32.rm
  have hcE0 := (hcE 0).trans (emV_0 ..); have hcE1 := (hcE 1).trans (emV_1 ..); have hcE26 := (hcE 26).trans (emV_26 ..); have hcE27 := (hcE 27).trans (emV_27 ..); have hcE31 := (hcE 31).trans (emV_31 ..)
  clear hs ok hcur hcE
  · go_enter Tryz.func114, Tryz.ntmps114
    go_wp2_with (first | (refine K32.atW 0 (fun xw hs => ?_); (try simp only [emV_sets] at hs); (try clear hcE0 hcE1 hcE26 hcE27 hcE31 hzE hlE); obtain ⟨hcE0, hcE1, hcE26, hcE27, hcE31, hzE, hlE⟩ := T1.f0_1_26_27_31 hs K32.rm; have HS := Lib.hid hs; clear hs; refine K32.reg0 (w := xw) [] [] 22 ?_; simp only [numbered, List.take_succ_cons, List.take_zero, List.drop_succ_cons, List.drop_zero, List.take_nil, List.drop_nil, Nat.reduceAdd]; (iterate 11 (refine K32.zd ?_; (try go_simp))); (iterate 10 (first | (refine wz_skip (by decide) ?_ ?_; (focus (go_simp; first | done | (simp [undef]; done))); (try go_simp)) | (refine K32.zd ?_; (try go_simp)))); (refine K32.zd ?_; (try go_simp)); refine wz_nil ?_; intro wq hbq hLq; clear hLq ; have hcwq := cellA hbq; have hfwq := frozA hbq; have hzwq := hbq.size; (try simp at hzwq); have hs := HS.out.below hbq; (try clear hcE0 hcE1 hcE26 hcE27 hcE31 hzE hlE); obtain ⟨hcE0, hcE1, hcE26, hcE27, hcE31, hzE, hlE⟩ := T1.f0_1_26_27_31 hs K32.rm; have HS := Lib.hid hs; clear hs hcwq hfwq hzwq hbq) | (refine K32.atW 3 (fun xw hs => ?_); (try simp only [emV_sets] at hs); (try clear hcE0 hcE1 hcE26 hcE27 hcE31 hzE hlE); obtain ⟨hcE0, hcE1, hcE26, hcE27, hcE31, hzE, hlE⟩ := T1.f0_1_26_27_31 hs K32.rm; have HS := Lib.hid hs; clear hs; refine K32.reg0 (w := xw) [] [] 14 ?_; simp only [numbered, List.take_succ_cons, List.take_zero, List.drop_succ_cons, List.drop_zero, List.take_nil, List.drop_nil, Nat.reduceAdd]; (iterate 14 (refine K32.zc ?_; apply Exists.intro; refine ⟨fun bs hok wx hwx hL => ?_, ?_⟩; (focus ((have hwx : Below _ _ wx := hwx; have hcx := cellA hwx; have hfx := frozA hwx; have hzx := hwx.size; (try simp at hzx)); unfold zAt; (try simp [go_sem, K32.ev, ↓IntWalk.iteOmega, *]); (try simp (disch := omega) only [K32.unw]); (try simp only [zUpon]); (first | (refine ⟨rfl, ?_⟩; go_at_call 51; refine (grid_c b _ t.m.alt pm po (some ⟨cb, 0, none⟩) wx ((EmAt.of HS.out K32.rm).low hwx) (by rfl) (by rfl) (by rfl) HCUR.out).mono ?_; rintro e wy ⟨rfl, hby⟩; exact ⟨_, rfl, rfl, hby⟩) | (refine ⟨rfl, ?_⟩; go_at_call 80; refine (blankE_c b _ t.m.cu.pen wx ((EmAt.of HS.out K32.rm).low hwx) (by rfl) (by rfl) (by rfl) (by rfl) (by rfl)).mono ?_; rintro e wy ⟨rfl, hby⟩; exact ⟨_, rfl, rfl, hby⟩) | exact ⟨rfl, Below.refl _ _⟩))); (try go_simp))); refine wz_nil ?_; intro wq hbq hLq; clear hLq ; have hcwq := cellA hbq; have hfwq := frozA hbq; have hzwq := hbq.size; (try simp at hzwq); have hs := HS.out.below hbq; (try clear hcE0 hcE1 hcE26 hcE27 hcE31 hzE hlE); obtain ⟨hcE0, hcE1, hcE26, hcE27, hcE31, hzE, hlE⟩ := T1.f0_1_26_27_31 hs K32.rm; have HS := Lib.hid hs; clear hs hcwq hfwq hzwq hbq) | (go_at_call 98; refine K32.ca (fun xw hs => ?_); (try simp only [emV_sets] at hs); have hs := hs.pick2 (r1 := .blk cb (gcells t.cg gb gc) 121) (r2 := .row (.slice (some ⟨gb, 0, none⟩) t.cg.c.length gc) 58 6 t.cg.c.length (t.cg.c.flatMap ceV)) K32.rm K32.rm; refine (Up_any cb gb gc t.cg t.m.cu.y t.m.bottom n (blankC t.m.cu.pen) _ _ hs OKG.out).mono ?_; clear hs; rintro e w1 ⟨⟨rfl, hs⟩⟩; (try clear hcE0 hcE1 hcE26 hcE27 hcE31 hzE hlE); obtain ⟨hcE0, hcE1, hcE26, hcE27, hcE31, hzE, hlE⟩ := T1.f0_1_26_27_31 hs K32.rm; have HS := Lib.hid hs; clear hs))
    (first | go_end0 | refine bodyPost_ret (results_none rfl _ _ _) rfl ?_)
    refine ⟨⟨rfl, ?_⟩⟩
    exact K32.e3
theorem rows_anyE (b cb gb gc : Nat) (pv : Value) (pm po : Option Addr) (sv av : Value) (t : Te) (i : Bool) (n : Int) (F : List Res) (w : World) (hs : Sep w (.blk b (emQ t.m pv pm po sv av) 108 :: gL cb gb gc t.cg F)) (hcur : (if t.m.alt = true then po else pm) = some ⟨cb, 0, none⟩) (ok : TeOk t) : Calls Tryz.prog 114 #[.pointer (some ⟨b, 0, none⟩), .bool i, .int .i64 n] w (EmP b cb gb gc pv pm po sv av (rowsE t i n).m (rowsE t i n).cg F) := by
  by_cases h : t.m.cu.y < t.m.top ∨ t.m.bottom ≤ t.m.cu.y
  · have e : rowsE t i n = t := by unfold rowsE; rw [if_pos h]
    rw [e]
    exact rows_out b cb gb gc pv pm po sv av t i n F w hs hcur ok (by omega)
  · cases i with
    | true =>
      have e : rowsE t true n = ((t.setCg (downG t.cg t.m.cu.y t.m.bottom n (blankC t.m.cu.pen))).setX 0).setLate false := by unfold rowsE; rw [if_neg h]; rfl
      rw [e]
      exact rows_in b cb gb gc pv pm po sv av t n F w hs hcur ok (by omega) (by omega)
    | false =>
      have e : rowsE t false n = ((t.setCg (upG t.cg t.m.cu.y t.m.bottom n (blankC t.m.cu.pen))).setX 0).setLate false := by unfold rowsE; rw [if_neg h]; rfl
      rw [e]
      exact rows_cut b cb gb gc pv pm po sv av t n F w hs hcur ok (by omega) (by omega)
end Go.Proofs.YtnjgnbdebkckfaaGreatDoor.T7
