/- the door, among the parts of memory -/
import Derived.Test.YtjlamnioknbcaaaDoorP3
import Derived.StillTailTactics
import Derived.Lib.Hide
namespace Go.Proofs.YtjlamnioknbcaaaDoor.P4
set_option linter.unusedVariables false
set_option linter.unusedSimpArgs false
set_option linter.unnecessarySimpa false
set_option maxRecDepth 100000
open Go.RowKit K1 K3 K5 K11 K12 K14 K20 K21 K22 K25 Y1 Y2 Y3 Y4 P1 P2 P3

attribute [local go_sem] cell_pastA froz_pastA
def doorS (cs : List Value) (off : Nat) (n : Int) : List Value := ((((cs.set (off + 1) (.int .i32 1)).set (off + 4) (.int .i64 n)).set (off + 3) (.int .i64 1)).set off (.int .u32 1)).set (off + 1) (.int .i32 0)
theorem _root_.Go.Proofs.YtjlamnioknbcaaaDoor.K20.Sep.set1 {w : World} {r : Res} {F : List Res} {b i : Nat} {cs : List Value} {t : TypeId} {v : Value} (h : Sep w (r :: .blk b cs t :: F)) : Sep (w.setCell ⟨b, i, none⟩ v) (r :: .blk b (cs.set i v) t :: F) := by
  simpa [ins, del] using h.setAt 1 (i := i) (v := v) rfl rfl
set_option maxRecDepth 100000 in
set_option maxHeartbeats 4000000 in
theorem open_sep {w : World} {b off : Nat} {n0 : Int} (h : DoorAt w b off false n0) (n : Int) (cs : List Value) (t : TypeId) (F : List Res) (hsp : Sep w (.blk b cs t :: F)) :
    Calls Tryd.prog 23 #[.pointer (some ⟨b, off, none⟩), .int .i64 n] w fun e w' => e = .returned (.bool true) ∧ Sep w' (.blk b (doorS cs off n) t :: F) := by
  have HSP := Lib.hid hsp
  clear hsp
  have hlt := h.lt
  obtain ⟨c0, c1, c3, c4, f0, f1, f3, f4⟩ := h
  simp only [Bool.false_eq_true, if_false] at c0 c3
  have hmf := mf
  go_enter Tryd.func23, Tryd.ntmps23
  go_wp2_with fail
  have hent := enter_any b off w.heap.size n n0 0 ((w.alloc (Obj.cells #[Value.pointer (some ⟨b, off, none⟩), Value.int .i64 n, Value.bool false] 86)).setCell ⟨b, off + 1, none⟩ (.int .i32 1)) (by omega)
    (by (first | (simp [go_sem, BigFrame.eval_const, BigFrame.eval_global, BigFrame.eval_func, ↓IntWalk.iteOmega, *]; done) | (simp [go_sem, BigFrame.eval_const, BigFrame.eval_global, BigFrame.eval_func, ↓IntWalk.iteOmega, *]; intros; omega) | (simp [go_sem, BigFrame.eval_const, BigFrame.eval_global, BigFrame.eval_func, ↓IntWalk.iteOmega, *]; intros; exfalso; omega))) (by (first | (simp [go_sem, BigFrame.eval_const, BigFrame.eval_global, BigFrame.eval_func, ↓IntWalk.iteOmega, *]; done) | (simp [go_sem, BigFrame.eval_const, BigFrame.eval_global, BigFrame.eval_func, ↓IntWalk.iteOmega, *]; intros; omega) | (simp [go_sem, BigFrame.eval_const, BigFrame.eval_global, BigFrame.eval_func, ↓IntWalk.iteOmega, *]; intros; exfalso; omega))) (by (first | (simp [go_sem, BigFrame.eval_const, BigFrame.eval_global, BigFrame.eval_func, ↓IntWalk.iteOmega, *]; done) | (simp [go_sem, BigFrame.eval_const, BigFrame.eval_global, BigFrame.eval_func, ↓IntWalk.iteOmega, *]; intros; omega) | (simp [go_sem, BigFrame.eval_const, BigFrame.eval_global, BigFrame.eval_func, ↓IntWalk.iteOmega, *]; intros; exfalso; omega))) (by (first | (simp [go_sem, BigFrame.eval_const, BigFrame.eval_global, BigFrame.eval_func, ↓IntWalk.iteOmega, *]; done) | (simp [go_sem, BigFrame.eval_const, BigFrame.eval_global, BigFrame.eval_func, ↓IntWalk.iteOmega, *]; intros; omega) | (simp [go_sem, BigFrame.eval_const, BigFrame.eval_global, BigFrame.eval_func, ↓IntWalk.iteOmega, *]; intros; exfalso; omega))) (by (first | (simp [go_sem, BigFrame.eval_const, BigFrame.eval_global, BigFrame.eval_func, ↓IntWalk.iteOmega, *]; done) | (simp [go_sem, BigFrame.eval_const, BigFrame.eval_global, BigFrame.eval_func, ↓IntWalk.iteOmega, *]; intros; omega) | (simp [go_sem, BigFrame.eval_const, BigFrame.eval_global, BigFrame.eval_func, ↓IntWalk.iteOmega, *]; intros; exfalso; omega))) (by (first | (simp [go_sem, BigFrame.eval_const, BigFrame.eval_global, BigFrame.eval_func, ↓IntWalk.iteOmega, *]; done) | (simp [go_sem, BigFrame.eval_const, BigFrame.eval_global, BigFrame.eval_func, ↓IntWalk.iteOmega, *]; intros; omega) | (simp [go_sem, BigFrame.eval_const, BigFrame.eval_global, BigFrame.eval_func, ↓IntWalk.iteOmega, *]; intros; exfalso; omega))) (by (first | (simp [go_sem, BigFrame.eval_const, BigFrame.eval_global, BigFrame.eval_func, ↓IntWalk.iteOmega, *]; done) | (simp [go_sem, BigFrame.eval_const, BigFrame.eval_global, BigFrame.eval_func, ↓IntWalk.iteOmega, *]; intros; omega) | (simp [go_sem, BigFrame.eval_const, BigFrame.eval_global, BigFrame.eval_func, ↓IntWalk.iteOmega, *]; intros; exfalso; omega))) (by (first | (simp [go_sem, BigFrame.eval_const, BigFrame.eval_global, BigFrame.eval_func, ↓IntWalk.iteOmega, *]; done) | (simp [go_sem, BigFrame.eval_const, BigFrame.eval_global, BigFrame.eval_func, ↓IntWalk.iteOmega, *]; intros; omega) | (simp [go_sem, BigFrame.eval_const, BigFrame.eval_global, BigFrame.eval_func, ↓IntWalk.iteOmega, *]; intros; exfalso; omega)))
  refine (do_enter b off #[.pointer (some ⟨w.heap.size, 0, none⟩)] _ _ (by (first | (simp [go_sem, BigFrame.eval_const, BigFrame.eval_global, BigFrame.eval_func, ↓IntWalk.iteOmega, *]; done) | (simp [go_sem, BigFrame.eval_const, BigFrame.eval_global, BigFrame.eval_func, ↓IntWalk.iteOmega, *]; intros; omega) | (simp [go_sem, BigFrame.eval_const, BigFrame.eval_global, BigFrame.eval_func, ↓IntWalk.iteOmega, *]; intros; exfalso; omega))) (by (first | (simp [go_sem, BigFrame.eval_const, BigFrame.eval_global, BigFrame.eval_func, ↓IntWalk.iteOmega, *]; done) | (simp [go_sem, BigFrame.eval_const, BigFrame.eval_global, BigFrame.eval_func, ↓IntWalk.iteOmega, *]; intros; omega) | (simp [go_sem, BigFrame.eval_const, BigFrame.eval_global, BigFrame.eval_func, ↓IntWalk.iteOmega, *]; intros; exfalso; omega))) (by (first | (simp [go_sem, BigFrame.eval_const, BigFrame.eval_global, BigFrame.eval_func, ↓IntWalk.iteOmega, *]; done) | (simp [go_sem, BigFrame.eval_const, BigFrame.eval_global, BigFrame.eval_func, ↓IntWalk.iteOmega, *]; intros; omega) | (simp [go_sem, BigFrame.eval_const, BigFrame.eval_global, BigFrame.eval_func, ↓IntWalk.iteOmega, *]; intros; exfalso; omega))) (by (first | (simp [go_sem, BigFrame.eval_const, BigFrame.eval_global, BigFrame.eval_func, ↓IntWalk.iteOmega, *]; done) | (simp [go_sem, BigFrame.eval_const, BigFrame.eval_global, BigFrame.eval_func, ↓IntWalk.iteOmega, *]; intros; omega) | (simp [go_sem, BigFrame.eval_const, BigFrame.eval_global, BigFrame.eval_func, ↓IntWalk.iteOmega, *]; intros; exfalso; omega))) hent ?k0).mono ?_
  case k0 =>
    rintro w3 rfl
    refine ⟨by (first | (simp [go_sem, BigFrame.eval_const, BigFrame.eval_global, BigFrame.eval_func, ↓IntWalk.iteOmega, *]; done) | (simp [go_sem, BigFrame.eval_const, BigFrame.eval_global, BigFrame.eval_func, ↓IntWalk.iteOmega, *]; intros; omega) | (simp [go_sem, BigFrame.eval_const, BigFrame.eval_global, BigFrame.eval_func, ↓IntWalk.iteOmega, *]; intros; exfalso; omega)), by (first | (simp [go_sem, BigFrame.eval_const, BigFrame.eval_global, BigFrame.eval_func, ↓IntWalk.iteOmega, *]; done) | (simp [go_sem, BigFrame.eval_const, BigFrame.eval_global, BigFrame.eval_func, ↓IntWalk.iteOmega, *]; intros; omega) | (simp [go_sem, BigFrame.eval_const, BigFrame.eval_global, BigFrame.eval_func, ↓IntWalk.iteOmega, *]; intros; exfalso; omega)), by (first | (simp [go_sem, BigFrame.eval_const, BigFrame.eval_global, BigFrame.eval_func, ↓IntWalk.iteOmega, *]; done) | (simp [go_sem, BigFrame.eval_const, BigFrame.eval_global, BigFrame.eval_func, ↓IntWalk.iteOmega, *]; intros; omega) | (simp [go_sem, BigFrame.eval_const, BigFrame.eval_global, BigFrame.eval_func, ↓IntWalk.iteOmega, *]; intros; exfalso; omega)), by (first | (simp [go_sem, BigFrame.eval_const, BigFrame.eval_global, BigFrame.eval_func, ↓IntWalk.iteOmega, *]; done) | (simp [go_sem, BigFrame.eval_const, BigFrame.eval_global, BigFrame.eval_func, ↓IntWalk.iteOmega, *]; intros; omega) | (simp [go_sem, BigFrame.eval_const, BigFrame.eval_global, BigFrame.eval_func, ↓IntWalk.iteOmega, *]; intros; exfalso; omega))⟩
  clear hent
  rintro e w2 ⟨rfl, w3, rfl, rfl⟩
  have hk2 : (((((((w.alloc (Obj.cells #[Value.pointer (some ⟨b, off, none⟩), Value.int .i64 n, Value.bool false] 86)).setCell ⟨b, off + 1, none⟩ (.int .i32 1)).setCell ⟨w.heap.size, 2, none⟩ (.bool true)).drew.setCell ⟨b, off + 4, none⟩ (.int .i64 n)).setCell ⟨b, off + 3, none⟩ (.int .i64 1)).drew.setCell ⟨b, off, none⟩ (.int .u32 1) |>.setCell ⟨b, off + 1, none⟩ (.int .i32 0))).cell? ⟨w.heap.size, 2, none⟩ = some (.bool true) := by (first | (simp [go_sem, BigFrame.eval_const, BigFrame.eval_global, BigFrame.eval_func, ↓IntWalk.iteOmega, *]; done) | (simp [go_sem, BigFrame.eval_const, BigFrame.eval_global, BigFrame.eval_func, ↓IntWalk.iteOmega, *]; intros; omega) | (simp [go_sem, BigFrame.eval_const, BigFrame.eval_global, BigFrame.eval_func, ↓IntWalk.iteOmega, *]; intros; exfalso; omega))
  have h1 : Sep (w.alloc (Obj.cells #[Value.pointer (some ⟨b, off, none⟩), Value.int .i64 n, Value.bool false] 86)) (.blk w.heap.size [Value.pointer (some ⟨b, off, none⟩), Value.int .i64 n, Value.bool false] 86 :: .blk b cs t :: F) := HSP.out.alloc rfl rfl
  have h2 : Sep _ (.blk w.heap.size [Value.pointer (some ⟨b, off, none⟩), Value.int .i64 n, Value.bool false] 86 :: .blk b (cs.set (off + 1) (.int .i32 1)) t :: F) := h1.set1 (i := off + 1) (v := .int .i32 1)
  have h3 : Sep _ (.blk w.heap.size [Value.pointer (some ⟨b, off, none⟩), Value.int .i64 n, Value.bool true] 86 :: .blk b (cs.set (off + 1) (.int .i32 1)) t :: F) := (h2.set (i := 2) (v := .bool true) rfl).drew
  have h4 : Sep _ (.blk w.heap.size [Value.pointer (some ⟨b, off, none⟩), Value.int .i64 n, Value.bool true] 86 :: .blk b ((cs.set (off + 1) (.int .i32 1)).set (off + 4) (.int .i64 n)) t :: F) := h3.set1 (i := off + 4) (v := .int .i64 n)
  have h5 : Sep _ (.blk w.heap.size [Value.pointer (some ⟨b, off, none⟩), Value.int .i64 n, Value.bool true] 86 :: .blk b (((cs.set (off + 1) (.int .i32 1)).set (off + 4) (.int .i64 n)).set (off + 3) (.int .i64 1)) t :: F) := (h4.set1 (i := off + 3) (v := .int .i64 1)).drew
  have h6 : Sep _ (.blk w.heap.size [Value.pointer (some ⟨b, off, none⟩), Value.int .i64 n, Value.bool true] 86 :: .blk b ((((cs.set (off + 1) (.int .i32 1)).set (off + 4) (.int .i64 n)).set (off + 3) (.int .i64 1)).set (off) (.int .u32 1)) t :: F) := h5.set1 (i := off) (v := .int .u32 1)
  have h7 : Sep _ (.blk w.heap.size [Value.pointer (some ⟨b, off, none⟩), Value.int .i64 n, Value.bool true] 86 :: .blk b (((((cs.set (off + 1) (.int .i32 1)).set (off + 4) (.int .i64 n)).set (off + 3) (.int .i64 1)).set (off) (.int .u32 1)).set (off + 1) (.int .i32 0)) t :: F) := h6.set1 (i := off + 1) (v := .int .i32 0)
  have hsep : Sep (((((((w.alloc (Obj.cells #[Value.pointer (some ⟨b, off, none⟩), Value.int .i64 n, Value.bool false] 86)).setCell ⟨b, off + 1, none⟩ (.int .i32 1)).setCell ⟨w.heap.size, 2, none⟩ (.bool true)).drew.setCell ⟨b, off + 4, none⟩ (.int .i64 n)).setCell ⟨b, off + 3, none⟩ (.int .i64 1)).drew.setCell ⟨b, off, none⟩ (.int .u32 1) |>.setCell ⟨b, off + 1, none⟩ (.int .i32 0))) (.blk b (doorS cs off n) t :: F) := h7.drop 0
  have HX := Lib.hid hsep
  clear hsep h1 h2 h3 h4 h5 h6 h7
  generalize (((((((w.alloc (Obj.cells #[Value.pointer (some ⟨b, off, none⟩), Value.int .i64 n, Value.bool false] 86)).setCell ⟨b, off + 1, none⟩ (.int .i32 1)).setCell ⟨w.heap.size, 2, none⟩ (.bool true)).drew.setCell ⟨b, off + 4, none⟩ (.int .i64 n)).setCell ⟨b, off + 3, none⟩ (.int .i64 1)).drew.setCell ⟨b, off, none⟩ (.int .u32 1) |>.setCell ⟨b, off + 1, none⟩ (.int .i32 0))) = WX at *
  go_wp2_with fail
  go_ret
  exact ⟨rfl, HX.out⟩
theorem pre_set (l t : List Value) (h : l.length = 1027) (k : Nat) (v : Value) : (l ++ t).set (1027 + k) v = l ++ t.set k v := by
  rw [List.set_append_right _ _ (by omega)]
  congr 2
  omega
theorem door_set (p : Pa) (n : Int) (h : p.dn = false) : doorS (pcells p) 1027 n = pcells { p with dn := true, who := n } := by
  unfold doorS pcells
  have hl : ([Value.string p.name, .int .i64 p.w, .int .i64 p.h] ++ (List.range 512).map (sdc p.us) ++ (List.range 512).map (sdc p.him)).length = 1027 := by simp
  rw [pre_set _ _ hl 1, pre_set _ _ hl 4, pre_set _ _ hl 3, show ∀ l : List Value, l.set 1027 = l.set (1027 + 0) from fun _ => rfl, pre_set _ _ hl 0, pre_set _ _ hl 1]
  rfl
theorem door_of {p : Pa} {b : Nat} {F : List Res} {w : World} (h : Sep w (.blk b (pcells p) 68 :: F)) : DoorAt w b 1027 p.dn p.who := by
  obtain ⟨hc, hz, hlt⟩ := at_ h
  exact ⟨(hc _).trans (lies p).dn, (hc _).trans (lies p).st, (hc _).trans (lies p).is, (hc _).trans (lies p).who, hz _, hz _, hz _, hz _⟩
theorem open_yes (b : Nat) (p : Pa) (n : Int) (F : List Res) (w : World) (hs : Sep w (.blk b (pcells p) 68 :: F)) (h : p.dn = false) : Calls Tryd.prog 23 #[.pointer (some ⟨b, 1027, none⟩), .int .i64 n] w fun e w' => e = .returned (.bool true) ∧ Sep w' (.blk b (pcells { p with dn := true, who := n }) 68 :: F) := by
  have hd := door_of hs
  rw [h] at hd
  rw [← door_set p n h]
  exact open_sep hd n _ _ _ hs
theorem open_no (b : Nat) (p : Pa) (n : Int) (F : List Res) (w : World) (hs : Sep w (.blk b (pcells p) 68 :: F)) (h : p.dn = true) : Calls Tryd.prog 23 #[.pointer (some ⟨b, 1027, none⟩), .int .i64 n] w fun e w' => e = .returned (.bool false) ∧ Below w.heap.size w w' := by
  have hd := door_of hs
  rw [h] at hd
  exact open_done hd n
def newP (s : ByteArray) (x y : Int) : Pa := ⟨s, x, y, fun _ => (0, false), fun _ => (0, false), false, 0, 0, false, 0, 0⟩
theorem build_new (s : ByteArray) (x y : Int) (w : World) : (Instr.build 68 #[(0, .string s), (1, .agg #[.int .i64 x, .int .i64 y])]).run Tryd.prog w = .ok (.agg (pcells (newP s x y)).toArray) w := run_build w 68 _ _ (by kernel_rfl)
end Go.Proofs.YtjlamnioknbcaaaDoor.P4
