/- G3, G4, G5 -/
import Derived.Test.YtnjgnbdebkckfaaGreatDoorA2
import Derived.Test.YtnjgnbdebkckfaaGreatDoorA3
import Derived.Lib.Hide
set_option linter.unusedVariables false
set_option linter.unusedSimpArgs false
set_option linter.unnecessarySimpa false
namespace Go.Proofs.YtnjgnbdebkckfaaGreatDoor.G3
set_option maxRecDepth 100000
open Go.RowKit K1 K3 K5 K11 K12 K14 K20 K21 K22 K25 K30 K31 M0 C1 G1 G2
attribute [local go_sem] cell_pastA froz_pastA
theorem sizeC : (Tryz.prog.info? 58).map (·.size) = some 6 := by kernel_rfl
theorem mem_segm {α : Type} {L : List α} {o n : Nat} {v : α} (h : v ∈ segm L o n) : v ∈ L := List.mem_of_mem_drop (List.mem_of_mem_take h)
theorem segm_len {α : Type} (L : List α) (o n : Nat) (h : o + n ≤ L.length) : (segm L o n).length = n := by
  unfold segm; rw [List.length_take, List.length_drop]; omega
theorem segm_get {α : Type} {L : List α} {o n j : Nat} {v : α} (h : (segm L o n)[j]? = some v) : L[o + j]? = some v := by
  unfold segm at h
  rw [List.getElem?_take] at h
  split at h
  · rwa [List.getElem?_drop] at h
  · cases h
theorem segm_cells {w : World} {gb N gc : Nat} {xs : List Value} {F : List Res} {o n : Nat} (h : Sep w (.row (.slice (some ⟨gb, 0, none⟩) N gc) 58 6 N xs :: F)) (j : Nat) (v : Value) (hj : (segm xs o n)[j]? = some v) : w.cell? ((⟨gb, o, none⟩ : Addr).add j) = some v := by
  have h1 := segm_get hj
  have h2 := h.rowAt 0 rfl
  have h3 := K30.row_cells h2
  have hl : o + j < xs.length := (List.getElem?_eq_some_iff.1 h1).1
  have ha : (⟨gb, o, none⟩ : Addr).add j = ⟨gb, o + j, none⟩ := by unfold Addr.add; split <;> simp_all
  rw [ha, h3.1 _ (by rw [h3.2.2.2.2] at hl; exact hl)]
  exact h1
set_option maxHeartbeats 4000000 in
theorem fill_nil (ad : Option Addr) (cap : Nat) (c : Ce) (F : List Res) (w : World) (hs : Sep w F) : Calls Tryz.prog 76 #[.slice ad 0 cap, ceA c] w fun e w' => e = .returned (.tuple #[]) ∧ Sep w' F := by
  have HS := Lib.hid hs
  clear hs
  go_enter Tryz.func76, Tryz.ntmps76
  go_wp2_with fail
  (with_reducible apply K30.wp_at)
  exact K32.fnd0
  intro xw hs
  have HS0 := Lib.hid hs
  clear hs HS
  go_loopw [7] (fun v wr => v = .int .i64 0 ∧ Hid (Sep wr F)) (fun v _ => 0)
  case atStart => exact ⟨rfl, HS0⟩
  case round =>
    obtain ⟨rfl, HS⟩ := hrel
    go_wp2_with fail
    go_end0
    exact ⟨rfl, HS.out⟩
theorem fill_k (gb N gc o k n cap : Nat) (ad : Option Addr) (xs : List Value) (c : Ce) (F : List Res) (w : World) (hs : Sep w (.row (.slice (some ⟨gb, 0, none⟩) N gc) 58 6 N xs :: F)) (hk : k = n) (ha : n = 0 ∨ ad = some ⟨gb, o, none⟩) (hf : o + n * 6 ≤ N * 6) (hn : n ≤ 1000000) :
    Calls Tryz.prog 76 #[.slice ad k cap, ceA c] w fun e w' => e = .returned (.tuple #[]) ∧ Sep w' (.row (.slice (some ⟨gb, 0, none⟩) N gc) 58 6 N (splice xs o (repC n c)) :: F) := by
  subst hk
  exact fill_any gb N gc o k cap ad xs c F w hs ha hf hn
attribute [local go_sem] ceV
def lessV (xs : List Value) (o m n : Nat) (c : Ce) : List Value := splice (splice xs o (segm xs (o + n * 6) ((m - n) * 6))) (o + (m - n) * 6) (repC n c)
def moreV (xs : List Value) (o m n : Nat) (c : Ce) : List Value := splice (splice xs (o + n * 6) (segm xs o ((m - n) * 6))) o (repC n c)
set_option maxHeartbeats 4000000 in
theorem less_in (gb N gc o m n cap : Nat) (xs : List Value) (c : Ce) (F : List Res) (w : World) (hs : Sep w (.row (.slice (some ⟨gb, 0, none⟩) N gc) 58 6 N xs :: F)) (hf : o + m * 6 ≤ N * 6) (hm : 1 ≤ m) (hn : n ≤ m) (hc : m ≤ cap) (hm2 : m ≤ 1000000) (hcm : cap ≤ 9223372036854775807) (h1 : ∀ v ∈ xs, v.oneCell' = true) :
    Calls Tryz.prog 138 #[.slice (some ⟨gb, o, none⟩) m cap, .int .i64 n, ceA c] w fun e w' => e = .returned (.tuple #[]) ∧ Sep w' (.row (.slice (some ⟨gb, 0, none⟩) N gc) 58 6 N (lessV xs o m n c) :: F) := by
  have hxl : xs.length = N * 6 := (hs.rowAt 0 rfl).1
  have hl : (segm xs (o + n * 6) ((m - n) * 6)).length = (m - n) * 6 := segm_len _ _ _ (by omega)
  have HS := Lib.hid hs
  have HX := Lib.hid hxl
  have HO := Lib.hid h1
  clear hs hxl h1
  have hcc : (n < cap) ∨ (cap ≤ n) := by omega
  have hcd : (m - n < cap) ∨ (cap ≤ m - n) := by omega
  have HL0 := Lib.hid hl
  clear hl
  rcases hcc with hcc | hcc <;> rcases hcd with hcd | hcd
  all_goals
    go_enter Tryz.func138, Tryz.ntmps138
    go_wp2_with (first | (refine K30.atOp (d := 10) ?_; (with_reducible apply K30.list_at); exact K32.fndG; intro xw hs; (try simp only [World.size_alloc, World.size_setCell] at hs); have hs := hs.pick (r1 := .row (.slice (some ⟨gb, 0, none⟩) N gc) 58 6 N _) K32.rm; (try clear hcB hzB hlB); obtain ⟨hcB, hzB, hlB⟩ := hs.here (b := w.heap.size) K32.rm; refine wpList_copyS rfl (.tmp 6) (.tmp 9) 45 45 rfl 58 Tryz.underlying45 6 sizeC _ _ _ _ _ _ rfl rfl gb (o) N gc 58 _ _ hs (segm xs (o + n * 6) ((m - n) * 6)) (by rw [HL0.out]; show _ = min _ _ * 6; omega) (by intro h0; first | exact ⟨rfl, _, rfl, fun j v hj => segm_cells hs j v hj⟩ | (exfalso; change 0 < min _ _ at h0; omega)) (by rw [HL0.out]; omega) (fun v hv => HO.out v (mem_segm hv)) ?_; intro w1 hs2 hz; clear hs; (try clear hcB hzB hlB); obtain ⟨hcB, hzB, hlB⟩ := hs2.here (b := w.heap.size) K32.rm; have HS := Lib.hid hs2; clear hs2) | (refine K30.atR (id := 2) ?_; (with_reducible apply K30.wp_at); exact K32.fndG; intro xw hs; (try simp only [World.size_alloc, World.size_setCell] at hs); (try clear hcB hzB hlB); obtain ⟨hcB, hzB, hlB⟩ := hs.here (b := w.heap.size) K32.rm; have HS := Lib.hid hs; clear hs; refine K32.reg0 (w := xw) [] [] 7 ?_; simp only [numbered, List.take_succ_cons, List.take_zero, List.drop_succ_cons, List.drop_zero, List.take_nil, List.drop_nil, Nat.reduceAdd]; (iterate 7 (refine K32.zd ?_; (try go_simp))); refine wz_nil ?_; intro wq hbq hLq; clear hLq ; have hcwq := cellA hbq; have hfwq := frozA hbq; have hzwq := hbq.size; (try simp at hzwq); have hs := HS.out.below hbq; (try clear hcB hzB hlB); obtain ⟨hcB, hzB, hlB⟩ := hs.here (b := w.heap.size) K32.rm; have HS := Lib.hid hs; clear hs hcwq hfwq hzwq hbq) | (go_at_call 76; (with_reducible apply K30.calls_at); exact K32.fndG; intro xw hs; (try simp only [World.size_alloc, World.size_setCell] at hs); have hs := hs.pick (r1 := .row (.slice (some ⟨gb, 0, none⟩) N gc) 58 6 N _) K32.rm; refine (fill_k gb N gc (o + (m - n) * 6) _ n _ _ _ c _ _ hs ?_ ?_ ?_ ?_).mono ?_; (focus omega); (focus (first | (right; rfl) | (left; omega))); (focus omega); (focus omega); clear hs; rintro e w1 ⟨rfl, hs⟩; (try clear hcB hzB hlB); obtain ⟨hcB, hzB, hlB⟩ := hs.here (b := w.heap.size) K32.rm; have HS := Lib.hid hs; clear hs))
    go_end0
    exact ⟨rfl, HS.out.drop 1⟩
set_option maxHeartbeats 4000000 in
theorem more_in (gb N gc o m n cap : Nat) (xs : List Value) (c : Ce) (F : List Res) (w : World) (hs : Sep w (.row (.slice (some ⟨gb, 0, none⟩) N gc) 58 6 N xs :: F)) (hf : o + m * 6 ≤ N * 6) (hm : 1 ≤ m) (hn : n ≤ m) (hc : m ≤ cap) (hm2 : m ≤ 1000000) (hcm : cap ≤ 9223372036854775807) (h1 : ∀ v ∈ xs, v.oneCell' = true) :
    Calls Tryz.prog 100 #[.slice (some ⟨gb, o, none⟩) m cap, .int .i64 n, ceA c] w fun e w' => e = .returned (.tuple #[]) ∧ Sep w' (.row (.slice (some ⟨gb, 0, none⟩) N gc) 58 6 N (moreV xs o m n c) :: F) := by
  have hxl : xs.length = N * 6 := (hs.rowAt 0 rfl).1
  have hl : (segm xs o ((m - n) * 6)).length = (m - n) * 6 := segm_len _ _ _ (by omega)
  have HS := Lib.hid hs
  have HX := Lib.hid hxl
  have HO := Lib.hid h1
  clear hs hxl h1
  have hcc : (n < cap) ∨ (cap ≤ n) := by omega
  have HL0 := Lib.hid hl
  clear hl
  rcases hcc with hcc | hcc
  all_goals
    go_enter Tryz.func100, Tryz.ntmps100
    go_wp2_with (first | (refine K30.atOp (d := 10) ?_; (with_reducible apply K30.list_at); exact K32.fndG; intro xw hs; (try simp only [World.size_alloc, World.size_setCell] at hs); have hs := hs.pick (r1 := .row (.slice (some ⟨gb, 0, none⟩) N gc) 58 6 N _) K32.rm; (try clear hcB hzB hlB); obtain ⟨hcB, hzB, hlB⟩ := hs.here (b := w.heap.size) K32.rm; refine wpList_copyS rfl (.tmp 8) (.tmp 9) 45 45 rfl 58 Tryz.underlying45 6 sizeC _ _ _ _ _ _ rfl rfl gb (o + n * 6) N gc 58 _ _ hs (segm xs o ((m - n) * 6)) (by rw [HL0.out]; show _ = min _ _ * 6; omega) (by intro h0; first | exact ⟨rfl, _, rfl, fun j v hj => segm_cells hs j v hj⟩ | (exfalso; change 0 < min _ _ at h0; omega)) (by rw [HL0.out]; omega) (fun v hv => HO.out v (mem_segm hv)) ?_; intro w1 hs2 hz; clear hs; (try clear hcB hzB hlB); obtain ⟨hcB, hzB, hlB⟩ := hs2.here (b := w.heap.size) K32.rm; have HS := Lib.hid hs2; clear hs2) | (refine K30.atR (id := 2) ?_; (with_reducible apply K30.wp_at); exact K32.fndG; intro xw hs; (try simp only [World.size_alloc, World.size_setCell] at hs); (try clear hcB hzB hlB); obtain ⟨hcB, hzB, hlB⟩ := hs.here (b := w.heap.size) K32.rm; have HS := Lib.hid hs; clear hs; refine K32.reg0 (w := xw) [] [] 4 ?_; simp only [numbered, List.take_succ_cons, List.take_zero, List.drop_succ_cons, List.drop_zero, List.take_nil, List.drop_nil, Nat.reduceAdd]; (iterate 4 (refine K32.zd ?_; (try go_simp))); refine wz_nil ?_; intro wq hbq hLq; clear hLq ; have hcwq := cellA hbq; have hfwq := frozA hbq; have hzwq := hbq.size; (try simp at hzwq); have hs := HS.out.below hbq; (try clear hcB hzB hlB); obtain ⟨hcB, hzB, hlB⟩ := hs.here (b := w.heap.size) K32.rm; have HS := Lib.hid hs; clear hs hcwq hfwq hzwq hbq) | (go_at_call 76; (with_reducible apply K30.calls_at); exact K32.fndG; intro xw hs; (try simp only [World.size_alloc, World.size_setCell] at hs); have hs := hs.pick (r1 := .row (.slice (some ⟨gb, 0, none⟩) N gc) 58 6 N _) K32.rm; refine (fill_k gb N gc (o) _ n _ _ _ c _ _ hs ?_ ?_ ?_ ?_).mono ?_; (focus omega); (focus (first | (right; rfl) | (left; omega))); (focus omega); (focus omega); clear hs; rintro e w1 ⟨rfl, hs⟩; (try clear hcB hzB hlB); obtain ⟨hcB, hzB, hlB⟩ := hs.here (b := w.heap.size) K32.rm; have HS := Lib.hid hs; clear hs))
    go_end0
    exact ⟨rfl, HS.out.drop 1⟩
set_option maxHeartbeats 4000000 in
theorem less_nil (c : Ce) (cap : Nat) (w : World) : Calls Tryz.prog 138 #[.slice none 0 0, .int .i64 0, ceA c] w fun e w' => e = .returned (.tuple #[]) ∧ Below w.heap.size w w' := by
  have HS := Lib.hid (Sep.start w)
  go_enter Tryz.func138, Tryz.ntmps138
  go_wp2_with (first | (refine K30.atOp (d := 10) ?_; refine wpList_copyN rfl (.tmp 6) (.tmp 9) 45 45 rfl 58 Tryz.underlying45 6 sizeC _ _ _ _ _ _ rfl rfl (by first | rfl | simp) ?_) | (refine K32.atW 2 (fun xw hs => ?_); (try simp only [World.size_alloc, World.size_setCell] at hs); (try clear hcB hzB hlB); obtain ⟨hcB, hzB, hlB⟩ := hs.here (b := w.heap.size) K32.rm; have HS := Lib.hid hs; clear hs; refine K32.reg0 (w := xw) [] [] 7 ?_; simp only [numbered, List.take_succ_cons, List.take_zero, List.drop_succ_cons, List.drop_zero, List.take_nil, List.drop_nil, Nat.reduceAdd]; (iterate 7 (refine K32.zd ?_; (try go_simp))); refine wz_nil ?_; intro wq hbq hLq; clear hLq ; have hcwq := cellA hbq; have hfwq := frozA hbq; have hzwq := hbq.size; (try simp at hzwq); have hs := HS.out.below hbq; (try clear hcB hzB hlB); obtain ⟨hcB, hzB, hlB⟩ := hs.here (b := w.heap.size) K32.rm; have HS := Lib.hid hs; clear hs hcwq hfwq hzwq hbq) | (go_at_call 76; (with_reducible apply K30.calls_at); exact K32.fnd0; intro xw hs; refine (fill_nil _ _ c _ _ hs).mono ?_; clear hs; rintro e w1 ⟨rfl, hs⟩; have HS := Lib.hid hs; clear hs))
  go_end0
  exact ⟨rfl, HS.out.lowAt 1 rfl⟩
set_option maxHeartbeats 4000000 in
theorem more_nil (c : Ce) (cap : Nat) (w : World) : Calls Tryz.prog 100 #[.slice none 0 0, .int .i64 0, ceA c] w fun e w' => e = .returned (.tuple #[]) ∧ Below w.heap.size w w' := by
  have HS := Lib.hid (Sep.start w)
  go_enter Tryz.func100, Tryz.ntmps100
  go_wp2_with (first | (refine K30.atOp (d := 10) ?_; refine wpList_copyN rfl (.tmp 8) (.tmp 9) 45 45 rfl 58 Tryz.underlying45 6 sizeC _ _ _ _ _ _ rfl rfl (by first | rfl | simp) ?_) | (refine K32.atW 2 (fun xw hs => ?_); (try simp only [World.size_alloc, World.size_setCell] at hs); (try clear hcB hzB hlB); obtain ⟨hcB, hzB, hlB⟩ := hs.here (b := w.heap.size) K32.rm; have HS := Lib.hid hs; clear hs; refine K32.reg0 (w := xw) [] [] 4 ?_; simp only [numbered, List.take_succ_cons, List.take_zero, List.drop_succ_cons, List.drop_zero, List.take_nil, List.drop_nil, Nat.reduceAdd]; (iterate 4 (refine K32.zd ?_; (try go_simp))); refine wz_nil ?_; intro wq hbq hLq; clear hLq ; have hcwq := cellA hbq; have hfwq := frozA hbq; have hzwq := hbq.size; (try simp at hzwq); have hs := HS.out.below hbq; (try clear hcB hzB hlB); obtain ⟨hcB, hzB, hlB⟩ := hs.here (b := w.heap.size) K32.rm; have HS := Lib.hid hs; clear hs hcwq hfwq hzwq hbq) | (go_at_call 76; (with_reducible apply K30.calls_at); exact K32.fnd0; intro xw hs; refine (fill_nil _ _ c _ _ hs).mono ?_; clear hs; rintro e w1 ⟨rfl, hs⟩; have HS := Lib.hid hs; clear hs))
  go_end0
  exact ⟨rfl, HS.out.lowAt 1 rfl⟩
end Go.Proofs.YtnjgnbdebkckfaaGreatDoor.G3
namespace Go.Proofs.YtnjgnbdebkckfaaGreatDoor.G4
set_option maxRecDepth 100000
open Go.RowKit K1 K3 K5 K11 K12 K14 K20 K21 K22 K25 K30 K31 M0 C1 G1 G2 G3
attribute [local go_sem] cell_pastA froz_pastA
abbrev gL (b gb gc : Nat) (g : Gr) (F : List Res) : List Res := .blk b (gcells g gb gc) 121 :: .row (.slice (some ⟨gb, 0, none⟩) g.c.length gc) 58 6 g.c.length (g.c.flatMap ceV) :: F
theorem enc_len (l : List Ce) : (l.flatMap ceV).length = l.length * 6 := by
  induction l with
  | nil => rfl
  | cons c l ih => rw [List.flatMap_cons, List.length_append, ih, List.length_cons, Nat.succ_mul]; simp [ceV]; omega
theorem enc_take (l : List Ce) : ∀ n, (l.take n).flatMap ceV = (l.flatMap ceV).take (n * 6) := by
  induction l with
  | nil => intro n; simp
  | cons c l ih =>
    intro n
    cases n with
    | zero => simp
    | succ n =>
      rw [List.take_succ_cons, List.flatMap_cons, List.flatMap_cons, ih, Nat.succ_mul, Nat.add_comm (n * 6) 6, List.take_append]
      have h6 : (ceV c).length = 6 := rfl
      rw [h6, List.take_of_length_le (l := ceV c) (by rw [h6]; omega), Nat.add_sub_cancel_left]
theorem enc_drop (l : List Ce) : ∀ n, (l.drop n).flatMap ceV = (l.flatMap ceV).drop (n * 6) := by
  induction l with
  | nil => intro n; simp
  | cons c l ih =>
    intro n
    cases n with
    | zero => simp
    | succ n =>
      rw [List.drop_succ_cons, ih, List.flatMap_cons, Nat.succ_mul, Nat.add_comm (n * 6) 6, List.drop_append]
      have h6 : (ceV c).length = 6 := rfl
      rw [h6, List.drop_of_length_le (l := ceV c) (by rw [h6]; omega), Nat.add_sub_cancel_left, List.nil_append]
theorem enc_segm (l : List Ce) (o n : Nat) : (segm l o n).flatMap ceV = segm (l.flatMap ceV) (o * 6) (n * 6) := by
  unfold segm; rw [enc_take, enc_drop]
theorem enc_splice (l m : List Ce) (o : Nat) : (splice l o m).flatMap ceV = splice (l.flatMap ceV) (o * 6) (m.flatMap ceV) := by
  unfold splice
  rw [List.flatMap_append, List.flatMap_append, enc_take, enc_drop, enc_len, Nat.add_mul]
theorem one_ceV (l : List Ce) : ∀ v ∈ l.flatMap ceV, v.oneCell' = true := by
  intro v hv
  obtain ⟨c, _, h⟩ := List.mem_flatMap.1 hv
  simp only [ceV, List.mem_cons, List.not_mem_nil, or_false] at h
  rcases h with rfl | rfl | rfl | rfl | rfl | rfl <;> rfl
theorem splice_back {α : Type} (L : List α) (o : Nat) (m m2 : List α) (h : o + m2.length + m.length ≤ L.length) : splice (splice L (o + m2.length) m) o m2 = splice L o (m2 ++ m) := by
  have e1 : (splice L (o + m2.length) m).take o = L.take o := by
    unfold splice
    rw [List.take_append, List.take_take, List.length_take, Nat.min_eq_left (by omega), Nat.min_eq_left (by omega), show o - (o + m2.length) = 0 by omega, List.take_zero, List.append_nil]
  have e2 : (splice L (o + m2.length) m).drop (o + m2.length) = m ++ L.drop (o + m2.length + m.length) := by
    unfold splice
    rw [List.drop_append, List.length_take, Nat.min_eq_left (by omega), List.drop_of_length_le (by rw [List.length_take]; omega), Nat.sub_self, List.drop_zero, List.nil_append]
  show (splice L (o + m2.length) m).take o ++ (m2 ++ (splice L (o + m2.length) m).drop (o + m2.length)) = L.take o ++ ((m2 ++ m) ++ L.drop (o + (m2 ++ m).length))
  rw [e1, e2, List.length_append, List.append_assoc, Nat.add_assoc]
theorem enc_less (l : List Ce) (o m n : Nat) (x : Ce) (h : o + m ≤ l.length) (hn : n ≤ m) : lessV (l.flatMap ceV) (o * 6) m n x = (splice l o (lessL (segm l o m) n x)).flatMap ceV := by
  unfold lessV
  have e1 : segm (l.flatMap ceV) (o * 6 + n * 6) ((m - n) * 6) = (segm l (o + n) (m - n)).flatMap ceV := by rw [enc_segm, Nat.add_mul]
  have e2 : (segm l o m).drop n = segm l (o + n) (m - n) := by unfold segm; rw [List.drop_take, List.drop_drop]
  have e3 : ((segm l (o + n) (m - n)).flatMap ceV).length = (m - n) * 6 := by rw [enc_len, segm_len _ _ _ (by omega)]
  rw [e1]
  have e4 := splice_two (l.flatMap ceV) (o * 6) ((segm l (o + n) (m - n)).flatMap ceV) (repC n x) (by rw [e3, repC_len, enc_len]; omega)
  rw [e3] at e4
  rw [e4, enc_splice]
  unfold lessL repC
  rw [List.flatMap_append, e2]
theorem enc_more (l : List Ce) (o m n : Nat) (x : Ce) (h : o + m ≤ l.length) (hn : n ≤ m) : moreV (l.flatMap ceV) (o * 6) m n x = (splice l o (moreL (segm l o m) n x)).flatMap ceV := by
  unfold moreV
  have e1 : segm (l.flatMap ceV) (o * 6) ((m - n) * 6) = (segm l o (m - n)).flatMap ceV := by rw [enc_segm]
  have e2 : (segm l o m).take ((segm l o m).length - n) = segm l o (m - n) := by
    rw [segm_len _ _ _ h]; unfold segm; rw [List.take_take, Nat.min_eq_left (by omega)]
  have e3 : ((segm l o (m - n)).flatMap ceV).length = (m - n) * 6 := by rw [enc_len, segm_len _ _ _ (by omega)]
  rw [e1]
  have e4 := splice_back (l.flatMap ceV) (o * 6) ((segm l o (m - n)).flatMap ceV) (repC n x) (by rw [e3, repC_len, enc_len]; omega)
  rw [repC_len] at e4
  rw [e4, enc_splice]
  unfold moreL repC
  rw [List.flatMap_append, e2]
theorem less_len {α : Type} (l : List α) (n : Nat) (x : α) (h : n ≤ l.length) : (lessL l n x).length = l.length := by
  unfold lessL; rw [List.length_append, List.length_drop, List.length_replicate]; omega
theorem more_len {α : Type} (l : List α) (n : Nat) (x : α) (h : n ≤ l.length) : (moreL l n x).length = l.length := by
  unfold moreL; rw [List.length_append, List.length_take, List.length_replicate]; omega
theorem gL_eq (b gb gc : Nat) (g : Gr) (F : List Res) (c : List Ce) (ys : List Value) (hl : c.length = g.c.length) (he : ys = c.flatMap ceV) :
    gL b gb gc { g with c := c } F = .blk b (gcells g gb gc) 121 :: .row (.slice (some ⟨gb, 0, none⟩) g.c.length gc) 58 6 g.c.length ys :: F := by
  subst he
  unfold gL gcells
  rw [hl]
theorem gL_cap {w : World} {b gb gc : Nat} {g : Gr} {F : List Res} (h : Sep w (gL b gb gc g F)) : g.c.length ≤ gc ∧ gc ≤ 9223372036854775807 := own_cap (h.rowAt 1 rfl)
theorem gL_at {w : World} {b gb gc : Nat} {g : Gr} {F : List Res} (h : Sep w (gL b gb gc g F)) : GrAt w b gb gc g := GrAt.of h .here
structure GrP (b gb gc : Nat) (g : Gr) (F : List Res) (e : Ending) (w' : World) : Prop where
  out : e = .returned (.tuple #[]) ∧ Sep w' (gL b gb gc g F)
end Go.Proofs.YtnjgnbdebkckfaaGreatDoor.G4
namespace Go.Proofs.YtnjgnbdebkckfaaGreatDoor.G5
set_option maxRecDepth 100000
open Go.RowKit K1 K3 K5 K11 K12 K14 K20 K21 K22 K25 K30 K31 M0 C1 G1 G2 G3 G4
attribute [local go_sem] cell_pastA froz_pastA
attribute [local go_sem] ceV gcells
theorem rows_w (b gb gc : Nat) (g : Gr) (top bottom : Int) (v : Value) (w : World) (hv : rowsV g gb gc top bottom = v) (h : GrAt w b gb gc g) (ok : GrOk g) (hgc : g.c.length ≤ gc) (hgm : gc ≤ 9223372036854775807) :
    Calls Tryz.prog 137 #[.pointer (some ⟨b, 0, none⟩), .int .i64 top, .int .i64 bottom] w fun e w' => e = .returned v ∧ Below w.heap.size w w' := by
  subst hv; exact rows_any b gb gc g top bottom w h ok hgc hgm
theorem row_w (b gb gc : Nat) (g : Gr) (x y : Int) (v : Value) (w : World) (hv : rowV g gb gc x y = v) (h : GrAt w b gb gc g) (ok : GrOk g) (hgc : g.c.length ≤ gc) (hgm : gc ≤ 9223372036854775807) :
    Calls Tryz.prog 72 #[.pointer (some ⟨b, 0, none⟩), .int .i64 x, .int .i64 y] w fun e w' => e = .returned v ∧ Below w.heap.size w w' := by
  subst hv; exact row_any b gb gc g x y w h ok hgc hgm
theorem many_w (b gb gc : Nat) (g : Gr) (ad : Option Addr) (len cap : Nat) (k : Int) (M : Nat) (w : World) (hM : (M : Int) = min (max k 0) g.h * min g.w len) (h0 : GrAt w b gb gc g) (ok : GrOk g) (hl : len ≤ 1000) :
    Calls Tryz.prog 139 #[.pointer (some ⟨b, 0, none⟩), .slice ad len cap, .int .i64 k] w fun e w' => e = .returned (.int .i64 M) ∧ Below w.heap.size w w' := by
  rw [hM]; exact many_any b gb gc g ad len cap k w h0 ok hl
theorem many_nat {g : Gr} (ok : GrOk g) (len : Nat) (hl : len ≤ 1000) (k : Int) : ∃ M : Nat, (M : Int) = min (max k 0) g.h * min g.w len ∧ M ≤ 800 ∧ manyF g len k = min M len := by
  have h1 := ok.w2; have h2 := ok.w40; have h3 := ok.h1; have h4 := ok.h20
  have h5 := mul_rng (x := min (max k 0) g.h) (y := min g.w len) (by omega) (by omega) (by omega) (by omega)
  refine ⟨(min (max k 0) g.h * min g.w len).toNat, by omega, by omega, rfl⟩
theorem less_k (gb N gc o m n cap : Nat) (k : Int) (xs : List Value) (c : Ce) (F : List Res) (w : World) (hs : Sep w (.row (.slice (some ⟨gb, 0, none⟩) N gc) 58 6 N xs :: F)) (hk : k = n) (hf : o + m * 6 ≤ N * 6) (hm : 1 ≤ m) (hn : n ≤ m) (hc : m ≤ cap) (hm2 : m ≤ 1000000) (hcm : cap ≤ 9223372036854775807) (h1 : ∀ v ∈ xs, v.oneCell' = true) :
    Calls Tryz.prog 138 #[.slice (some ⟨gb, o, none⟩) m cap, .int .i64 k, ceA c] w fun e w' => e = .returned (.tuple #[]) ∧ Sep w' (.row (.slice (some ⟨gb, 0, none⟩) N gc) 58 6 N (lessV xs o m n c) :: F) := by
  subst hk
  exact less_in gb N gc o m n cap xs c F w hs hf hm hn hc hm2 hcm h1
theorem more_k (gb N gc o m n cap : Nat) (k : Int) (xs : List Value) (c : Ce) (F : List Res) (w : World) (hs : Sep w (.row (.slice (some ⟨gb, 0, none⟩) N gc) 58 6 N xs :: F)) (hk : k = n) (hf : o + m * 6 ≤ N * 6) (hm : 1 ≤ m) (hn : n ≤ m) (hc : m ≤ cap) (hm2 : m ≤ 1000000) (hcm : cap ≤ 9223372036854775807) (h1 : ∀ v ∈ xs, v.oneCell' = true) :
    Calls Tryz.prog 100 #[.slice (some ⟨gb, o, none⟩) m cap, .int .i64 k, ceA c] w fun e w' => e = .returned (.tuple #[]) ∧ Sep w' (.row (.slice (some ⟨gb, 0, none⟩) N gc) 58 6 N (moreV xs o m n c) :: F) := by
  subst hk
  exact more_in gb N gc o m n cap xs c F w hs hf hm hn hc hm2 hcm h1
set_option maxHeartbeats 4000000 in
theorem Up_nil (b gb gc : Nat) (g : Gr) (top bottom k : Int) (x : Ce) (F : List Res) (w : World) (hs : Sep w (gL b gb gc g F)) (ok0 : GrOk g) (hx : min bottom g.h ≤ max top 0) :
    Calls Tryz.prog 98 #[.pointer (some ⟨b, 0, none⟩), .int .i64 top, .int .i64 bottom, .int .i64 k, ceA x] w (GrP b gb gc g F) := by
  have hv : rowsV g gb gc top bottom = .slice none 0 0 := by unfold rowsV; rw [if_pos hx]
  obtain ⟨M, hM, hM2, -⟩ := many_nat ok0 0 (by omega) k
  have hM0 : M = 0 := by
    have e : min g.w ((0 : Nat) : Int) = 0 := by have := ok0.w2; omega
    rw [e, Int.mul_zero] at hM
    omega
  subst hM0
  have HV := Lib.hid hv
  have HM := Lib.hid hM
  have ok := Lib.hid ok0
  obtain ⟨hgc, hgm⟩ := gL_cap hs
  obtain ⟨hcG, hzG, hlG⟩ := hs.here (b := b) K32.rm
  have HS := Lib.hid hs
  obtain ⟨q1, q2, q3, q4, q5⟩ := ok0
  clear hs q5
  clear hv hM hx
  obtain ⟨ad, had⟩ : ∃ ad : Option Addr, ad = none := ⟨_, rfl⟩
  obtain ⟨m, hm⟩ : ∃ m : Nat, m = 0 := ⟨_, rfl⟩
  clear had hm
  go_enter Tryz.func98, Tryz.ntmps98
  go_wp2_with (first | (go_at_call 137; (with_reducible apply K30.calls_at); exact K32.fndG; intro xw hs; (try simp only [World.size_alloc, World.size_setCell] at hs); (try clear hcG hzG hlG); (try clear hcB hzB hlB); obtain ⟨hcG, hzG, hlG⟩ := hs.here (b := b) K32.rm; obtain ⟨hcB, hzB, hlB⟩ := hs.here (b := w.heap.size) K32.rm; have hC := (rows_w b gb gc g top bottom _ _ HV.out (GrAt.of hs K32.rm) ok.out hgc hgm); (with_reducible refine hC.mono ?_); clear hC; rintro e w1 ⟨rfl, hb⟩; have hs := hs.below hb; clear hb; (try clear hcG hzG hlG); (try clear hcB hzB hlB); obtain ⟨hcG, hzG, hlG⟩ := hs.here (b := b) K32.rm; obtain ⟨hcB, hzB, hlB⟩ := hs.here (b := w.heap.size) K32.rm; have HS := Lib.hid hs; clear hs) | (refine K30.atR (id := 2) ?_; (with_reducible apply K30.wp_at); exact K32.fndG; intro xw hs; (try simp only [World.size_alloc, World.size_setCell] at hs); (try clear hcG hzG hlG); (try clear hcB hzB hlB); obtain ⟨hcG, hzG, hlG⟩ := hs.here (b := b) K32.rm; obtain ⟨hcB, hzB, hlB⟩ := hs.here (b := w.heap.size) K32.rm; have HS := Lib.hid hs; clear hs; refine K32.reg0 (w := xw) [] [] 9 ?_; simp only [numbered, List.take_succ_cons, List.take_zero, List.drop_succ_cons, List.drop_zero, List.take_nil, List.drop_nil, Nat.reduceAdd]; (iterate 9 (refine K32.zc ?_; apply Exists.intro; refine ⟨fun bs hok wx hwx hL => ?_, ?_⟩; (focus ((have hwx : Below _ _ wx := hwx; have hcx := cellA hwx; have hfx := frozA hwx; have hzx := hwx.size; (try simp at hzx)); unfold zAt; (try simp [go_sem, K32.ev, ↓IntWalk.iteOmega, *]); (try simp (disch := omega) only [K32.unw]); (try simp only [zUpon]); (first | (refine ⟨rfl, ?_⟩; go_at_call 139; refine (many_w b gb gc g none 0 0 k 0 _ HM.out ((GrAt.of HS.out K32.rm).low hwx) ok.out (by decide)).mono ?_; rintro e wy ⟨rfl, hby⟩; exact ⟨_, rfl, rfl, hby⟩) | exact ⟨rfl, Below.refl _ _⟩))); (try go_simp))); refine wz_nil ?_; intro wq hbq hLq; clear hLq ; have hcwq := cellA hbq; have hfwq := frozA hbq; have hzwq := hbq.size; (try simp at hzwq); have hs := HS.out.below hbq; (try clear hcG hzG hlG); (try clear hcB hzB hlB); obtain ⟨hcG, hzG, hlG⟩ := hs.here (b := b) K32.rm; obtain ⟨hcB, hzB, hlB⟩ := hs.here (b := w.heap.size) K32.rm; have HS := Lib.hid hs; clear hs hcwq hfwq hzwq hbq) | (go_at_call 138; (with_reducible apply K30.calls_at); exact K32.fndG; intro xw hs; (try simp only [World.size_alloc, World.size_setCell] at hs); refine (less_nil x 0 _).mono ?_; rintro e w1 ⟨rfl, hb⟩; have hs := hs.below hb; clear hb; (try clear hcG hzG hlG); (try clear hcB hzB hlB); obtain ⟨hcG, hzG, hlG⟩ := hs.here (b := b) K32.rm; obtain ⟨hcB, hzB, hlB⟩ := hs.here (b := w.heap.size) K32.rm; have HS := Lib.hid hs; clear hs))
  go_end0
  refine ⟨rfl, ?_⟩
  ((with_reducible apply K30.sep_end); exact K32.fndG; intro hs; (try simp only [World.size_alloc, World.size_setCell] at hs); exact hs.end2 K32.rm K32.rm K32.sub)
set_option maxHeartbeats 4000000 in
theorem Up_yes (b gb gc : Nat) (g : Gr) (top bottom k : Int) (x : Ce) (F : List Res) (w : World) (o m n M : Nat) (hs : Sep w (gL b gb gc g F)) (ok0 : GrOk g) (hv : rowsV g gb gc top bottom = .slice (some ⟨gb, o * 6, none⟩) m (gc - o)) (hM : (M : Int) = min (max k 0) g.h * min g.w m) (hn : (M ≤ m ∧ M ≤ n ∧ n ≤ M) ∨ (m < M ∧ n ≤ m ∧ m ≤ n)) (hm1 : 1 ≤ m) (hf : o + m ≤ g.c.length) (hl8 : g.c.length ≤ 800) :
    Calls Tryz.prog 98 #[.pointer (some ⟨b, 0, none⟩), .int .i64 top, .int .i64 bottom, .int .i64 k, ceA x] w (GrP b gb gc { g with c := splice g.c o (lessL (segm g.c o m) n x) } F) := by
  have HV := Lib.hid hv
  have HM := Lib.hid hM
  have ok := Lib.hid ok0
  obtain ⟨hgc, hgm⟩ := gL_cap hs
  obtain ⟨hcG, hzG, hlG⟩ := hs.here (b := b) K32.rm
  have HS := Lib.hid hs
  obtain ⟨q1, q2, q3, q4, q5⟩ := ok0
  clear hs q5
  have HE := Lib.hid (enc_less g.c o m n x hf (by omega))
  have HLN : Hid ((splice g.c o (lessL (segm g.c o m) n x)).length = g.c.length) := Lib.hid (by rw [length_splice _ _ _ (by rw [less_len _ _ _ (by rw [segm_len _ _ _ hf]; omega), segm_len _ _ _ hf]; exact hf)])
  obtain ⟨cp, hcp⟩ : ∃ cp, cp = gc - o := ⟨_, rfl⟩
  rw [← hcp] at HV
  have hmc : m ≤ cp := by omega
  have hcm : cp ≤ 9223372036854775807 := by omega
  have hm3 : m ≤ 1000 := by omega
  have hm4 : m ≤ 1000000 := by omega
  have hf6 : o * 6 + m * 6 ≤ g.c.length * 6 := by omega
  have hnm : n ≤ m := by omega
  clear hv hM hcp
  rcases hn with ⟨hn1, hn2, hn3⟩ | ⟨hn1, hn2, hn3⟩
  all_goals
    go_enter Tryz.func98, Tryz.ntmps98
    go_wp2_with (first | (go_at_call 137; (with_reducible apply K30.calls_at); exact K32.fndG; intro xw hs; (try simp only [World.size_alloc, World.size_setCell] at hs); (try clear hcG hzG hlG); (try clear hcB hzB hlB); obtain ⟨hcG, hzG, hlG⟩ := hs.here (b := b) K32.rm; obtain ⟨hcB, hzB, hlB⟩ := hs.here (b := w.heap.size) K32.rm; have hC := (rows_w b gb gc g top bottom _ _ HV.out (GrAt.of hs K32.rm) ok.out hgc hgm); (with_reducible refine hC.mono ?_); clear hC; rintro e w1 ⟨rfl, hb⟩; have hs := hs.below hb; clear hb; (try clear hcG hzG hlG); (try clear hcB hzB hlB); obtain ⟨hcG, hzG, hlG⟩ := hs.here (b := b) K32.rm; obtain ⟨hcB, hzB, hlB⟩ := hs.here (b := w.heap.size) K32.rm; have HS := Lib.hid hs; clear hs) | (refine K30.atR (id := 2) ?_; (with_reducible apply K30.wp_at); exact K32.fndG; intro xw hs; (try simp only [World.size_alloc, World.size_setCell] at hs); (try clear hcG hzG hlG); (try clear hcB hzB hlB); obtain ⟨hcG, hzG, hlG⟩ := hs.here (b := b) K32.rm; obtain ⟨hcB, hzB, hlB⟩ := hs.here (b := w.heap.size) K32.rm; have HS := Lib.hid hs; clear hs; refine K32.reg0 (w := xw) [] [] 9 ?_; simp only [numbered, List.take_succ_cons, List.take_zero, List.drop_succ_cons, List.drop_zero, List.take_nil, List.drop_nil, Nat.reduceAdd]; (iterate 9 (refine K32.zc ?_; apply Exists.intro; refine ⟨fun bs hok wx hwx hL => ?_, ?_⟩; (focus ((have hwx : Below _ _ wx := hwx; have hcx := cellA hwx; have hfx := frozA hwx; have hzx := hwx.size; (try simp at hzx)); unfold zAt; (try simp [go_sem, K32.ev, ↓IntWalk.iteOmega, *]); (try simp (disch := omega) only [K32.unw]); (try simp only [zUpon]); (first | (refine ⟨rfl, ?_⟩; go_at_call 139; refine (many_w b gb gc g _ m _ k M _ HM.out ((GrAt.of HS.out K32.rm).low hwx) ok.out hm3).mono ?_; rintro e wy ⟨rfl, hby⟩; exact ⟨_, rfl, rfl, hby⟩) | exact ⟨rfl, Below.refl _ _⟩))); (try go_simp))); refine wz_nil ?_; intro wq hbq hLq; clear hLq ; have hcwq := cellA hbq; have hfwq := frozA hbq; have hzwq := hbq.size; (try simp at hzwq); have hs := HS.out.below hbq; (try clear hcG hzG hlG); (try clear hcB hzB hlB); obtain ⟨hcG, hzG, hlG⟩ := hs.here (b := b) K32.rm; obtain ⟨hcB, hzB, hlB⟩ := hs.here (b := w.heap.size) K32.rm; have HS := Lib.hid hs; clear hs hcwq hfwq hzwq hbq) | (go_at_call 138; (with_reducible apply K30.calls_at); exact K32.fndG; intro xw hs; (try simp only [World.size_alloc, World.size_setCell] at hs); have hs := hs.pick (r1 := .row (.slice (some ⟨gb, 0, none⟩) g.c.length gc) 58 6 g.c.length (g.c.flatMap ceV)) K32.rm; refine (less_k gb g.c.length gc (o * 6) m n _ _ (g.c.flatMap ceV) x _ _ hs (by omega) hf6 hm1 hnm hmc hm4 hcm (one_ceV _)).mono ?_; clear hs; rintro e w1 ⟨rfl, hs⟩; (try clear hcG hzG hlG); (try clear hcB hzB hlB); obtain ⟨hcG, hzG, hlG⟩ := hs.here (b := b) K32.rm; obtain ⟨hcB, hzB, hlB⟩ := hs.here (b := w.heap.size) K32.rm; have HS := Lib.hid hs; clear hs))
    go_end0
    refine ⟨rfl, ?_⟩
    rw [gL_eq b gb gc g F _ _ HLN.out HE.out]
    ((with_reducible apply K30.sep_end); exact K32.fndG; intro hs; (try simp only [World.size_alloc, World.size_setCell] at hs); exact hs.end2 K32.rm K32.rm K32.sub)
theorem Up_any (b gb gc : Nat) (g : Gr) (top bottom k : Int) (x : Ce) (F : List Res) (w : World) (hs : Sep w (gL b gb gc g F)) (ok : GrOk g) : Calls Tryz.prog 98 #[.pointer (some ⟨b, 0, none⟩), .int .i64 top, .int .i64 bottom, .int .i64 k, ceA x] w (GrP b gb gc (upG g top bottom k x) F) := by
  by_cases hx : min bottom g.h ≤ max top 0
  · have e : upG g top bottom k x = g := by
      unfold upG rowsO manyF
      rw [if_pos hx]
      simp [segm, splice, lessL]
    rw [e]
    exact Up_nil b gb gc g top bottom k x F w hs ok hx
  · obtain ⟨p1, p2, p3⟩ := ok.mul (y := max top 0) (by omega) (by omega)
    obtain ⟨p4, p5, p6⟩ := ok.mul (y := min bottom g.h) (by omega) (by omega)
    have he : (min bottom g.h - max top 0) * g.w = min bottom g.h * g.w - max top 0 * g.w := Int.sub_mul _ _ _
    have hle : 1 * g.w ≤ (min bottom g.h - max top 0) * g.w := Int.mul_le_mul_of_nonneg_right (by omega) (by have := ok.w2; omega)
    have hw2 := ok.w2
    have hm : ((min bottom g.h - max top 0) * g.w).toNat ≤ 1000 := by rw [he]; omega
    obtain ⟨M, hM, -, hMF⟩ := many_nat ok _ hm k
    have e : upG g top bottom k x = { g with c := splice g.c (max top 0 * g.w).toNat (lessL (segm g.c (max top 0 * g.w).toNat ((min bottom g.h - max top 0) * g.w).toNat) (min M ((min bottom g.h - max top 0) * g.w).toNat) x) } := by
      unfold upG rowsO
      rw [if_neg hx, hMF]
    rw [e]
    exact Up_yes b gb gc g top bottom k x F w (max top 0 * g.w).toNat _ _ M hs ok (by unfold rowsV; rw [if_neg hx]) hM (by omega) (by omega) (by rw [he]; omega) p3
set_option maxHeartbeats 4000000 in
theorem Down_nil (b gb gc : Nat) (g : Gr) (top bottom k : Int) (x : Ce) (F : List Res) (w : World) (hs : Sep w (gL b gb gc g F)) (ok0 : GrOk g) (hx : min bottom g.h ≤ max top 0) :
    Calls Tryz.prog 116 #[.pointer (some ⟨b, 0, none⟩), .int .i64 top, .int .i64 bottom, .int .i64 k, ceA x] w (GrP b gb gc g F) := by
  have hv : rowsV g gb gc top bottom = .slice none 0 0 := by unfold rowsV; rw [if_pos hx]
  obtain ⟨M, hM, hM2, -⟩ := many_nat ok0 0 (by omega) k
  have hM0 : M = 0 := by
    have e : min g.w ((0 : Nat) : Int) = 0 := by have := ok0.w2; omega
    rw [e, Int.mul_zero] at hM
    omega
  subst hM0
  have HV := Lib.hid hv
  have HM := Lib.hid hM
  have ok := Lib.hid ok0
  obtain ⟨hgc, hgm⟩ := gL_cap hs
  obtain ⟨hcG, hzG, hlG⟩ := hs.here (b := b) K32.rm
  have HS := Lib.hid hs
  obtain ⟨q1, q2, q3, q4, q5⟩ := ok0
  clear hs q5
  clear hv hM hx
  obtain ⟨ad, had⟩ : ∃ ad : Option Addr, ad = none := ⟨_, rfl⟩
  obtain ⟨m, hm⟩ : ∃ m : Nat, m = 0 := ⟨_, rfl⟩
  clear had hm
  go_enter Tryz.func116, Tryz.ntmps116
  go_wp2_with (first | (go_at_call 137; (with_reducible apply K30.calls_at); exact K32.fndG; intro xw hs; (try simp only [World.size_alloc, World.size_setCell] at hs); (try clear hcG hzG hlG); (try clear hcB hzB hlB); obtain ⟨hcG, hzG, hlG⟩ := hs.here (b := b) K32.rm; obtain ⟨hcB, hzB, hlB⟩ := hs.here (b := w.heap.size) K32.rm; have hC := (rows_w b gb gc g top bottom _ _ HV.out (GrAt.of hs K32.rm) ok.out hgc hgm); (with_reducible refine hC.mono ?_); clear hC; rintro e w1 ⟨rfl, hb⟩; have hs := hs.below hb; clear hb; (try clear hcG hzG hlG); (try clear hcB hzB hlB); obtain ⟨hcG, hzG, hlG⟩ := hs.here (b := b) K32.rm; obtain ⟨hcB, hzB, hlB⟩ := hs.here (b := w.heap.size) K32.rm; have HS := Lib.hid hs; clear hs) | (refine K30.atR (id := 2) ?_; (with_reducible apply K30.wp_at); exact K32.fndG; intro xw hs; (try simp only [World.size_alloc, World.size_setCell] at hs); (try clear hcG hzG hlG); (try clear hcB hzB hlB); obtain ⟨hcG, hzG, hlG⟩ := hs.here (b := b) K32.rm; obtain ⟨hcB, hzB, hlB⟩ := hs.here (b := w.heap.size) K32.rm; have HS := Lib.hid hs; clear hs; refine K32.reg0 (w := xw) [] [] 9 ?_; simp only [numbered, List.take_succ_cons, List.take_zero, List.drop_succ_cons, List.drop_zero, List.take_nil, List.drop_nil, Nat.reduceAdd]; (iterate 9 (refine K32.zc ?_; apply Exists.intro; refine ⟨fun bs hok wx hwx hL => ?_, ?_⟩; (focus ((have hwx : Below _ _ wx := hwx; have hcx := cellA hwx; have hfx := frozA hwx; have hzx := hwx.size; (try simp at hzx)); unfold zAt; (try simp [go_sem, K32.ev, ↓IntWalk.iteOmega, *]); (try simp (disch := omega) only [K32.unw]); (try simp only [zUpon]); (first | (refine ⟨rfl, ?_⟩; go_at_call 139; refine (many_w b gb gc g none 0 0 k 0 _ HM.out ((GrAt.of HS.out K32.rm).low hwx) ok.out (by decide)).mono ?_; rintro e wy ⟨rfl, hby⟩; exact ⟨_, rfl, rfl, hby⟩) | exact ⟨rfl, Below.refl _ _⟩))); (try go_simp))); refine wz_nil ?_; intro wq hbq hLq; clear hLq ; have hcwq := cellA hbq; have hfwq := frozA hbq; have hzwq := hbq.size; (try simp at hzwq); have hs := HS.out.below hbq; (try clear hcG hzG hlG); (try clear hcB hzB hlB); obtain ⟨hcG, hzG, hlG⟩ := hs.here (b := b) K32.rm; obtain ⟨hcB, hzB, hlB⟩ := hs.here (b := w.heap.size) K32.rm; have HS := Lib.hid hs; clear hs hcwq hfwq hzwq hbq) | (go_at_call 100; (with_reducible apply K30.calls_at); exact K32.fndG; intro xw hs; (try simp only [World.size_alloc, World.size_setCell] at hs); refine (more_nil x 0 _).mono ?_; rintro e w1 ⟨rfl, hb⟩; have hs := hs.below hb; clear hb; (try clear hcG hzG hlG); (try clear hcB hzB hlB); obtain ⟨hcG, hzG, hlG⟩ := hs.here (b := b) K32.rm; obtain ⟨hcB, hzB, hlB⟩ := hs.here (b := w.heap.size) K32.rm; have HS := Lib.hid hs; clear hs))
  go_end0
  refine ⟨rfl, ?_⟩
  ((with_reducible apply K30.sep_end); exact K32.fndG; intro hs; (try simp only [World.size_alloc, World.size_setCell] at hs); exact hs.end2 K32.rm K32.rm K32.sub)
set_option maxHeartbeats 4000000 in
theorem Down_yes (b gb gc : Nat) (g : Gr) (top bottom k : Int) (x : Ce) (F : List Res) (w : World) (o m n M : Nat) (hs : Sep w (gL b gb gc g F)) (ok0 : GrOk g) (hv : rowsV g gb gc top bottom = .slice (some ⟨gb, o * 6, none⟩) m (gc - o)) (hM : (M : Int) = min (max k 0) g.h * min g.w m) (hn : (M ≤ m ∧ M ≤ n ∧ n ≤ M) ∨ (m < M ∧ n ≤ m ∧ m ≤ n)) (hm1 : 1 ≤ m) (hf : o + m ≤ g.c.length) (hl8 : g.c.length ≤ 800) :
    Calls Tryz.prog 116 #[.pointer (some ⟨b, 0, none⟩), .int .i64 top, .int .i64 bottom, .int .i64 k, ceA x] w (GrP b gb gc { g with c := splice g.c o (moreL (segm g.c o m) n x) } F) := by
  have HV := Lib.hid hv
  have HM := Lib.hid hM
  have ok := Lib.hid ok0
  obtain ⟨hgc, hgm⟩ := gL_cap hs
  obtain ⟨hcG, hzG, hlG⟩ := hs.here (b := b) K32.rm
  have HS := Lib.hid hs
  obtain ⟨q1, q2, q3, q4, q5⟩ := ok0
  clear hs q5
  have HE := Lib.hid (enc_more g.c o m n x hf (by omega))
  have HLN : Hid ((splice g.c o (moreL (segm g.c o m) n x)).length = g.c.length) := Lib.hid (by rw [length_splice _ _ _ (by rw [more_len _ _ _ (by rw [segm_len _ _ _ hf]; omega), segm_len _ _ _ hf]; exact hf)])
  obtain ⟨cp, hcp⟩ : ∃ cp, cp = gc - o := ⟨_, rfl⟩
  rw [← hcp] at HV
  have hmc : m ≤ cp := by omega
  have hcm : cp ≤ 9223372036854775807 := by omega
  have hm3 : m ≤ 1000 := by omega
  have hm4 : m ≤ 1000000 := by omega
  have hf6 : o * 6 + m * 6 ≤ g.c.length * 6 := by omega
  have hnm : n ≤ m := by omega
  clear hv hM hcp
  rcases hn with ⟨hn1, hn2, hn3⟩ | ⟨hn1, hn2, hn3⟩
  all_goals
    go_enter Tryz.func116, Tryz.ntmps116
    go_wp2_with (first | (go_at_call 137; (with_reducible apply K30.calls_at); exact K32.fndG; intro xw hs; (try simp only [World.size_alloc, World.size_setCell] at hs); (try clear hcG hzG hlG); (try clear hcB hzB hlB); obtain ⟨hcG, hzG, hlG⟩ := hs.here (b := b) K32.rm; obtain ⟨hcB, hzB, hlB⟩ := hs.here (b := w.heap.size) K32.rm; have hC := (rows_w b gb gc g top bottom _ _ HV.out (GrAt.of hs K32.rm) ok.out hgc hgm); (with_reducible refine hC.mono ?_); clear hC; rintro e w1 ⟨rfl, hb⟩; have hs := hs.below hb; clear hb; (try clear hcG hzG hlG); (try clear hcB hzB hlB); obtain ⟨hcG, hzG, hlG⟩ := hs.here (b := b) K32.rm; obtain ⟨hcB, hzB, hlB⟩ := hs.here (b := w.heap.size) K32.rm; have HS := Lib.hid hs; clear hs) | (refine K30.atR (id := 2) ?_; (with_reducible apply K30.wp_at); exact K32.fndG; intro xw hs; (try simp only [World.size_alloc, World.size_setCell] at hs); (try clear hcG hzG hlG); (try clear hcB hzB hlB); obtain ⟨hcG, hzG, hlG⟩ := hs.here (b := b) K32.rm; obtain ⟨hcB, hzB, hlB⟩ := hs.here (b := w.heap.size) K32.rm; have HS := Lib.hid hs; clear hs; refine K32.reg0 (w := xw) [] [] 9 ?_; simp only [numbered, List.take_succ_cons, List.take_zero, List.drop_succ_cons, List.drop_zero, List.take_nil, List.drop_nil, Nat.reduceAdd]; (iterate 9 (refine K32.zc ?_; apply Exists.intro; refine ⟨fun bs hok wx hwx hL => ?_, ?_⟩; (focus ((have hwx : Below _ _ wx := hwx; have hcx := cellA hwx; have hfx := frozA hwx; have hzx := hwx.size; (try simp at hzx)); unfold zAt; (try simp [go_sem, K32.ev, ↓IntWalk.iteOmega, *]); (try simp (disch := omega) only [K32.unw]); (try simp only [zUpon]); (first | (refine ⟨rfl, ?_⟩; go_at_call 139; refine (many_w b gb gc g _ m _ k M _ HM.out ((GrAt.of HS.out K32.rm).low hwx) ok.out hm3).mono ?_; rintro e wy ⟨rfl, hby⟩; exact ⟨_, rfl, rfl, hby⟩) | exact ⟨rfl, Below.refl _ _⟩))); (try go_simp))); refine wz_nil ?_; intro wq hbq hLq; clear hLq ; have hcwq := cellA hbq; have hfwq := frozA hbq; have hzwq := hbq.size; (try simp at hzwq); have hs := HS.out.below hbq; (try clear hcG hzG hlG); (try clear hcB hzB hlB); obtain ⟨hcG, hzG, hlG⟩ := hs.here (b := b) K32.rm; obtain ⟨hcB, hzB, hlB⟩ := hs.here (b := w.heap.size) K32.rm; have HS := Lib.hid hs; clear hs hcwq hfwq hzwq hbq) | (go_at_call 100; (with_reducible apply K30.calls_at); exact K32.fndG; intro xw hs; (try simp only [World.size_alloc, World.size_setCell] at hs); have hs := hs.pick (r1 := .row (.slice (some ⟨gb, 0, none⟩) g.c.length gc) 58 6 g.c.length (g.c.flatMap ceV)) K32.rm; refine (more_k gb g.c.length gc (o * 6) m n _ _ (g.c.flatMap ceV) x _ _ hs (by omega) hf6 hm1 hnm hmc hm4 hcm (one_ceV _)).mono ?_; clear hs; rintro e w1 ⟨rfl, hs⟩; (try clear hcG hzG hlG); (try clear hcB hzB hlB); obtain ⟨hcG, hzG, hlG⟩ := hs.here (b := b) K32.rm; obtain ⟨hcB, hzB, hlB⟩ := hs.here (b := w.heap.size) K32.rm; have HS := Lib.hid hs; clear hs))
    go_end0
    refine ⟨rfl, ?_⟩
    rw [gL_eq b gb gc g F _ _ HLN.out HE.out]
    ((with_reducible apply K30.sep_end); exact K32.fndG; intro hs; (try simp only [World.size_alloc, World.size_setCell] at hs); exact hs.end2 K32.rm K32.rm K32.sub)
theorem Down_any (b gb gc : Nat) (g : Gr) (top bottom k : Int) (x : Ce) (F : List Res) (w : World) (hs : Sep w (gL b gb gc g F)) (ok : GrOk g) : Calls Tryz.prog 116 #[.pointer (some ⟨b, 0, none⟩), .int .i64 top, .int .i64 bottom, .int .i64 k, ceA x] w (GrP b gb gc (downG g top bottom k x) F) := by
  by_cases hx : min bottom g.h ≤ max top 0
  · have e : downG g top bottom k x = g := by
      unfold downG rowsO manyF
      rw [if_pos hx]
      simp [segm, splice, moreL]
    rw [e]
    exact Down_nil b gb gc g top bottom k x F w hs ok hx
  · obtain ⟨p1, p2, p3⟩ := ok.mul (y := max top 0) (by omega) (by omega)
    obtain ⟨p4, p5, p6⟩ := ok.mul (y := min bottom g.h) (by omega) (by omega)
    have he : (min bottom g.h - max top 0) * g.w = min bottom g.h * g.w - max top 0 * g.w := Int.sub_mul _ _ _
    have hle : 1 * g.w ≤ (min bottom g.h - max top 0) * g.w := Int.mul_le_mul_of_nonneg_right (by omega) (by have := ok.w2; omega)
    have hw2 := ok.w2
    have hm : ((min bottom g.h - max top 0) * g.w).toNat ≤ 1000 := by rw [he]; omega
    obtain ⟨M, hM, -, hMF⟩ := many_nat ok _ hm k
    have e : downG g top bottom k x = { g with c := splice g.c (max top 0 * g.w).toNat (moreL (segm g.c (max top 0 * g.w).toNat ((min bottom g.h - max top 0) * g.w).toNat) (min M ((min bottom g.h - max top 0) * g.w).toNat) x) } := by
      unfold downG rowsO
      rw [if_neg hx, hMF]
    rw [e]
    exact Down_yes b gb gc g top bottom k x F w (max top 0 * g.w).toNat _ _ M hs ok (by unfold rowsV; rw [if_neg hx]) hM (by omega) (by omega) (by rw [he]; omega) p3
end Go.Proofs.YtnjgnbdebkckfaaGreatDoor.G5
