/- E5, E6, E7, E8, E9, E10, E11 -/
import Derived.Test.YtnjgnbdebkckfaaGreatDoorA2
import Derived.Test.YtnjgnbdebkckfaaGreatDoorA10
import Derived.Lib.Hide
set_option linter.unusedVariables false
set_option linter.unusedSimpArgs false
set_option linter.unnecessarySimpa false
namespace Go.Proofs.YtnjgnbdebkckfaaGreatDoor.E5
set_option maxRecDepth 100000
open Go.RowKit K1 K3 K5 K11 K12 K14 K20 K21 K22 K25 K30 K31 M0 U2 P1 P3 P6 E2 E3 E4
attribute [local go_sem] cell_pastA froz_pastA
theorem own_some {w : World} {B : Nat} {t : TypeId} {s n : Nat} {v : Value} {xs : List Value} (h : w.ownsRow B t s v n xs) (hn : 0 < n) : ∃ g c, v = .slice (some ⟨g, 0, none⟩) n c := by
  rcases h.2 with ⟨rfl, rfl⟩ | ⟨g, c, cur, rfl, _⟩
  · omega
  · exact ⟨_, _, rfl⟩
theorem number_k (b : Nat) (P : Nat → Value) (v33 v34 v35 v36 v37 v38 v39 v40 v41 v42 v : Value) (t : TypeId) (l L : List Int) (F : List Res) (w : World) (hs : Sep w (.blk b (parV P v33 v34 v35 v36 v37 v38 v v40 v41 v42) t :: .row v 3 1 l.length (ints l) :: F)) (hl : l.length ≤ 8) (hL : (if l = [] then [-1] else l) = L) :
    Calls Tryz.prog 150 #[.pointer (some ⟨b, 0, none⟩)] w (ExP fun v => .blk b (parV P v33 v34 v35 v36 v37 v38 v v40 v41 v42) t :: .row v 3 1 L.length (ints L) :: F) := by
  subst hL
  exact number_any b P v33 v34 v35 v36 v37 v38 v39 v40 v41 v42 v t l F w hs hl
theorem ints_get {L : List Int} {k : Nat} {x : Int} (h : L[k]? = some x) : (ints L)[k]? = some (.int .i64 x) := by
  unfold ints
  rw [List.getElem?_map, h]
  rfl
theorem ints_set (L : List Int) (k : Nat) (x : Int) : (ints L).set k (.int .i64 x) = ints (L.set k x) := by
  unfold ints
  rw [List.map_set]
set_option maxHeartbeats 4000000 in
theorem digit_k (b : Nat) (P : Nat → Value) (v33 v34 v35 v36 v37 v38 v39 v40 v41 v42 v : Value) (t : TypeId) (l L : List Int) (k : Nat) (x d : Int) (F : List Res) (w : World) (hs : Sep w (.blk b (parV P v33 v34 v35 v36 v37 v38 v v40 v41 v42) t :: .row v 3 1 l.length (ints l) :: F)) (hl8 : l.length ≤ 8) (hL : (if l = [] then [-1] else l) = L) (hk : L.length = k + 1) (hk8 : k < 8) (hx : L[k]? = some x) (hx0 : -1 ≤ x) (hx1 : x ≤ 9999) (hd0 : 0 ≤ d) (hd1 : d ≤ 9) (h40 : v40 = .bool false) :
    Calls Tryz.prog 152 #[.pointer (some ⟨b, 0, none⟩), .int .i64 d] w (ExP fun v => .blk b (parV P v33 v34 v35 v36 v37 v38 v v40 v41 v42) t :: .row v 3 1 (k + 1) (ints (L.set k (min (max x 0 * 10 + d) 9999))) :: F) := by
  subst h40
  have HL := Lib.hid hL
  have HX := Lib.hid (ints_get hx)
  have HS := Lib.hid hs
  clear hs hL hx
  go_enter Tryz.func152, Tryz.ntmps152
  go_wp2_with (first | (go_at_call 150; refine (number_k b P v33 v34 v35 v36 v37 v38 v39 (.bool false) v41 v42 v t l L F w HS.out hl8 HL.out).mono ?_; rintro e w1 ⟨⟨v1, rfl, hs⟩⟩; rw [hk] at hs; obtain ⟨g, cp, rfl⟩ := own_some (hs.hereRow (v := v1) K32.rm) (by omega); (try clear hcR39 hcR40 hzR hlR); obtain ⟨hcR, hzR, hlR⟩ := hs.here (b := b) K32.rm; have hcR39 := (hcR 39).trans (parV_39 ..); have hcR40 := (hcR 40).trans (parV_40 ..); clear hcR; have hxk := (row_cells (hs.hereRow (v := .slice (some ⟨g, 0, none⟩) (k + 1) cp) K32.rm)).1 k (by omega) |>.trans HX.out; have hzk := (row_cells (hs.hereRow (v := .slice (some ⟨g, 0, none⟩) (k + 1) cp) K32.rm)).2.1 k; have hlk := (row_cells (hs.hereRow (v := .slice (some ⟨g, 0, none⟩) (k + 1) cp) K32.rm)).2.2.1; have HS := Lib.hid hs; clear hs) | (refine K30.atR (id := 3) ?_; (with_reducible apply K30.wp_at); (focus ((repeat' (first | (with_reducible exact HS.out) | (with_reducible exact K30.Upd.here) | (with_reducible apply K30.Upd.there) | (with_reducible apply Sep.drew) | (with_reducible apply Sep.allocT) | (with_reducible apply Sep.setRU (g := g)) | (focus (omega; done)) | (with_reducible apply Sep.setU))); done)); intro xw hs; (try simp only [World.size_alloc, World.size_setCell, parV_set33, parV_set34, parV_set35, parV_set36, parV_set37, parV_set38, parV_set39, parV_set40, parV_set41, parV_set42] at hs); (try clear hcR hzR hlR); obtain ⟨hcR, hzR, hlR⟩ := hs.here (b := b) K32.rm; (try clear hcR39 hcR40); have hcR39 := (hcR 39).trans (parV_39 ..); have hcR40 := (hcR 40).trans (parV_40 ..); clear hcR; (try clear hxk hzk hlk); have hxk := (row_cells (hs.hereRow (v := .slice (some ⟨g, 0, none⟩) (k + 1) cp) K32.rm)).1 k (by omega) |>.trans HX.out; have hzk := (row_cells (hs.hereRow (v := .slice (some ⟨g, 0, none⟩) (k + 1) cp) K32.rm)).2.1 k; have hlk := (row_cells (hs.hereRow (v := .slice (some ⟨g, 0, none⟩) (k + 1) cp) K32.rm)).2.2.1; have HS := Lib.hid hs; clear hs; refine K32.reg0 (w := xw) [] [] 20 ?_; simp only [numbered, List.take_succ_cons, List.take_zero, List.drop_succ_cons, List.drop_zero, List.take_nil, List.drop_nil, Nat.reduceAdd]; (iterate 20 (refine K32.zd ?_; (try go_simp))); refine wz_nil ?_; intro wq hbq hLq; clear hLq ; have hcwq := cellA hbq; have hfwq := frozA hbq; have hzwq := hbq.size; (try simp at hzwq); have hs := HS.out.below hbq; (try clear hcR hzR hlR); obtain ⟨hcR, hzR, hlR⟩ := hs.here (b := b) K32.rm; (try clear hcR39 hcR40); have hcR39 := (hcR 39).trans (parV_39 ..); have hcR40 := (hcR 40).trans (parV_40 ..); clear hcR; (try clear hxk hzk hlk); have hxk := (row_cells (hs.hereRow (v := .slice (some ⟨g, 0, none⟩) (k + 1) cp) K32.rm)).1 k (by omega) |>.trans HX.out; have hzk := (row_cells (hs.hereRow (v := .slice (some ⟨g, 0, none⟩) (k + 1) cp) K32.rm)).2.1 k; have hlk := (row_cells (hs.hereRow (v := .slice (some ⟨g, 0, none⟩) (k + 1) cp) K32.rm)).2.2.1; have HS := Lib.hid hs; clear hs hcwq hfwq hzwq hbq))
  (first | go_end0 | refine bodyPost_ret (results_none rfl _ _ _) rfl ?_)
  refine ⟨⟨.slice (some ⟨g, 0, none⟩) (k + 1) cp, rfl, ?_⟩⟩
  (with_reducible apply K30.sep_end)
  (focus ((repeat' (first | (with_reducible exact HS.out) | (with_reducible exact K30.Upd.here) | (with_reducible apply K30.Upd.there) | (with_reducible apply Sep.drew) | (with_reducible apply Sep.allocT) | (with_reducible apply Sep.setRU (g := g)) | (focus (omega; done)) | (with_reducible apply Sep.setU))); done))
  intro hs
  (try simp only [World.size_alloc, World.size_setCell, parV_set33, parV_set34, parV_set35, parV_set36, parV_set37, parV_set38, parV_set39, parV_set40, parV_set41, parV_set42] at hs)
  rw [ints_set] at hs
  exact hs.end2 K32.rm K32.rm K32.sub
set_option maxHeartbeats 4000000 in
theorem digit_full (b : Nat) (P : Nat → Value) (v33 v34 v35 v36 v37 v38 v39 v40 v41 v42 v : Value) (t : TypeId) (l L : List Int) (d : Int) (F : List Res) (w : World) (hs : Sep w (.blk b (parV P v33 v34 v35 v36 v37 v38 v v40 v41 v42) t :: .row v 3 1 l.length (ints l) :: F)) (hl8 : l.length ≤ 8) (hL : (if l = [] then [-1] else l) = L) (h40 : v40 = .bool true) :
    Calls Tryz.prog 152 #[.pointer (some ⟨b, 0, none⟩), .int .i64 d] w (ExP fun v => .blk b (parV P v33 v34 v35 v36 v37 v38 v v40 v41 v42) t :: .row v 3 1 L.length (ints L) :: F) := by
  subst h40
  have HL := Lib.hid hL
  have HS := Lib.hid hs
  clear hs hL
  go_enter Tryz.func152, Tryz.ntmps152
  go_wp2_with (first | (go_at_call 150; refine (number_k b P v33 v34 v35 v36 v37 v38 v39 (.bool true) v41 v42 v t l L F w HS.out hl8 HL.out).mono ?_; rintro e w1 ⟨⟨v1, rfl, hs⟩⟩; (try clear hcR39 hcR40 hzR hlR); obtain ⟨hcR, hzR, hlR⟩ := hs.here (b := b) K32.rm; have hcR40 := (hcR 40).trans (parV_40 ..); clear hcR; have HS := Lib.hid hs; clear hs))
  (first | go_end0 | refine bodyPost_ret (results_none rfl _ _ _) rfl ?_)
  exact ⟨⟨_, rfl, HS.out⟩⟩
/-- a digit, on the numbers alone -/
def digL (l : List Int) (fu : Bool) (d : Int) : List Int :=
  if fu = true then (if l = [] then [-1] else l) else (if l = [] then [-1] else l).set ((if l = [] then [-1] else l).length - 1) (min (max ((if l = [] then [-1] else l).getD ((if l = [] then [-1] else l).length - 1) 0) 0 * 10 + d) 9999)
def NumsOk (l : List Int) : Prop := l.length ≤ 8 ∧ ∀ x ∈ l, -1 ≤ x ∧ x ≤ 9999
theorem digit_any (b : Nat) (P : Nat → Value) (v33 v34 v35 v36 v37 v38 v39 v40 v41 v42 v : Value) (t : TypeId) (l : List Int) (fu : Bool) (d : Int) (F : List Res) (w : World) (hs : Sep w (.blk b (parV P v33 v34 v35 v36 v37 v38 v v40 v41 v42) t :: .row v 3 1 l.length (ints l) :: F)) (ok : NumsOk l) (hd0 : 0 ≤ d) (hd1 : d ≤ 9) (h40 : v40 = .bool fu) :
    Calls Tryz.prog 152 #[.pointer (some ⟨b, 0, none⟩), .int .i64 d] w (ExP fun v => .blk b (parV P v33 v34 v35 v36 v37 v38 v v40 v41 v42) t :: .row v 3 1 (digL l fu d).length (ints (digL l fu d)) :: F) := by
  obtain ⟨L, hL⟩ : ∃ L, (if l = [] then [-1] else l) = L := ⟨_, rfl⟩
  have okL : L.length ≤ 8 ∧ 0 < L.length ∧ ∀ x ∈ L, -1 ≤ x ∧ x ≤ 9999 := by
    subst hL
    split
    · exact ⟨by simp, by simp, by intro x hx; simp at hx; omega⟩
    · rename_i h
      exact ⟨ok.1, List.length_pos_iff.2 h, ok.2⟩
  unfold digL
  rw [hL]
  cases fu with
  | true =>
    rw [if_pos rfl]
    exact digit_full b P v33 v34 v35 v36 v37 v38 v39 v40 v41 v42 v t l L d F w hs ok.1 hL h40
  | false =>
    rw [if_neg (by simp)]
    obtain ⟨k, hk⟩ : ∃ k, L.length = k + 1 := ⟨L.length - 1, by omega⟩
    have hx : L[k]? = some (L.getD k 0) := by rw [List.getD_eq_getElem?_getD, List.getElem?_eq_getElem (by omega)]; rfl
    have hb := okL.2.2 _ (List.mem_of_getElem? hx)
    have e := digit_k b P v33 v34 v35 v36 v37 v38 v39 v40 v41 v42 v t l L k _ d F w hs ok.1 hL hk (by omega) hx hb.1 hb.2 hd0 hd1 h40
    rw [List.length_set, hk, Nat.add_sub_cancel]
    exact e
end Go.Proofs.YtnjgnbdebkckfaaGreatDoor.E5
namespace Go.Proofs.YtnjgnbdebkckfaaGreatDoor.E6
set_option maxRecDepth 100000
open Go.RowKit K1 K3 K5 K11 K12 K14 K20 K21 K22 K25 K30 K31 M0 U2 P1 P3 P6 E2 E3 E4 E5
attribute [local go_sem] cell_pastA froz_pastA
structure ParP (b : Nat) (P : Nat → Value) (t : TypeId) (q : Pg) (tv ov : Value) (F : List Res) (e : Ending) (w' : World) : Prop where
  out : ∃ iv nv, e = .returned (.tuple #[]) ∧ Sep w' (.blk b (parV P (.int .i64 q.state) (.string ⟨q.half.toArray⟩) iv (.bool q.wrong) (.bool q.first) (.int .i64 q.mark) nv (.bool q.full) tv ov) t :: .row iv 5 1 q.inter.length (q.inter.map K14.u8) :: .row nv 3 1 q.nums.length (ints q.nums) :: F)
set_option maxHeartbeats 4000000 in
theorem param_bad (b : Nat) (P : Nat → Value) (p : Pg) (ia : Option Addr) (ic : Nat) (nv tv ov : Value) (t : TypeId) (c : UInt8) (F : List Res) (w : World) (hs : Sep w (.blk b (parV P (.int .i64 p.state) (.string ⟨p.half.toArray⟩) (.slice ia p.inter.length ic) (.bool p.wrong) (.bool p.first) (.int .i64 p.mark) nv (.bool p.full) tv ov) t :: .row (.slice ia p.inter.length ic) 5 1 p.inter.length (p.inter.map K14.u8) :: .row nv 3 1 p.nums.length (ints p.nums) :: F)) (h : p.inter ≠ [] ∨ c = 58 ∨ (59 < c ∧ p.first = false)) :
    Calls Tryz.prog 134 #[.pointer (some ⟨b, 0, none⟩), .int .u8 c.toNat] w (ParP b P t { p with first := false, wrong := true } tv ov F) := by
  have hc8 := c.toNat_lt
  replace h : p.inter.length ≠ 0 ∨ c.toNat = 58 ∨ (59 < c.toNat ∧ p.first = false) := by
    rcases h with h | h | h
    · exact .inl (by simpa using h)
    · subst h; exact .inr (.inl rfl)
    · exact .inr (.inr ⟨by have := UInt8.lt_iff_toNat_lt.1 h.1; simpa using this, h.2⟩)
  generalize c.toNat = k at h hc8 ⊢
  obtain ⟨fi, hfi⟩ : ∃ fi, p.first = fi := ⟨_, rfl⟩
  rw [hfi] at h hs
  obtain ⟨hcR, hzR, hlR⟩ := hs.here (b := b) K32.rm
  have hcR35 := (hcR 35).trans (parV_35 ..)
  have hcR36 := (hcR 36).trans (parV_36 ..)
  have hcR37 := (hcR 37).trans (parV_37 ..)
  have hcR38 := (hcR 38).trans (parV_38 ..)
  have hcR39 := (hcR 39).trans (parV_39 ..)
  have hcR40 := (hcR 40).trans (parV_40 ..)
  clear hcR
  have HS := Lib.hid hs
  clear hs
  by_cases hi : p.inter.length = 0
  · have hi0 : decide (0 < (p.inter.length : Int)) = false := decide_eq_false (by omega)
    by_cases h58 : k = 58
    · subst h58
      go_enter Tryz.func134, Tryz.ntmps134
      go_wp2_with fail
      (first | go_end0 | refine bodyPost_ret (results_none rfl _ _ _) rfl ?_)
      refine ⟨⟨.slice ia p.inter.length ic, nv, rfl, ?_⟩⟩
      ((with_reducible apply K30.sep_end); exact K32.fnd; intro hs; (try simp only [World.size_alloc, World.size_setCell, parV_set33, parV_set34, parV_set35, parV_set36, parV_set37, parV_set38, parV_set39, parV_set40, parV_set41, parV_set42] at hs); exact hs.end3 K32.rm K32.rm K32.rm K32.sub)
    · obtain ⟨h59, rfl⟩ : 59 < k ∧ fi = false := by rcases h with h | h | h; exact absurd hi h; exact absurd h h58; exact h
      go_enter Tryz.func134, Tryz.ntmps134
      go_wp2_with fail
      (first | go_end0 | refine bodyPost_ret (results_none rfl _ _ _) rfl ?_)
      refine ⟨⟨.slice ia p.inter.length ic, nv, rfl, ?_⟩⟩
      ((with_reducible apply K30.sep_end); exact K32.fnd; intro hs; (try simp only [World.size_alloc, World.size_setCell, parV_set33, parV_set34, parV_set35, parV_set36, parV_set37, parV_set38, parV_set39, parV_set40, parV_set41, parV_set42] at hs); exact hs.end3 K32.rm K32.rm K32.rm K32.sub)
  · have hi0 : decide (0 < (p.inter.length : Int)) = true := decide_eq_true (by omega)
    go_enter Tryz.func134, Tryz.ntmps134
    go_wp2_with fail
    all_goals
      (first | go_end0 | refine bodyPost_ret (results_none rfl _ _ _) rfl ?_)
      refine ⟨⟨.slice ia p.inter.length ic, nv, rfl, ?_⟩⟩
      ((with_reducible apply K30.sep_end); exact K32.fnd; intro hs; (try simp only [World.size_alloc, World.size_setCell, parV_set33, parV_set34, parV_set35, parV_set36, parV_set37, parV_set38, parV_set39, parV_set40, parV_set41, parV_set42] at hs); exact hs.end3 K32.rm K32.rm K32.rm K32.sub)
set_option maxHeartbeats 4000000 in
theorem param_mark (b : Nat) (P : Nat → Value) (p : Pg) (ia : Option Addr) (ic : Nat) (nv tv ov : Value) (t : TypeId) (c : UInt8) (F : List Res) (w : World) (hs : Sep w (.blk b (parV P (.int .i64 p.state) (.string ⟨p.half.toArray⟩) (.slice ia p.inter.length ic) (.bool p.wrong) (.bool p.first) (.int .i64 p.mark) nv (.bool p.full) tv ov) t :: .row (.slice ia p.inter.length ic) 5 1 p.inter.length (p.inter.map K14.u8) :: .row nv 3 1 p.nums.length (ints p.nums) :: F)) (hi : p.inter = []) (h : 59 < c.toNat) (hf : p.first = true) :
    Calls Tryz.prog 134 #[.pointer (some ⟨b, 0, none⟩), .int .u8 c.toNat] w (ParP b P t { p with first := false, mark := c.toNat } tv ov F) := by
  obtain ⟨st, hf', inr, wr, fi, mk, nm, fu, tx⟩ := p
  dsimp only at *
  subst hi hf
  have hc8 := c.toNat_lt
  have hi0 : ((0 : Nat) : Int) = 0 := rfl
  generalize hkc : c.toNat = k at h hc8 ⊢
  obtain ⟨hcR, hzR, hlR⟩ := hs.here (b := b) K32.rm
  have hcR35 := (hcR 35).trans (parV_35 ..)
  have hcR36 := (hcR 36).trans (parV_36 ..)
  have hcR37 := (hcR 37).trans (parV_37 ..)
  have hcR38 := (hcR 38).trans (parV_38 ..)
  have hcR39 := (hcR 39).trans (parV_39 ..)
  have hcR40 := (hcR 40).trans (parV_40 ..)
  clear hcR
  have HS := Lib.hid hs
  clear hs
  go_enter Tryz.func134, Tryz.ntmps134
  go_wp2_with fail
  (first | go_end0 | refine bodyPost_ret (results_none rfl _ _ _) rfl ?_)
  refine ⟨⟨.slice ia 0 ic, nv, rfl, ?_⟩⟩
  (with_reducible apply K30.sep_end)
  exact K32.fnd
  intro hs
  (try simp only [World.size_alloc, World.size_setCell, parV_set33, parV_set34, parV_set35, parV_set36, parV_set37, parV_set38, parV_set39, parV_set40, parV_set41, parV_set42] at hs)
  exact hs.end3 K32.rm K32.rm K32.rm K32.sub
end Go.Proofs.YtnjgnbdebkckfaaGreatDoor.E6
namespace Go.Proofs.YtnjgnbdebkckfaaGreatDoor.E7
set_option maxRecDepth 100000
open Go.RowKit K1 K3 K5 K11 K12 K14 K20 K21 K22 K25 K30 K31 M0 U2 P1 P3 P6 E2 E3 E4 E5 E6
attribute [local go_sem] cell_pastA froz_pastA
set_option maxHeartbeats 4000000 in
theorem param_semi (b : Nat) (P : Nat → Value) (p : Pg) (ia : Option Addr) (ic : Nat) (nv tv ov : Value) (t : TypeId) (c : UInt8) (F : List Res) (w : World) (hs : Sep w (.blk b (parV P (.int .i64 p.state) (.string ⟨p.half.toArray⟩) (.slice ia p.inter.length ic) (.bool p.wrong) (.bool p.first) (.int .i64 p.mark) nv (.bool p.full) tv ov) t :: .row (.slice ia p.inter.length ic) 5 1 p.inter.length (p.inter.map K14.u8) :: .row nv 3 1 p.nums.length (ints p.nums) :: F)) (hi : p.inter = []) (h : c.toNat = 59) (ok : NumsOk p.nums) :
    Calls Tryz.prog 134 #[.pointer (some ⟨b, 0, none⟩), .int .u8 c.toNat] w (ParP b P t (moreP (numberP { p with first := false })) tv ov F) := by
  obtain ⟨st, hf', inr, wr, fi, mk, nm, fu, tx⟩ := p
  dsimp only at *
  subst hi
  have hc8 := c.toNat_lt
  generalize c.toNat = k at *
  rw [List.length_nil] at hs
  obtain ⟨hcR, hzR, hlR⟩ := hs.here (b := b) K32.rm
  have hcR35 := (hcR 35).trans (parV_35 ..)
  have hcR36 := (hcR 36).trans (parV_36 ..)
  have hcR37 := (hcR 37).trans (parV_37 ..)
  have hcR38 := (hcR 38).trans (parV_38 ..)
  have hcR39 := (hcR 39).trans (parV_39 ..)
  have hcR40 := (hcR 40).trans (parV_40 ..)
  clear hcR
  have HS := Lib.hid hs
  clear hs
  subst h
  obtain ⟨L, hL⟩ : ∃ L, (if nm = [] then [-1] else nm) = L := ⟨_, rfl⟩
  have okL : L.length ≤ 8 := by
    subst hL
    split
    · simp
    · exact ok.1
  have e : moreP (numberP ⟨st, hf', [], wr, false, mk, nm, fu, tx⟩) = ⟨st, hf', [], wr, false, mk, if 8 ≤ L.length then L else L ++ [-1], if 8 ≤ L.length then true else fu, tx⟩ := by
    subst hL
    unfold numberP
    by_cases hn : nm = []
    · subst hn; simp [moreP]
    · by_cases h8 : 8 ≤ nm.length <;> simp [moreP, hn, h8]
  rw [e]
  have HL := Lib.hid hL
  have ok8 := ok.1
  generalize hM : (if 8 ≤ L.length then L else L ++ [-1]) = M
  generalize hfu : (if 8 ≤ L.length then true else fu) = fu2
  have HM := Lib.hid hM
  have HF := Lib.hid hfu
  clear hM hfu
  clear hL e ok
  go_enter Tryz.func134, Tryz.ntmps134
  go_wp2_with (first | (go_at_call 150; refine K32.ca (fun xw hs => ?_); (try simp only [World.size_alloc, World.size_setCell, parV_set33, parV_set34, parV_set35, parV_set36, parV_set37, parV_set38, parV_set39, parV_set40, parV_set41, parV_set42] at hs); have HS := Lib.hid hs; clear hs; have hs := HS.out.pick2 (r1 := .blk b (parV P (.int .i64 st) (.string ⟨hf'.toArray⟩) (.slice ia 0 ic) (.bool wr) (.bool false) (.int .i64 mk) nv (.bool fu) tv ov) t) (r2 := .row nv 3 1 nm.length (ints nm)) K32.rm K32.rm; refine (number_k b P (.int .i64 st) (.string ⟨hf'.toArray⟩) (.slice ia 0 ic) (.bool wr) (.bool false) (.int .i64 mk) nv (.bool fu) tv ov nv t nm L _ _ hs ok8 HL.out).mono ?_; clear hs; rintro e w1 ⟨⟨nv1, rfl, hs⟩⟩; (try clear hcR35 hcR36 hcR37 hcR38 hcR39 hcR40 hzR hlR); have HS := Lib.hid hs; clear hs) | (go_at_call 151; have hs := HS.out.pick2 (r1 := .blk b (parV P (.int .i64 st) (.string ⟨hf'.toArray⟩) (.slice ia 0 ic) (.bool wr) (.bool false) (.int .i64 mk) nv1 (.bool fu) tv ov) t) (r2 := .row nv1 3 1 L.length (ints L)) K32.rm K32.rm; refine (more_any b P (.int .i64 st) (.string ⟨hf'.toArray⟩) (.slice ia 0 ic) (.bool wr) (.bool false) (.int .i64 mk) nv1 (.bool fu) tv ov nv1 t L _ _ hs okL).mono ?_; clear hs; rintro e w2 ⟨⟨nv2, rfl, hs⟩⟩; have HS := Lib.hid hs; clear hs))
  (first | go_end0 | refine bodyPost_ret (results_none rfl _ _ _) rfl ?_)
  refine ⟨⟨.slice ia 0 ic, nv2, rfl, ?_⟩⟩
  have hs := HS.out
  have e3 : (if 8 ≤ L.length then Value.bool true else .bool fu) = .bool (if 8 ≤ L.length then true else fu) := by split <;> rfl
  rw [e3, HM.out, HF.out] at hs
  exact hs.end3 K32.rm K32.rm K32.rm K32.sub
set_option maxHeartbeats 4000000 in
theorem param_digit (b : Nat) (P : Nat → Value) (p : Pg) (ia : Option Addr) (ic : Nat) (nv tv ov : Value) (t : TypeId) (c : UInt8) (F : List Res) (w : World) (hs : Sep w (.blk b (parV P (.int .i64 p.state) (.string ⟨p.half.toArray⟩) (.slice ia p.inter.length ic) (.bool p.wrong) (.bool p.first) (.int .i64 p.mark) nv (.bool p.full) tv ov) t :: .row (.slice ia p.inter.length ic) 5 1 p.inter.length (p.inter.map K14.u8) :: .row nv 3 1 p.nums.length (ints p.nums) :: F)) (hi : p.inter = []) (h : 48 ≤ c.toNat) (h2 : c.toNat ≤ 57) (ok : NumsOk p.nums) :
    Calls Tryz.prog 134 #[.pointer (some ⟨b, 0, none⟩), .int .u8 c.toNat] w (ParP b P t (digitP { p with first := false } ((c.toNat : Int) - 48)) tv ov F) := by
  obtain ⟨st, hf', inr, wr, fi, mk, nm, fu, tx⟩ := p
  dsimp only at *
  subst hi
  have hc8 := c.toNat_lt
  generalize c.toNat = k at *
  rw [List.length_nil] at hs
  obtain ⟨hcR, hzR, hlR⟩ := hs.here (b := b) K32.rm
  have hcR35 := (hcR 35).trans (parV_35 ..)
  have hcR36 := (hcR 36).trans (parV_36 ..)
  have hcR37 := (hcR 37).trans (parV_37 ..)
  have hcR38 := (hcR 38).trans (parV_38 ..)
  have hcR39 := (hcR 39).trans (parV_39 ..)
  have hcR40 := (hcR 40).trans (parV_40 ..)
  clear hcR
  have HS := Lib.hid hs
  clear hs
  have e : digitP ⟨st, hf', [], wr, false, mk, nm, fu, tx⟩ ((k : Int) - 48) = ⟨st, hf', [], wr, false, mk, digL nm fu ((k : Int) - 48), fu, tx⟩ := by
    unfold digitP numberP digL
    by_cases hn : nm = []
    · subst hn; simp; split <;> rfl
    · simp [hn]; split <;> rfl
  rw [e]
  clear e
  go_enter Tryz.func134, Tryz.ntmps134
  go_wp2_with (first | (go_at_call 152; refine K32.ca (fun xw hs => ?_); (try simp only [World.size_alloc, World.size_setCell, parV_set33, parV_set34, parV_set35, parV_set36, parV_set37, parV_set38, parV_set39, parV_set40, parV_set41, parV_set42] at hs); have HS := Lib.hid hs; clear hs; have hs := HS.out.pick2 (r1 := .blk b (parV P (.int .i64 st) (.string ⟨hf'.toArray⟩) (.slice ia 0 ic) (.bool wr) (.bool false) (.int .i64 mk) nv (.bool fu) tv ov) t) (r2 := .row nv 3 1 nm.length (ints nm)) K32.rm K32.rm; refine (digit_any b P (.int .i64 st) (.string ⟨hf'.toArray⟩) (.slice ia 0 ic) (.bool wr) (.bool false) (.int .i64 mk) nv (.bool fu) tv ov nv t nm fu ((k : Int) - 48) _ _ hs ok (by omega) (by omega) rfl).mono ?_; clear hs; rintro e w1 ⟨⟨nv1, rfl, hs⟩⟩; have HS := Lib.hid hs; clear hs))
  (first | go_end0 | refine bodyPost_ret (results_none rfl _ _ _) rfl ?_)
  refine ⟨⟨.slice ia 0 ic, nv1, rfl, ?_⟩⟩
  exact HS.out.end3 K32.rm K32.rm K32.rm K32.sub
end Go.Proofs.YtnjgnbdebkckfaaGreatDoor.E7
namespace Go.Proofs.YtnjgnbdebkckfaaGreatDoor.E8
set_option maxRecDepth 100000
open Go.RowKit K1 K3 K5 K11 K12 K14 K20 K21 K22 K25 K30 K31 M0 U1 U2 P1 P3 P6 E2 E3 E4 E5 E6 E7
attribute [local go_sem] cell_pastA froz_pastA
theorem param_any (b : Nat) (P : Nat → Value) (p : Pg) (iv nv tv ov : Value) (t : TypeId) (c : UInt8) (F : List Res) (w : World) (hs : Sep w (.blk b (parV P (.int .i64 p.state) (.string ⟨p.half.toArray⟩) iv (.bool p.wrong) (.bool p.first) (.int .i64 p.mark) nv (.bool p.full) tv ov) t :: .row iv 5 1 p.inter.length (p.inter.map K14.u8) :: .row nv 3 1 p.nums.length (ints p.nums) :: F)) (ok : NumsOk p.nums) (h48 : 48 ≤ c.toNat) :
    Calls Tryz.prog 134 #[.pointer (some ⟨b, 0, none⟩), .int .u8 c.toNat] w (ParP b P t (paramP p c) tv ov F) := by
  obtain ⟨ia, ic, rfl⟩ := own_form (hs.hereRow (v := iv) K32.rm)
  unfold paramP
  by_cases h1 : p.inter ≠ [] ∨ c = 58 ∨ (59 < c ∧ p.first = false)
  · rw [if_pos h1]
    exact param_bad b P p ia ic nv tv ov t c F w hs h1
  · rw [if_neg h1]
    have hi : p.inter = [] := Classical.byContradiction fun h => h1 (.inl h)
    by_cases h2 : 59 < c
    · rw [if_pos h2]
      have hf : p.first = true := by
        cases hff : p.first with
        | true => rfl
        | false => exact absurd (.inr (.inr ⟨h2, hff⟩)) h1
      exact param_mark b P p ia ic nv tv ov t c F w hs hi (by simpa using UInt8.lt_iff_toNat_lt.1 h2) hf
    · rw [if_neg h2]
      have h2' : c.toNat ≤ 59 := by simpa using UInt8.le_iff_toNat_le.1 (UInt8.not_lt.1 h2)
      by_cases h3 : c = 59
      · rw [if_pos h3]
        exact param_semi b P p ia ic nv tv ov t c F w hs hi (by rw [h3]; rfl) ok
      · rw [if_neg h3]
        have h4 : c.toNat ≠ 59 := fun h => h3 (UInt8.toNat_inj.1 h)
        have h5 : c.toNat ≠ 58 := fun h => h1 (.inr (.inl (UInt8.toNat_inj.1 h)))
        exact param_digit b P p ia ic nv tv ov t c F w hs hi h48 (by omega) ok
set_option maxHeartbeats 4000000 in
theorem end_any (b : Nat) (P : Nat → Value) (v33 v34 v35 v36 v37 v38 v39 v40 v41 v42 tv ov : Value) (t : TypeId) (s : Nat) (l : List UInt8) (n : Nat) (xs : List Value) (F : List Res) (w : World) (hs : Sep w (.blk b (parV P (.int .i64 s) v34 v35 v36 v37 v38 v39 v40 tv ov) t :: .row tv 5 1 l.length (l.map K14.u8) :: .row ov 118 7 n xs :: F)) (hn : n ≤ 100000) :
    Calls Tryz.prog 94 #[.pointer (some ⟨b, 0, none⟩)] w (ExP fun ov => .blk b (parV P (.int .i64 s) v34 v35 v36 v37 v38 v39 v40 tv ov) t :: .row tv 5 1 l.length (l.map K14.u8) :: .row ov 118 7 (if s = 3 ∨ s = 4 then n + 1 else n) (if s = 3 then xs ++ actV ⟨5, 0, 0, 0, [], [], l⟩ (.slice none 0 0) else if s = 4 then xs ++ actV ⟨6, 0, 0, 0, [], [], l⟩ (.slice none 0 0) else xs) :: F) := by
  obtain ⟨ta, tc, rfl⟩ := own_form (hs.hereRow (v := tv) K32.rm)
  obtain ⟨hcR, hzR, hlR⟩ := hs.here (b := b) K32.rm
  have hcR33 := (hcR 33).trans (parV_33 ..)
  have hcR41 := (hcR 41).trans (parV_41 ..)
  have hcR42 := (hcR 42).trans (parV_42 ..)
  clear hcR
  have HS := Lib.hid hs
  have hcv := conv_own (HS.out.hereRow (v := .slice ta l.length tc) K32.rm) (n := l.length) (l := l) rfl
  clear hs
  by_cases h3 : s = 3
  · subst h3
    go_enter Tryz.func94, Tryz.ntmps94
    go_wp2_with (first | (go_at_call 129; refine K32.ca (fun xw hs => ?_); (try simp only [World.size_alloc, World.size_setCell, parV_set33, parV_set34, parV_set35, parV_set36, parV_set37, parV_set38, parV_set39, parV_set40, parV_set41, parV_set42] at hs); have HS := Lib.hid hs; clear hs; have hs := HS.out.pick2 (r1 := .blk b (parV P (.int .i64 3) v34 v35 v36 v37 v38 v39 v40 (.slice ta l.length tc) ov) t) (r2 := .row ov 118 7 n xs) K32.rm K32.rm; refine (tell_any b _ t ov n xs ⟨5, 0, 0, 0, [], [], l⟩ (.slice none 0 0) _ _ hs rfl (by omega) rfl).mono ?_; clear hs; rintro e w1 ⟨⟨ov1, rfl, hs⟩⟩; rw [parV_set42] at hs; (try clear hcR hzR hlR); obtain ⟨hcR, hzR, hlR⟩ := hs.here (b := b) K32.rm; (try clear hcR33 hcR41 hcR42); have hcR33 := (hcR 33).trans (parV_33 ..); have hcR41 := (hcR 41).trans (parV_41 ..); have hcR42 := (hcR 42).trans (parV_42 ..); clear hcR; have HS := Lib.hid hs; clear hs))
    (first | go_end0 | refine bodyPost_ret (results_none rfl _ _ _) rfl ?_)
    refine ⟨⟨ov1, rfl, ?_⟩⟩
    exact HS.out.end3 K32.rm K32.rm K32.rm K32.sub
  · by_cases h4 : s = 4
    · subst h4
      go_enter Tryz.func94, Tryz.ntmps94
      go_wp2_with (first | (go_at_call 129; refine K32.ca (fun xw hs => ?_); (try simp only [World.size_alloc, World.size_setCell, parV_set33, parV_set34, parV_set35, parV_set36, parV_set37, parV_set38, parV_set39, parV_set40, parV_set41, parV_set42] at hs); have HS := Lib.hid hs; clear hs; have hs := HS.out.pick2 (r1 := .blk b (parV P (.int .i64 4) v34 v35 v36 v37 v38 v39 v40 (.slice ta l.length tc) ov) t) (r2 := .row ov 118 7 n xs) K32.rm K32.rm; refine (tell_any b _ t ov n xs ⟨6, 0, 0, 0, [], [], l⟩ (.slice none 0 0) _ _ hs rfl (by omega) rfl).mono ?_; clear hs; rintro e w1 ⟨⟨ov1, rfl, hs⟩⟩; rw [parV_set42] at hs; (try clear hcR hzR hlR); obtain ⟨hcR, hzR, hlR⟩ := hs.here (b := b) K32.rm; (try clear hcR33 hcR41 hcR42); have hcR33 := (hcR 33).trans (parV_33 ..); have hcR41 := (hcR 41).trans (parV_41 ..); have hcR42 := (hcR 42).trans (parV_42 ..); clear hcR; have HS := Lib.hid hs; clear hs))
      (first | go_end0 | refine bodyPost_ret (results_none rfl _ _ _) rfl ?_)
      refine ⟨⟨ov1, rfl, ?_⟩⟩
      exact HS.out.end3 K32.rm K32.rm K32.rm K32.sub
    · have d3 : ((s : Int) == 3) = false := by simp; omega
      have d4 : ((s : Int) == 4) = false := by simp; omega
      rw [if_neg (by omega), if_neg h3, if_neg h4]
      clear h3 h4
      go_enter Tryz.func94, Tryz.ntmps94
      go_wp2_with fail
      (first | go_end0 | refine bodyPost_ret (results_none rfl _ _ _) rfl ?_)
      exact ⟨⟨ov, rfl, HS.out⟩⟩
end Go.Proofs.YtnjgnbdebkckfaaGreatDoor.E8
namespace Go.Proofs.YtnjgnbdebkckfaaGreatDoor.E9
set_option maxRecDepth 100000
open Go.RowKit K1 K3 K5 K11 K12 K14 K20 K21 K22 K25 K30 K31 M0 U1 U2 P1 P3 P6 E2 E3 E4 E5 E6 E7 E8
attribute [local go_sem] cell_pastA froz_pastA
structure PrI (b : Nat) (P : Nat → Value) (v33 v34 v35 v36 v37 v38 v39 v40 v41 v42 rv : Value) (t : TypeId) (l : List Int) (n : Nat) (xs : List Value) (F : List Res) (i : Value) (wr : World) : Prop where
  out : ∃ k ov, k ≤ l.length ∧ i = .int .i64 (k : Nat) ∧ Sep wr (.blk b (parV P v33 v34 v35 v36 v37 v38 v39 v40 v41 ov) t :: .row rv 21 1 l.length (rvs l) :: .row ov 118 7 (n + k) (xs ++ ((l.take k).flatMap fun r => actV (acPrint r) (.slice none 0 0))) :: F)
set_option maxHeartbeats 4000000 in
theorem print_any (b : Nat) (P : Nat → Value) (v33 v34 v35 v36 v37 v38 v39 v40 v41 v42 rv ov : Value) (t : TypeId) (l : List Int) (n : Nat) (xs : List Value) (F : List Res) (w : World) (hs : Sep w (.blk b (parV P v33 v34 v35 v36 v37 v38 v39 v40 v41 ov) t :: .row rv 21 1 l.length (rvs l) :: .row ov 118 7 n xs :: F)) (hn : n + l.length ≤ 100000) :
    Calls Tryz.prog 91 #[.pointer (some ⟨b, 0, none⟩), rv] w (ExP fun ov => .blk b (parV P v33 v34 v35 v36 v37 v38 v39 v40 v41 ov) t :: .row ov 118 7 (n + l.length) (xs ++ ((l).flatMap fun r => actV (acPrint r) (.slice none 0 0))) :: F) := by
  obtain ⟨ra, rc, rfl⟩ := own_form (hs.hereRow (v := rv) K32.rm)
  have HS := Lib.hid hs
  clear hs
  go_enter Tryz.func91, Tryz.ntmps91
  go_wp2_with fail
  go_loopw [8] (fun i wr => PrI b P v33 v34 v35 v36 v37 v38 v39 v40 v41 v42 (.slice ra l.length rc) t l n xs F i wr) (fun i _ => l.length - (intOf i).toNat)
  case atStart => exact ⟨0, ov, Nat.zero_le _, rfl, by simpa using HS.out⟩
  case round =>
    clear HS
    obtain ⟨⟨k, ov, hk, rfl, hs⟩⟩ := hrel
    by_cases hlt : k < l.length
    · obtain ⟨g, rc', hg⟩ := own_some (hs.hereRow (v := .slice ra l.length rc) K32.rm) (by omega)
      obtain ⟨rfl, hrc⟩ : ra = some ⟨g, 0, none⟩ ∧ rc = rc' := by cases hg; exact ⟨rfl, rfl⟩
      clear hg
      subst hrc
      obtain ⟨hrr, hqr, hgr, -, -⟩ := K30.row_cells (hs.hereRow (v := .slice (some ⟨g, 0, none⟩) l.length rc) K32.rm)
      obtain ⟨x, hx⟩ : ∃ x, l[k]? = some x := ⟨_, List.getElem?_eq_getElem hlt⟩
      have hxk := (hrr k (by omega)).trans (by unfold rvs; rw [List.getElem?_map, hx]; rfl : (rvs l)[k]? = some (.int .i32 x))
      have hqk := hqr k
      clear hrr hqr
      have HT : Hid ((l.take (k + 1)) = l.take k ++ [x]) := Lib.hid (by rw [List.take_add_one, hx]; rfl)
      generalize hL : l.take k = M at hs
      have HM := Lib.hid hL
      have HS := Lib.hid hs
      clear hs hL hx
      go_wp2_with (first | (go_at_call 129; refine K32.ca (fun xw hs => ?_); (try simp only [World.size_alloc, World.size_setCell, parV_set33, parV_set34, parV_set35, parV_set36, parV_set37, parV_set38, parV_set39, parV_set40, parV_set41, parV_set42] at hs); have HS := Lib.hid hs; clear hs; have hs := HS.out.pick2 (r1 := .blk b (parV P v33 v34 v35 v36 v37 v38 v39 v40 v41 ov) t) (r2 := .row ov 118 7 (n + k) (xs ++ ((M).flatMap fun r => actV (acPrint r) (.slice none 0 0)))) K32.rm K32.rm; refine (tell_any b _ t ov (n + k) (xs ++ ((M).flatMap fun r => actV (acPrint r) (.slice none 0 0))) (acPrint x) (.slice none 0 0) _ _ hs rfl (by omega) rfl).mono ?_; clear hs; rintro e w1 ⟨⟨ov1, rfl, hs⟩⟩; rw [parV_set42] at hs; (try clear hcR hzR hlR); obtain ⟨hcR, hzR, hlR⟩ := hs.here (b := b) K32.rm; (try clear hcR42); have hcR42 := (hcR 42).trans (parV_42 ..); clear hcR; have HS := Lib.hid hs; clear hs))
      go_roundw
      case rel =>
        refine ⟨⟨k + 1, ov1, by omega, by go_num, ?_⟩⟩
        have hs := HS.out.end3 (s1 := .blk b (parV P v33 v34 v35 v36 v37 v38 v39 v40 v41 ov1) t) (s2 := .row (.slice (some ⟨g, 0, none⟩) l.length rc) 21 1 l.length (rvs l)) (F := F) K32.rm K32.rm .here K32.sub
        rw [HT.out, HM.out, List.flatMap_append, ← List.append_assoc, ← Nat.add_assoc]
        simpa using hs
      case measure => simp [intOf]; omega
    · obtain rfl : k = l.length := by omega
      rw [List.take_length] at hs
      have HS := Lib.hid hs
      clear hs
      go_wp2_with fail
      (first | go_end0 | refine bodyPost_ret (results_none rfl _ _ _) rfl ?_)
      refine ⟨⟨ov, rfl, ?_⟩⟩
      exact HS.out.end2 K32.rm K32.rm K32.sub
end Go.Proofs.YtnjgnbdebkckfaaGreatDoor.E9
namespace Go.Proofs.YtnjgnbdebkckfaaGreatDoor.E10
set_option maxRecDepth 100000
open Go.RowKit K1 K3 K5 K11 K12 K14 K20 K21 K22 K25 K30 K31 M0 U1 U2 P1 P3 P6 E2 E3 E4 E5 E6 E7 E8 E9
attribute [local go_sem] cell_pastA froz_pastA
set_option maxHeartbeats 4000000 in
theorem fin2 (b : Nat) (P : Nat → Value) (v33 v34 v35 v36 v37 v38 v39 v40 v41 v42 ov : Value) (t : TypeId) (x : ByteArray) (ia : Option Addr) (ic : Nat) (l : List UInt8) (c : UInt8) (wr : Bool) (n : Nat) (xs : List Value) (F : List Res) (w : World) (hs : Sep w (.blk b (parV P v33 (.string x) (.slice ia l.length ic) (.bool wr) v37 v38 v39 v40 v41 ov) t :: .row (.slice ia l.length ic) 5 1 l.length (l.map K14.u8) :: .row ov 118 7 n xs :: F)) (hn : n ≤ 100000) (hl : l = []) (hc : c.toNat = 91) :
    Calls Tryz.prog 133 #[.pointer (some ⟨b, 0, none⟩), .int .u8 c.toNat] w (ExP fun ov => .blk b (parV P (.int .i64 2) (.string x) (.slice none 0 0) (.bool false) (.bool true) (.int .i64 0) (.slice none 0 0) (.bool false) (.slice none 0 0) ov) t :: .row (.slice ia l.length ic) 5 1 l.length (l.map K14.u8) :: .row ov 118 7 n xs :: F) := by
  obtain ⟨hcR, hzR, hlR⟩ := hs.here (b := b) K32.rm
  have hcR34 := (hcR 34).trans (parV_34 ..)
  have hcR35 := (hcR 35).trans (parV_35 ..)
  have hcR36 := (hcR 36).trans (parV_36 ..)
  have hcR42 := (hcR 42).trans (parV_42 ..)
  clear hcR
  have HS := Lib.hid hs
  have hcv := conv_own (HS.out.hereRow (v := .slice ia l.length ic) K32.rm) (n := l.length) (l := l) rfl
  clear hs
  have hc8 := c.toNat_lt
  subst hl
  rw [hc]
  go_enter Tryz.func133, Tryz.ntmps133
  go_wp2_with (first | (go_at_call 93; refine K32.ca (fun xw hs => ?_); (try simp only [World.size_alloc, World.size_setCell, parV_set33, parV_set34, parV_set35, parV_set36, parV_set37, parV_set38, parV_set39, parV_set40, parV_set41, parV_set42] at hs); have HS := Lib.hid hs; clear hs; have hs := HS.out.pick (r1 := .blk b (parV P v33 (.string x) (.slice ia ([] : List UInt8).length ic) (.bool wr) v37 v38 v39 v40 v41 ov) t) K32.rm; refine (begin_any b P v33 (.string x) (.slice ia ([] : List UInt8).length ic) (.bool wr) v37 v38 v39 v40 v41 ov t 2 x _ _ hs rfl).mono ?_; clear hs; rintro e w9 ⟨rfl, hs⟩; have HS := Lib.hid hs; clear hs))
  (first | go_end0 | refine bodyPost_ret (results_none rfl _ _ _) rfl ?_)
  refine ⟨⟨ov, rfl, ?_⟩⟩
  exact HS.out.end3 K32.rm K32.rm K32.rm K32.sub
set_option maxHeartbeats 4000000 in
theorem fin3 (b : Nat) (P : Nat → Value) (v33 v34 v35 v36 v37 v38 v39 v40 v41 v42 ov : Value) (t : TypeId) (x : ByteArray) (ia : Option Addr) (ic : Nat) (l : List UInt8) (c : UInt8) (wr : Bool) (n : Nat) (xs : List Value) (F : List Res) (w : World) (hs : Sep w (.blk b (parV P v33 (.string x) (.slice ia l.length ic) (.bool wr) v37 v38 v39 v40 v41 ov) t :: .row (.slice ia l.length ic) 5 1 l.length (l.map K14.u8) :: .row ov 118 7 n xs :: F)) (hn : n ≤ 100000) (hl : l = []) (hc : c.toNat = 93) :
    Calls Tryz.prog 133 #[.pointer (some ⟨b, 0, none⟩), .int .u8 c.toNat] w (ExP fun ov => .blk b (parV P (.int .i64 3) (.string x) (.slice none 0 0) (.bool false) (.bool true) (.int .i64 0) (.slice none 0 0) (.bool false) (.slice none 0 0) ov) t :: .row (.slice ia l.length ic) 5 1 l.length (l.map K14.u8) :: .row ov 118 7 n xs :: F) := by
  obtain ⟨hcR, hzR, hlR⟩ := hs.here (b := b) K32.rm
  have hcR34 := (hcR 34).trans (parV_34 ..)
  have hcR35 := (hcR 35).trans (parV_35 ..)
  have hcR36 := (hcR 36).trans (parV_36 ..)
  have hcR42 := (hcR 42).trans (parV_42 ..)
  clear hcR
  have HS := Lib.hid hs
  have hcv := conv_own (HS.out.hereRow (v := .slice ia l.length ic) K32.rm) (n := l.length) (l := l) rfl
  clear hs
  have hc8 := c.toNat_lt
  subst hl
  rw [hc]
  go_enter Tryz.func133, Tryz.ntmps133
  go_wp2_with (first | (go_at_call 93; refine K32.ca (fun xw hs => ?_); (try simp only [World.size_alloc, World.size_setCell, parV_set33, parV_set34, parV_set35, parV_set36, parV_set37, parV_set38, parV_set39, parV_set40, parV_set41, parV_set42] at hs); have HS := Lib.hid hs; clear hs; have hs := HS.out.pick (r1 := .blk b (parV P v33 (.string x) (.slice ia ([] : List UInt8).length ic) (.bool wr) v37 v38 v39 v40 v41 ov) t) K32.rm; refine (begin_any b P v33 (.string x) (.slice ia ([] : List UInt8).length ic) (.bool wr) v37 v38 v39 v40 v41 ov t 3 x _ _ hs rfl).mono ?_; clear hs; rintro e w9 ⟨rfl, hs⟩; have HS := Lib.hid hs; clear hs))
  (first | go_end0 | refine bodyPost_ret (results_none rfl _ _ _) rfl ?_)
  refine ⟨⟨ov, rfl, ?_⟩⟩
  exact HS.out.end3 K32.rm K32.rm K32.rm K32.sub
set_option maxHeartbeats 4000000 in
theorem fin4 (b : Nat) (P : Nat → Value) (v33 v34 v35 v36 v37 v38 v39 v40 v41 v42 ov : Value) (t : TypeId) (x : ByteArray) (ia : Option Addr) (ic : Nat) (l : List UInt8) (c : UInt8) (wr : Bool) (n : Nat) (xs : List Value) (F : List Res) (w : World) (hs : Sep w (.blk b (parV P v33 (.string x) (.slice ia l.length ic) (.bool wr) v37 v38 v39 v40 v41 ov) t :: .row (.slice ia l.length ic) 5 1 l.length (l.map K14.u8) :: .row ov 118 7 n xs :: F)) (hn : n ≤ 100000) (hl : l = []) (hc : c.toNat = 80) :
    Calls Tryz.prog 133 #[.pointer (some ⟨b, 0, none⟩), .int .u8 c.toNat] w (ExP fun ov => .blk b (parV P (.int .i64 4) (.string x) (.slice none 0 0) (.bool false) (.bool true) (.int .i64 0) (.slice none 0 0) (.bool false) (.slice none 0 0) ov) t :: .row (.slice ia l.length ic) 5 1 l.length (l.map K14.u8) :: .row ov 118 7 n xs :: F) := by
  obtain ⟨hcR, hzR, hlR⟩ := hs.here (b := b) K32.rm
  have hcR34 := (hcR 34).trans (parV_34 ..)
  have hcR35 := (hcR 35).trans (parV_35 ..)
  have hcR36 := (hcR 36).trans (parV_36 ..)
  have hcR42 := (hcR 42).trans (parV_42 ..)
  clear hcR
  have HS := Lib.hid hs
  have hcv := conv_own (HS.out.hereRow (v := .slice ia l.length ic) K32.rm) (n := l.length) (l := l) rfl
  clear hs
  have hc8 := c.toNat_lt
  subst hl
  rw [hc]
  go_enter Tryz.func133, Tryz.ntmps133
  go_wp2_with (first | (go_at_call 93; refine K32.ca (fun xw hs => ?_); (try simp only [World.size_alloc, World.size_setCell, parV_set33, parV_set34, parV_set35, parV_set36, parV_set37, parV_set38, parV_set39, parV_set40, parV_set41, parV_set42] at hs); have HS := Lib.hid hs; clear hs; have hs := HS.out.pick (r1 := .blk b (parV P v33 (.string x) (.slice ia ([] : List UInt8).length ic) (.bool wr) v37 v38 v39 v40 v41 ov) t) K32.rm; refine (begin_any b P v33 (.string x) (.slice ia ([] : List UInt8).length ic) (.bool wr) v37 v38 v39 v40 v41 ov t 4 x _ _ hs rfl).mono ?_; clear hs; rintro e w9 ⟨rfl, hs⟩; have HS := Lib.hid hs; clear hs))
  (first | go_end0 | refine bodyPost_ret (results_none rfl _ _ _) rfl ?_)
  refine ⟨⟨ov, rfl, ?_⟩⟩
  exact HS.out.end3 K32.rm K32.rm K32.rm K32.sub
set_option maxHeartbeats 4000000 in
theorem fin0at (b : Nat) (P : Nat → Value) (v33 v34 v35 v36 v37 v38 v39 v40 v41 v42 ov : Value) (t : TypeId) (x : ByteArray) (ia : Option Addr) (ic : Nat) (l : List UInt8) (c : UInt8) (wr : Bool) (n : Nat) (xs : List Value) (F : List Res) (w : World) (hs : Sep w (.blk b (parV P v33 (.string x) (.slice ia l.length ic) (.bool wr) v37 v38 v39 v40 v41 ov) t :: .row (.slice ia l.length ic) 5 1 l.length (l.map K14.u8) :: .row ov 118 7 n xs :: F)) (hn : n ≤ 100000) (hl : l = []) (h91 : c.toNat ≠ 91) (h93 : c.toNat ≠ 93) (h80 : c.toNat ≠ 80) (hw : wr = true) :
    Calls Tryz.prog 133 #[.pointer (some ⟨b, 0, none⟩), .int .u8 c.toNat] w (ExP fun ov => .blk b (parV P (.int .i64 0) (.string x) (.slice none 0 0) (.bool false) (.bool true) (.int .i64 0) (.slice none 0 0) (.bool false) (.slice none 0 0) ov) t :: .row (.slice ia l.length ic) 5 1 l.length (l.map K14.u8) :: .row ov 118 7 n xs :: F) := by
  subst hl
  rw [List.length_nil] at hs
  obtain ⟨hcR, hzR, hlR⟩ := hs.here (b := b) K32.rm
  have hcR34 := (hcR 34).trans (parV_34 ..)
  have hcR35 := (hcR 35).trans (parV_35 ..)
  have hcR36 := (hcR 36).trans (parV_36 ..)
  have hcR42 := (hcR 42).trans (parV_42 ..)
  clear hcR
  have HS := Lib.hid hs
  have hcv := conv_own (HS.out.hereRow (v := .slice ia 0 ic) K32.rm) (n := 0) (l := []) rfl
  clear hs
  have hc8 := c.toNat_lt
  subst hw
  go_enter Tryz.func133, Tryz.ntmps133
  go_wp2_with (first | (go_at_call 93; refine K32.ca (fun xw hs => ?_); (try simp only [World.size_alloc, World.size_setCell, parV_set33, parV_set34, parV_set35, parV_set36, parV_set37, parV_set38, parV_set39, parV_set40, parV_set41, parV_set42] at hs); have HS := Lib.hid hs; clear hs; have hs := HS.out.pick (r1 := .blk b (parV P v33 (.string x) (.slice ia 0 ic) (.bool true) v37 v38 v39 v40 v41 ov) t) K32.rm; refine (begin_any b P v33 (.string x) (.slice ia 0 ic) (.bool true) v37 v38 v39 v40 v41 ov t 0 x _ _ hs rfl).mono ?_; clear hs; rintro e w9 ⟨rfl, hs⟩; have HS := Lib.hid hs; clear hs))
  (first | go_end0 | refine bodyPost_ret (results_none rfl _ _ _) rfl ?_)
  refine ⟨⟨ov, rfl, ?_⟩⟩
  exact HS.out.end3 K32.rm K32.rm K32.rm K32.sub
set_option maxHeartbeats 4000000 in
theorem fin0af (b : Nat) (P : Nat → Value) (v33 v34 v35 v36 v37 v38 v39 v40 v41 v42 ov : Value) (t : TypeId) (x : ByteArray) (ia : Option Addr) (ic : Nat) (l : List UInt8) (c : UInt8) (wr : Bool) (n : Nat) (xs : List Value) (F : List Res) (w : World) (hs : Sep w (.blk b (parV P v33 (.string x) (.slice ia l.length ic) (.bool wr) v37 v38 v39 v40 v41 ov) t :: .row (.slice ia l.length ic) 5 1 l.length (l.map K14.u8) :: .row ov 118 7 n xs :: F)) (hn : n ≤ 100000) (hl : l = []) (h91 : c.toNat ≠ 91) (h93 : c.toNat ≠ 93) (h80 : c.toNat ≠ 80) (hw : wr = false) :
    Calls Tryz.prog 133 #[.pointer (some ⟨b, 0, none⟩), .int .u8 c.toNat] w (ExP fun ov => .blk b (parV P (.int .i64 0) (.string x) (.slice none 0 0) (.bool false) (.bool true) (.int .i64 0) (.slice none 0 0) (.bool false) (.slice none 0 0) ov) t :: .row (.slice ia l.length ic) 5 1 l.length (l.map K14.u8) :: .row ov 118 7 (n + 1) (xs ++ actV ⟨3, 0, c.toNat, 0, [], l, []⟩ (.slice none 0 0)) :: F) := by
  subst hl
  rw [List.length_nil] at hs
  obtain ⟨hcR, hzR, hlR⟩ := hs.here (b := b) K32.rm
  have hcR34 := (hcR 34).trans (parV_34 ..)
  have hcR35 := (hcR 35).trans (parV_35 ..)
  have hcR36 := (hcR 36).trans (parV_36 ..)
  have hcR42 := (hcR 42).trans (parV_42 ..)
  clear hcR
  have HS := Lib.hid hs
  have hcv := conv_own (HS.out.hereRow (v := .slice ia 0 ic) K32.rm) (n := 0) (l := []) rfl
  clear hs
  have hc8 := c.toNat_lt
  subst hw
  go_enter Tryz.func133, Tryz.ntmps133
  go_wp2_with (first | (go_at_call 129; refine K32.ca (fun xw hs => ?_); (try simp only [World.size_alloc, World.size_setCell, parV_set33, parV_set34, parV_set35, parV_set36, parV_set37, parV_set38, parV_set39, parV_set40, parV_set41, parV_set42] at hs); have HS := Lib.hid hs; clear hs; have hs := HS.out.pick2 (r1 := .blk b (parV P v33 (.string x) (.slice ia 0 ic) (.bool false) v37 v38 v39 v40 v41 ov) t) (r2 := .row ov 118 7 n xs) K32.rm K32.rm; refine (tell_any b _ t ov n xs ⟨3, 0, c.toNat, 0, [], [], []⟩ (.slice none 0 0) _ _ hs rfl (by omega) rfl).mono ?_; clear hs; rintro e w1 ⟨⟨ov1, rfl, hs⟩⟩; rw [parV_set42] at hs; (try clear hcR hzR hlR); obtain ⟨hcR, hzR, hlR⟩ := hs.here (b := b) K32.rm; (try clear hcR34 hcR35 hcR36 hcR42); have hcR34 := (hcR 34).trans (parV_34 ..); have hcR35 := (hcR 35).trans (parV_35 ..); have hcR36 := (hcR 36).trans (parV_36 ..); have hcR42 := (hcR 42).trans (parV_42 ..); clear hcR; have HS := Lib.hid hs; clear hs) | (go_at_call 93; refine K32.ca (fun xw hs => ?_); (try simp only [World.size_alloc, World.size_setCell, parV_set33, parV_set34, parV_set35, parV_set36, parV_set37, parV_set38, parV_set39, parV_set40, parV_set41, parV_set42] at hs); have HS := Lib.hid hs; clear hs; have hs := HS.out.pick (r1 := .blk b (parV P v33 (.string x) (.slice ia 0 ic) (.bool false) v37 v38 v39 v40 v41 ov1) t) K32.rm; refine (begin_any b P v33 (.string x) (.slice ia 0 ic) (.bool false) v37 v38 v39 v40 v41 ov1 t 0 x _ _ hs rfl).mono ?_; clear hs; rintro e w9 ⟨rfl, hs⟩; have HS := Lib.hid hs; clear hs))
  (first | go_end0 | refine bodyPost_ret (results_none rfl _ _ _) rfl ?_)
  refine ⟨⟨ov1, rfl, ?_⟩⟩
  exact HS.out.end3 K32.rm K32.rm K32.rm K32.sub
set_option maxHeartbeats 4000000 in
theorem fin0bt (b : Nat) (P : Nat → Value) (v33 v34 v35 v36 v37 v38 v39 v40 v41 v42 ov : Value) (t : TypeId) (x : ByteArray) (ia : Option Addr) (ic : Nat) (l : List UInt8) (c : UInt8) (wr : Bool) (n : Nat) (xs : List Value) (F : List Res) (w : World) (hs : Sep w (.blk b (parV P v33 (.string x) (.slice ia l.length ic) (.bool wr) v37 v38 v39 v40 v41 ov) t :: .row (.slice ia l.length ic) 5 1 l.length (l.map K14.u8) :: .row ov 118 7 n xs :: F)) (hn : n ≤ 100000) (hl : l ≠ []) (hw : wr = true) :
    Calls Tryz.prog 133 #[.pointer (some ⟨b, 0, none⟩), .int .u8 c.toNat] w (ExP fun ov => .blk b (parV P (.int .i64 0) (.string x) (.slice none 0 0) (.bool false) (.bool true) (.int .i64 0) (.slice none 0 0) (.bool false) (.slice none 0 0) ov) t :: .row (.slice ia l.length ic) 5 1 l.length (l.map K14.u8) :: .row ov 118 7 n xs :: F) := by
  obtain ⟨hcR, hzR, hlR⟩ := hs.here (b := b) K32.rm
  have hcR34 := (hcR 34).trans (parV_34 ..)
  have hcR35 := (hcR 35).trans (parV_35 ..)
  have hcR36 := (hcR 36).trans (parV_36 ..)
  have hcR42 := (hcR 42).trans (parV_42 ..)
  clear hcR
  have HS := Lib.hid hs
  have hcv := conv_own (HS.out.hereRow (v := .slice ia l.length ic) K32.rm) (n := l.length) (l := l) rfl
  clear hs
  have hc8 := c.toNat_lt
  have hl0 : ((l.length : Int) == 0) = false := by simpa using hl
  subst hw
  go_enter Tryz.func133, Tryz.ntmps133
  go_wp2_with (first | (go_at_call 93; refine K32.ca (fun xw hs => ?_); (try simp only [World.size_alloc, World.size_setCell, parV_set33, parV_set34, parV_set35, parV_set36, parV_set37, parV_set38, parV_set39, parV_set40, parV_set41, parV_set42] at hs); have HS := Lib.hid hs; clear hs; have hs := HS.out.pick (r1 := .blk b (parV P v33 (.string x) (.slice ia l.length ic) (.bool true) v37 v38 v39 v40 v41 ov) t) K32.rm; refine (begin_any b P v33 (.string x) (.slice ia l.length ic) (.bool true) v37 v38 v39 v40 v41 ov t 0 x _ _ hs rfl).mono ?_; clear hs; rintro e w9 ⟨rfl, hs⟩; have HS := Lib.hid hs; clear hs))
  (first | go_end0 | refine bodyPost_ret (results_none rfl _ _ _) rfl ?_)
  refine ⟨⟨ov, rfl, ?_⟩⟩
  exact HS.out.end3 K32.rm K32.rm K32.rm K32.sub
set_option maxHeartbeats 4000000 in
theorem fin0bf (b : Nat) (P : Nat → Value) (v33 v34 v35 v36 v37 v38 v39 v40 v41 v42 ov : Value) (t : TypeId) (x : ByteArray) (ia : Option Addr) (ic : Nat) (l : List UInt8) (c : UInt8) (wr : Bool) (n : Nat) (xs : List Value) (F : List Res) (w : World) (hs : Sep w (.blk b (parV P v33 (.string x) (.slice ia l.length ic) (.bool wr) v37 v38 v39 v40 v41 ov) t :: .row (.slice ia l.length ic) 5 1 l.length (l.map K14.u8) :: .row ov 118 7 n xs :: F)) (hn : n ≤ 100000) (hl : l ≠ []) (hw : wr = false) :
    Calls Tryz.prog 133 #[.pointer (some ⟨b, 0, none⟩), .int .u8 c.toNat] w (ExP fun ov => .blk b (parV P (.int .i64 0) (.string x) (.slice none 0 0) (.bool false) (.bool true) (.int .i64 0) (.slice none 0 0) (.bool false) (.slice none 0 0) ov) t :: .row (.slice ia l.length ic) 5 1 l.length (l.map K14.u8) :: .row ov 118 7 (n + 1) (xs ++ actV ⟨3, 0, c.toNat, 0, [], l, []⟩ (.slice none 0 0)) :: F) := by
  obtain ⟨hcR, hzR, hlR⟩ := hs.here (b := b) K32.rm
  have hcR34 := (hcR 34).trans (parV_34 ..)
  have hcR35 := (hcR 35).trans (parV_35 ..)
  have hcR36 := (hcR 36).trans (parV_36 ..)
  have hcR42 := (hcR 42).trans (parV_42 ..)
  clear hcR
  have HS := Lib.hid hs
  have hcv := conv_own (HS.out.hereRow (v := .slice ia l.length ic) K32.rm) (n := l.length) (l := l) rfl
  clear hs
  have hc8 := c.toNat_lt
  have hl0 : ((l.length : Int) == 0) = false := by simpa using hl
  subst hw
  go_enter Tryz.func133, Tryz.ntmps133
  go_wp2_with (first | (go_at_call 129; refine K32.ca (fun xw hs => ?_); (try simp only [World.size_alloc, World.size_setCell, parV_set33, parV_set34, parV_set35, parV_set36, parV_set37, parV_set38, parV_set39, parV_set40, parV_set41, parV_set42] at hs); have HS := Lib.hid hs; clear hs; have hs := HS.out.pick2 (r1 := .blk b (parV P v33 (.string x) (.slice ia l.length ic) (.bool false) v37 v38 v39 v40 v41 ov) t) (r2 := .row ov 118 7 n xs) K32.rm K32.rm; refine (tell_any b _ t ov n xs ⟨3, 0, c.toNat, 0, [], l, []⟩ (.slice none 0 0) _ _ hs rfl (by omega) rfl).mono ?_; clear hs; rintro e w1 ⟨⟨ov1, rfl, hs⟩⟩; rw [parV_set42] at hs; (try clear hcR hzR hlR); obtain ⟨hcR, hzR, hlR⟩ := hs.here (b := b) K32.rm; (try clear hcR34 hcR35 hcR36 hcR42); have hcR34 := (hcR 34).trans (parV_34 ..); have hcR35 := (hcR 35).trans (parV_35 ..); have hcR36 := (hcR 36).trans (parV_36 ..); have hcR42 := (hcR 42).trans (parV_42 ..); clear hcR; have HS := Lib.hid hs; clear hs) | (go_at_call 93; refine K32.ca (fun xw hs => ?_); (try simp only [World.size_alloc, World.size_setCell, parV_set33, parV_set34, parV_set35, parV_set36, parV_set37, parV_set38, parV_set39, parV_set40, parV_set41, parV_set42] at hs); have HS := Lib.hid hs; clear hs; have hs := HS.out.pick (r1 := .blk b (parV P v33 (.string x) (.slice ia l.length ic) (.bool false) v37 v38 v39 v40 v41 ov1) t) K32.rm; refine (begin_any b P v33 (.string x) (.slice ia l.length ic) (.bool false) v37 v38 v39 v40 v41 ov1 t 0 x _ _ hs rfl).mono ?_; clear hs; rintro e w9 ⟨rfl, hs⟩; have HS := Lib.hid hs; clear hs))
  (first | go_end0 | refine bodyPost_ret (results_none rfl _ _ _) rfl ?_)
  refine ⟨⟨ov1, rfl, ?_⟩⟩
  exact HS.out.end3 K32.rm K32.rm K32.rm K32.sub
end Go.Proofs.YtnjgnbdebkckfaaGreatDoor.E10
namespace Go.Proofs.YtnjgnbdebkckfaaGreatDoor.E11
set_option maxRecDepth 100000
open Go.RowKit K1 K3 K5 K11 K12 K14 K20 K21 K22 K25 K30 K31 M0 U1 U2 P1 P3 P6 E2 E3 E4 E5 E6 E7 E8 E9 E10
attribute [local go_sem] cell_pastA froz_pastA
set_option maxHeartbeats 4000000 in
theorem disp_t (b : Nat) (P : Nat → Value) (v33 v34 v35 v36 v37 v38 v39 v40 v41 v42 ov : Value) (s : Nat) (fi fu : Bool) (na ta : Option Addr) (nl nc tl tc : Nat) (t : TypeId) (x : ByteArray) (ia : Option Addr) (ic : Nat) (l : List UInt8) (c : UInt8) (mk : Int) (m : List Int) (n : Nat) (xs : List Value) (F : List Res) (w : World) (hs : Sep w (.blk b (parV P (.int .i64 s) (.string x) (.slice ia l.length ic) (.bool true) (.bool fi) (.int .i64 mk) (.slice na nl nc) (.bool fu) (.slice ta tl tc) ov) t :: .row (.slice ia l.length ic) 5 1 l.length (l.map K14.u8) :: .row ov 118 7 n xs :: F)) (hn : n ≤ 100000) :
    Calls Tryz.prog 135 #[.pointer (some ⟨b, 0, none⟩), .int .u8 c.toNat] w (ExP fun ov => .blk b (parV P (.int .i64 0) (.string x) (.slice none 0 0) (.bool false) (.bool true) (.int .i64 0) (.slice none 0 0) (.bool false) (.slice none 0 0) ov) t :: .row (.slice ia l.length ic) 5 1 l.length (l.map K14.u8) :: .row ov 118 7 n xs :: F) := by
  obtain ⟨hcR, hzR, hlR⟩ := hs.here (b := b) K32.rm
  have hcR33 := (hcR 33).trans (parV_33 ..)
  have hcR34 := (hcR 34).trans (parV_34 ..)
  have hcR35 := (hcR 35).trans (parV_35 ..)
  have hcR36 := (hcR 36).trans (parV_36 ..)
  have hcR37 := (hcR 37).trans (parV_37 ..)
  have hcR38 := (hcR 38).trans (parV_38 ..)
  have hcR39 := (hcR 39).trans (parV_39 ..)
  have hcR40 := (hcR 40).trans (parV_40 ..)
  have hcR41 := (hcR 41).trans (parV_41 ..)
  have hcR42 := (hcR 42).trans (parV_42 ..)
  clear hcR
  have HS := Lib.hid hs
  clear hs
  have hc8 := c.toNat_lt
  go_enter Tryz.func135, Tryz.ntmps135
  go_wp2_with (first | (go_at_call 93; refine K32.ca (fun xw hs => ?_); (try simp only [World.size_alloc, World.size_setCell, parV_set33, parV_set34, parV_set35, parV_set36, parV_set37, parV_set38, parV_set39, parV_set40, parV_set41, parV_set42] at hs); have HS := Lib.hid hs; clear hs; have hs := HS.out.pick (r1 := .blk b (parV P (.int .i64 s) (.string x) (.slice ia l.length ic) (.bool true) (.bool fi) (.int .i64 mk) (.slice na nl nc) (.bool fu) (.slice ta tl tc) ov) t) K32.rm; refine (begin_any b P (.int .i64 s) (.string x) (.slice ia l.length ic) (.bool true) (.bool fi) (.int .i64 mk) (.slice na nl nc) (.bool fu) (.slice ta tl tc) ov t 0 x _ _ hs rfl).mono ?_; clear hs; rintro e w9 ⟨rfl, hs⟩; (try clear hcR hzR hlR); (try clear hcX hzX hlX); obtain ⟨hcR, hzR, hlR⟩ := hs.here (b := b) K32.rm; obtain ⟨hcX, hzX, hlX⟩ := hs.here (b := w.heap.size) K32.rm; (try clear hcR34 hcR42); have hcR34 := (hcR 34).trans (parV_34 ..); have hcR42 := (hcR 42).trans (parV_42 ..); clear hcR; (try clear hcX2 hcX3 hcX5 hcX6); have hcX2 := hcX 2; have hcX3 := hcX 3; have hcX5 := hcX 5; have hcX6 := hcX 6; clear hcX; simp only [List.getElem?_cons_zero, List.getElem?_cons_succ] at hcX2 hcX3 hcX5 hcX6; have hcv := conv_own (hs.hereRow (v := .slice ia l.length ic) K32.rm) (n := l.length) (l := l) rfl; have HS := Lib.hid hs; clear hs))
  (first | go_end0 | refine bodyPost_ret (results_none rfl _ _ _) rfl ?_)
  refine ⟨⟨ov, rfl, ?_⟩⟩
  exact HS.out.end3 K32.rm K32.rm K32.rm K32.sub
set_option maxHeartbeats 4000000 in
theorem disp_f (b : Nat) (P : Nat → Value) (v33 v34 v35 v36 v37 v38 v39 v40 v41 v42 ov : Value) (s : Nat) (fi fu : Bool) (na ta : Option Addr) (nl nc tl tc : Nat) (t : TypeId) (x : ByteArray) (ia : Option Addr) (ic : Nat) (l : List UInt8) (c : UInt8) (mk : Int) (m : List Int) (n : Nat) (xs : List Value) (F : List Res) (w : World) (hs : Sep w (.blk b (parV P (.int .i64 s) (.string x) (.slice ia l.length ic) (.bool false) (.bool fi) (.int .i64 mk) (.slice na nl nc) (.bool fu) (.slice ta tl tc) ov) t :: .row (.slice ia l.length ic) 5 1 l.length (l.map K14.u8) :: .row ov 118 7 n xs :: F)) (hn : n ≤ 100000) :
    Calls Tryz.prog 135 #[.pointer (some ⟨b, 0, none⟩), .int .u8 c.toNat] w (ExP fun ov => .blk b (parV P (.int .i64 0) (.string x) (.slice none 0 0) (.bool false) (.bool true) (.int .i64 0) (.slice none 0 0) (.bool false) (.slice none 0 0) ov) t :: .row (.slice ia l.length ic) 5 1 l.length (l.map K14.u8) :: .row ov 118 7 (n + 1) (xs ++ actV ⟨4, 0, c.toNat, mk, m, l, []⟩ (.slice na nl nc)) :: F) := by
  obtain ⟨hcR, hzR, hlR⟩ := hs.here (b := b) K32.rm
  have hcR33 := (hcR 33).trans (parV_33 ..)
  have hcR34 := (hcR 34).trans (parV_34 ..)
  have hcR35 := (hcR 35).trans (parV_35 ..)
  have hcR36 := (hcR 36).trans (parV_36 ..)
  have hcR37 := (hcR 37).trans (parV_37 ..)
  have hcR38 := (hcR 38).trans (parV_38 ..)
  have hcR39 := (hcR 39).trans (parV_39 ..)
  have hcR40 := (hcR 40).trans (parV_40 ..)
  have hcR41 := (hcR 41).trans (parV_41 ..)
  have hcR42 := (hcR 42).trans (parV_42 ..)
  clear hcR
  have HS := Lib.hid hs
  clear hs
  have hc8 := c.toNat_lt
  go_enter Tryz.func135, Tryz.ntmps135
  go_wp2_with (first | (go_at_call 93; refine K32.ca (fun xw hs => ?_); (try simp only [World.size_alloc, World.size_setCell, parV_set33, parV_set34, parV_set35, parV_set36, parV_set37, parV_set38, parV_set39, parV_set40, parV_set41, parV_set42] at hs); have HS := Lib.hid hs; clear hs; have hs := HS.out.pick (r1 := .blk b (parV P (.int .i64 s) (.string x) (.slice ia l.length ic) (.bool false) (.bool fi) (.int .i64 mk) (.slice na nl nc) (.bool fu) (.slice ta tl tc) ov) t) K32.rm; refine (begin_any b P (.int .i64 s) (.string x) (.slice ia l.length ic) (.bool false) (.bool fi) (.int .i64 mk) (.slice na nl nc) (.bool fu) (.slice ta tl tc) ov t 0 x _ _ hs rfl).mono ?_; clear hs; rintro e w9 ⟨rfl, hs⟩; (try clear hcR hzR hlR); (try clear hcX hzX hlX); obtain ⟨hcR, hzR, hlR⟩ := hs.here (b := b) K32.rm; obtain ⟨hcX, hzX, hlX⟩ := hs.here (b := w.heap.size) K32.rm; (try clear hcR34 hcR42); have hcR34 := (hcR 34).trans (parV_34 ..); have hcR42 := (hcR 42).trans (parV_42 ..); clear hcR; (try clear hcX2 hcX3 hcX5 hcX6); have hcX2 := hcX 2; have hcX3 := hcX 3; have hcX5 := hcX 5; have hcX6 := hcX 6; clear hcX; simp only [List.getElem?_cons_zero, List.getElem?_cons_succ] at hcX2 hcX3 hcX5 hcX6; have hcv := conv_own (hs.hereRow (v := .slice ia l.length ic) K32.rm) (n := l.length) (l := l) rfl; have HS := Lib.hid hs; clear hs) | (go_at_call 129; refine K32.ca (fun xw hs => ?_); (try simp only [World.size_alloc, World.size_setCell, parV_set33, parV_set34, parV_set35, parV_set36, parV_set37, parV_set38, parV_set39, parV_set40, parV_set41, parV_set42] at hs); have HS := Lib.hid hs; clear hs; have hs := HS.out.pick2 (r1 := .blk b (parV P (.int .i64 0) (.string x) (.slice none 0 0) (.bool false) (.bool true) (.int .i64 0) (.slice none 0 0) (.bool false) (.slice none 0 0) ov) t) (r2 := .row ov 118 7 n xs) K32.rm K32.rm; refine (tell_any b _ t ov n xs ⟨4, 0, c.toNat, mk, m, l, []⟩ (.slice na nl nc) _ _ hs rfl (by omega) rfl).mono ?_; clear hs; rintro e w1 ⟨⟨ov1, rfl, hs⟩⟩; rw [parV_set42] at hs; (try clear hcR hzR hlR); (try clear hcX hzX hlX); obtain ⟨hcR, hzR, hlR⟩ := hs.here (b := b) K32.rm; obtain ⟨hcX, hzX, hlX⟩ := hs.here (b := w.heap.size) K32.rm; (try clear hcR34 hcR42); have hcR34 := (hcR 34).trans (parV_34 ..); have hcR42 := (hcR 42).trans (parV_42 ..); clear hcR; (try clear hcX2 hcX3 hcX5 hcX6); have hcX2 := hcX 2; have hcX3 := hcX 3; have hcX5 := hcX 5; have hcX6 := hcX 6; clear hcX; simp only [List.getElem?_cons_zero, List.getElem?_cons_succ] at hcX2 hcX3 hcX5 hcX6; have HS := Lib.hid hs; clear hs))
  (first | go_end0 | refine bodyPost_ret (results_none rfl _ _ _) rfl ?_)
  refine ⟨⟨ov1, rfl, ?_⟩⟩
  exact HS.out.end3 K32.rm K32.rm K32.rm K32.sub
end Go.Proofs.YtnjgnbdebkckfaaGreatDoor.E11
