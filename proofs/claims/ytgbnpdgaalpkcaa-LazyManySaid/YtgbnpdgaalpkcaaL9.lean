/- the walk of LazyMany -/
import Derived.Test.YtgbnpdgaalpkcaaL6
import Derived.Test.YtgbnpdgaalpkcaaK9
import Derived.Laws.MakeOwn
import Derived.StillTailTactics
namespace Go.Proofs.Ytgbnpdgaalpkcaa.L9
set_option linter.unusedVariables false
set_option linter.unusedSimpArgs false
open Go.RowKit K1 K3 K5 K7 K9 L1 L2 L3 L4 L5 L6
attribute [local go_sem] cell_pastA froz_pastA

theorem infoL : (Try.prog.info? 92).map (fun i => (i.zero.map Value.cells, i.size, decide (i.bytes ≤ 4096))) = some (some #[.int .u32 0, .int .i32 0, .int .u32 0, .int .i64 0, .string ⟨#[]⟩], 5, true) := by kernel_rfl
theorem infoD : (Try.prog.info? 98).map (fun i => (i.zero.map Value.cells, i.size, decide (i.bytes ≤ 4096))) = some (some #[.int .u32 0, .int .i32 0, .int .u32 0, .int .i64 0, .int .i64 0], 5, true) := by kernel_rfl
theorem makeL (N : Nat) (hN : N ≤ 30) (W : World) : (Instr.makeSlice 102 (.int .i64 N) (.int .i64 N)).run Try.prog W = .ok (.slice (some ⟨W.heap.size, 0, none⟩) N N) (W.alloc (.cells (madeCells #[.int .u32 0, .int .i32 0, .int .u32 0, .int .i64 0, .string ⟨#[]⟩] (N * 5)) 92)) := by
  have hI := infoL
  cases hi : Try.prog.info? 92 with
  | none => rw [hi] at hI; cases hI
  | some i =>
    rw [hi] at hI
    simp only [Option.map_some, Option.some.injEq, Prod.mk.injEq] at hI
    obtain ⟨h1, h2, h3⟩ := hI
    have h4 : i.bytes ≤ 4096 := of_decide_eq_true h3
    have h5 : (i.bytes : Int) * (N : Int) ≤ 4096 * 30 := Int.mul_le_mul (by omega) (by omega) (by omega) (by omega)
    cases hz : i.zero with
    | none => rw [hz] at h1; cases h1
    | some z =>
      rw [hz] at h1
      simp only [Option.map_some, Option.some.injEq] at h1
      have h := run_make (P := Try.prog) W 102 92 i z Try.underlying102 hi hz .i64 .i64 (N : Int) (N : Int) (by omega) (by omega) (by omega) (by omega)
      rw [h1, h2] at h
      simpa using h
theorem makeD (N : Nat) (hN : N ≤ 30) (W : World) : (Instr.makeSlice 103 (.int .i64 N) (.int .i64 N)).run Try.prog W = .ok (.slice (some ⟨W.heap.size, 0, none⟩) N N) (W.alloc (.cells (madeCells #[.int .u32 0, .int .i32 0, .int .u32 0, .int .i64 0, .int .i64 0] (N * 5)) 98)) := by
  have hI := infoD
  cases hi : Try.prog.info? 98 with
  | none => rw [hi] at hI; cases hI
  | some i =>
    rw [hi] at hI
    simp only [Option.map_some, Option.some.injEq, Prod.mk.injEq] at hI
    obtain ⟨h1, h2, h3⟩ := hI
    have h4 : i.bytes ≤ 4096 := of_decide_eq_true h3
    have h5 : (i.bytes : Int) * (N : Int) ≤ 4096 * 30 := Int.mul_le_mul (by omega) (by omega) (by omega) (by omega)
    cases hz : i.zero with
    | none => rw [hz] at h1; cases h1
    | some z =>
      rw [hz] at h1
      simp only [Option.map_some, Option.some.injEq] at h1
      have h := run_make (P := Try.prog) W 103 98 i z Try.underlying103 hi hz .i64 .i64 (N : Int) (N : Int) (by omega) (by omega) (by omega) (by omega)
      rw [h1, h2] at h
      simpa using h
theorem made_get (z : Array Value) (m j : Nat) (hj : j < m) (v : Value) (hv : z[j % z.size]! = v) : (madeCells z m)[j]? = some v := by
  subst hv
  simp [madeCells, hj]
theorem cell_made (W : World) (z : Array Value) (m : Nat) (t : TypeId) (j : Nat) (hj : j < m) (v : Value) (hv : z[j % z.size]! = v) : (W.alloc (.cells (madeCells z m) t)).cell? ⟨W.heap.size, j, none⟩ = some v := by
  have := made_get z m j hj v hv
  simp [this]
theorem froz_made (W : World) (z : Array Value) (m : Nat) (t : TypeId) (j : Nat) : (W.alloc (.cells (madeCells z m) t)).frozen? ⟨W.heap.size, j, none⟩ = false := by (first | (simp [go_sem, BigFrame.eval_const, BigFrame.eval_global, BigFrame.eval_func, ↓IntWalk.iteOmega, *]; done) | (simp [go_sem, BigFrame.eval_const, BigFrame.eval_global, BigFrame.eval_func, ↓IntWalk.iteOmega, *]; intros; omega) | (simp [go_sem, BigFrame.eval_const, BigFrame.eval_global, BigFrame.eval_func, ↓IntWalk.iteOmega, *]; intros; exfalso; omega))
theorem lazies_new (W : World) (N k : Nat) (hk : k < N) : LazyAt (W.alloc (.cells (madeCells #[.int .u32 0, .int .i32 0, .int .u32 0, .int .i64 0, .string ⟨#[]⟩] (N * 5)) 92)) W.heap.size (k * 5) false ⟨#[]⟩ :=
  ⟨cell_made _ _ _ _ _ (by omega) _ (by show (#[.int .u32 0, .int .i32 0, .int .u32 0, .int .i64 0, .string ⟨#[]⟩] : Array Value)[(k * 5) % 5]! = _; rw [show (k * 5) % 5 = 0 by omega]; rfl), cell_made _ _ _ _ _ (by omega) _ (by show (#[.int .u32 0, .int .i32 0, .int .u32 0, .int .i64 0, .string ⟨#[]⟩] : Array Value)[(k * 5 + 1) % 5]! = _; rw [show (k * 5 + 1) % 5 = 1 by omega]; rfl),
   cell_made _ _ _ _ _ (by omega) _ (by show (#[.int .u32 0, .int .i32 0, .int .u32 0, .int .i64 0, .string ⟨#[]⟩] : Array Value)[(k * 5 + 3) % 5]! = _; rw [show (k * 5 + 3) % 5 = 3 by omega]; rfl), cell_made _ _ _ _ _ (by omega) _ (by show (#[.int .u32 0, .int .i32 0, .int .u32 0, .int .i64 0, .string ⟨#[]⟩] : Array Value)[(k * 5 + 4) % 5]! = _; rw [show (k * 5 + 4) % 5 = 4 by omega]; rfl),
   froz_made _ _ _ _ _, froz_made _ _ _ _ _, froz_made _ _ _ _ _, froz_made _ _ _ _ _⟩
theorem doors_new (W : World) (N k : Nat) (hk : k < N) : DoorAt (W.alloc (.cells (madeCells #[.int .u32 0, .int .i32 0, .int .u32 0, .int .i64 0, .int .i64 0] (N * 5)) 98)) W.heap.size (k * 5) false 0 :=
  ⟨cell_made _ _ _ _ _ (by omega) _ (by show (#[.int .u32 0, .int .i32 0, .int .u32 0, .int .i64 0, .int .i64 0] : Array Value)[(k * 5) % 5]! = _; rw [show (k * 5) % 5 = 0 by omega]; rfl), cell_made _ _ _ _ _ (by omega) _ (by show (#[.int .u32 0, .int .i32 0, .int .u32 0, .int .i64 0, .int .i64 0] : Array Value)[(k * 5 + 1) % 5]! = _; rw [show (k * 5 + 1) % 5 = 1 by omega]; rfl),
   cell_made _ _ _ _ _ (by omega) _ (by show (#[.int .u32 0, .int .i32 0, .int .u32 0, .int .i64 0, .int .i64 0] : Array Value)[(k * 5 + 3) % 5]! = _; rw [show (k * 5 + 3) % 5 = 3 by omega]; rfl), cell_made _ _ _ _ _ (by omega) _ (by show (#[.int .u32 0, .int .i32 0, .int .u32 0, .int .i64 0, .int .i64 0] : Array Value)[(k * 5 + 4) % 5]! = _; rw [show (k * 5 + 4) % 5 = 4 by omega]; rfl),
   froz_made _ _ _ _ _, froz_made _ _ _ _ _, froz_made _ _ _ _ _, froz_made _ _ _ _ _⟩
theorem cf48 (a : Value) (x : World) : (callFunc 48 #[a]).run Try.prog x = .ok (.enter 48 #[a]) x := by kernel_rfl
theorem run48 (x : World) (sb : Nat) (s : ByteArray) (h2 : x.cell? ⟨sb, 0, none⟩ = some (.string s)) :
    Calls Try.prog 48 #[.pointer (some ⟨sb, 0, none⟩)] x fun e w' => e = .returned (.string s) ∧ x = w' := by
  go_enter Try.func48, Try.ntmps48
  go_wp2_with fail
  go_ret
  exact ⟨rfl, rfl⟩

def LZ (N ab : Nat) (L : Nat → ByteArray) (k : Nat) (x : World) : Prop := ∀ j, j < N → LazyAt x ab (j * 5) (decide (j < k)) (if j < k then L j else ⟨#[]⟩)
def DR (N bb : Nat) (M : Nat → Int) (k : Nat) (x : World) : Prop := ∀ j, j < N → DoorAt x bb (j * 5) (decide (j < k)) (if j < k then M j else 0)
theorem LZ.keepB {N ab k : Nat} {L : Nat → ByteArray} {x y : World} (h : LZ N ab L k x) (he : y.heap[ab]? = x.heap[ab]?) : LZ N ab L k y := fun j hj => (h j hj).keepB he
theorem DR.keepB {N ab k : Nat} {L : Nat → Int} {x y : World} (h : DR N ab L k x) (he : y.heap[ab]? = x.heap[ab]?) : DR N ab L k y := fun j hj => (h j hj).keepB he
theorem LZ.lo {N ab k j : Nat} {L : Nat → ByteArray} {x : World} (h : LZ N ab L k x) (hj : j < N) (hk : j < k) : LazyAt x ab (j * 5) true (L j) := by have := h j hj; simpa [hk] using this
theorem LZ.hi {N ab k j : Nat} {L : Nat → ByteArray} {x : World} (h : LZ N ab L k x) (hj : j < N) (hk : ¬ j < k) : LazyAt x ab (j * 5) false ⟨#[]⟩ := by have := h j hj; simpa [hk] using this
theorem DR.lo {N ab k j : Nat} {L : Nat → Int} {x : World} (h : DR N ab L k x) (hj : j < N) (hk : j < k) : DoorAt x ab (j * 5) true (L j) := by have := h j hj; simpa [hk] using this
theorem DR.hi {N ab k j : Nat} {L : Nat → Int} {x : World} (h : DR N ab L k x) (hj : j < N) (hk : ¬ j < k) : DoorAt x ab (j * 5) false 0 := by have := h j hj; simpa [hk] using this
theorem LZ.succ {N ab k : Nat} {L : Nat → ByteArray} {x y : World} (h : LZ N ab L k x) (hn : LazyAt y ab (k * 5) true (L k))
    (hf : ∀ j, (j < k * 5 ∨ k * 5 + 5 ≤ j) → y.cell? ⟨ab, j, none⟩ = x.cell? ⟨ab, j, none⟩ ∧ y.frozen? ⟨ab, j, none⟩ = x.frozen? ⟨ab, j, none⟩) : LZ N ab L (k + 1) y := fun j hj => by
  by_cases hjk : j = k
  · subst hjk; simpa using hn
  · have h1 := (h j hj).keep (w' := y) (fun i h1 h2 => hf i (by omega))
    by_cases hlt : j < k
    · simpa [hlt, show j < k + 1 by omega] using h1
    · simpa [hlt, show ¬ j < k + 1 by omega] using h1
theorem DR.succ {N ab k : Nat} {L : Nat → Int} {x y : World} (h : DR N ab L k x) (hn : DoorAt y ab (k * 5) true (L k))
    (hf : ∀ j, (j < k * 5 ∨ k * 5 + 5 ≤ j) → y.cell? ⟨ab, j, none⟩ = x.cell? ⟨ab, j, none⟩ ∧ y.frozen? ⟨ab, j, none⟩ = x.frozen? ⟨ab, j, none⟩) : DR N ab L (k + 1) y := fun j hj => by
  by_cases hjk : j = k
  · subst hjk; simpa using hn
  · have h1 := (h j hj).keep (w' := y) (fun i h1 h2 => hf i (by omega))
    by_cases hlt : j < k
    · simpa [hlt, show j < k + 1 by omega] using h1
    · simpa [hlt, show ¬ j < k + 1 by omega] using h1

set_option maxRecDepth 100000 in
set_option maxHeartbeats 4000000 in
theorem many_any (n : Int) (ao : Option Addr) (sb off N cap : Nat) (L : Nat → ByteArray) (w : World) (hao : ao = some ⟨sb, off, none⟩ ∨ N = 0) (hcap : N ≤ cap) (hNb : N ≤ 9223372036854775807)
    (hc : ∀ k, k < N → w.cell? ⟨sb, off + k, none⟩ = some (.string (L k))) (hs : ∀ k, k < N → (L k).size ≤ 281474976710656) (hsb : 0 < N → sb < w.heap.size) :
    Calls Try.prog 12 #[.slice ao N cap, .int .i64 n] w fun e w' => e = .returned (.bool true) ∧ Below w.heap.size w w' := by
  by_cases hN : 30 < N
  · go_enter Try.func12, Try.ntmps12
    go_wp2_with (first | (go_at_call 40; refine (alive_any _).mono ?_; rintro e w1 ⟨rfl, hb1⟩; obtain ⟨hc1, hf1, hz1⟩ := aft hb1; try simp at hz1))
    all_goals
      go_ret
      exact ⟨rfl, by repeat' (first | assumption | exact Below.refl _ _ | apply Below.alloc | apply Below.setCell | apply Below.drew | (refine Below.trans ?_ (Below.mono (by assumption) ?_)) | omega | (simp; omega) | (simp; done))⟩
  have hnd : decide (30 < (N : Int)) = false := by simp; omega
  have HC0 := Lib.hid hc
  have HLS := Lib.hid hs
  have HSB := Lib.hid hsb
  have HAO := Lib.hid hao
  have hN30 : N ≤ 30 := by omega
  have hmL := makeL N hN30
  have hmD := makeD N hN30
  clear hc hs hsb hao
  go_enter Try.func12, Try.ntmps12
  go_wp2_with (first | (go_at_call 40; refine (alive_any _).mono ?_; rintro e w1 ⟨rfl, hb1⟩; obtain ⟨hc1, hf1, hz1⟩ := aft hb1; try simp at hz1))
  have HB0 := Lib.hid hb1
  clear hc1 hf1 hb1
  go_region
  · 
    obtain ⟨ab, hab⟩ : ∃ ab, ab = w1.heap.size := ⟨_, rfl⟩
    obtain ⟨bb, hbb⟩ : ∃ bb, bb = w1.heap.size + 1 := ⟨_, rfl⟩
    obtain ⟨W, hW⟩ : ∃ W, W = (w1.alloc (.cells (madeCells #[.int .u32 0, .int .i32 0, .int .u32 0, .int .i64 0, .string ⟨#[]⟩] (N * 5)) 92)).alloc (.cells (madeCells #[.int .u32 0, .int .i32 0, .int .u32 0, .int .i64 0, .int .i64 0] (N * 5)) 98) := ⟨_, rfl⟩
    have HL0 : Hid (LZ N ab L 0 W) := fun j hj => by rw [hW, hab]; exact (lazies_new w1 N j hj).keepB (Below.heap_alloc _ _ _ (by simp))
    have HD0 : Hid (DR N bb (fun j => IntKind.i64.wrap (n + j)) 0 W) := fun j hj => by rw [hW, hbb]; have h := doors_new (w1.alloc (.cells (madeCells #[.int .u32 0, .int .i32 0, .int .u32 0, .int .i64 0, .string ⟨#[]⟩] (N * 5)) 92)) N j hj; simpa using h
    rw [← hW, ← hbb, ← hab]
    have HW : Hid (Below w.heap.size w W) := by rw [hW]; exact ((HB0.out.alloc (by omega) _).alloc (by simp; omega) _)
    have hWs : W.heap.size = w1.heap.size + 2 := by rw [hW]; simp
    have hne : ab ≠ bb := by omega
    have hab1 : w.heap.size ≤ ab := by omega
    have hbb1 : w.heap.size ≤ bb := by omega
    have hab2 : ab < W.heap.size := by omega
    have hbb2 : bb < W.heap.size := by omega
    clear hW hab hbb hWs HB0 hz1 hmL hmD
    go_wp2_with fail
    go_loopw [7] (fun i wr => ∃ k : Nat, k ≤ N ∧ i = .int .i64 k ∧ ab < wr.heap.size ∧ bb < wr.heap.size ∧ Below w.heap.size w wr ∧ LZ N ab L k wr ∧ DR N bb (fun j => IntKind.i64.wrap (n + j)) k wr) (fun i _ => N - (intOf i).toNat)
    case atStart => exact ⟨0, by omega, rfl, hab2, hbb2, HW.out.drew, HL0.out.keepB rfl, HD0.out.keepB rfl⟩
    case round =>
      obtain ⟨k, hk, rfl, hza, hzb, hb, hl, hd⟩ := hrel
      have HB := Lib.hid hb
      have HL := Lib.hid hl
      have HD := Lib.hid hd
      clear hb hl hd
      by_cases hlt : k < N
      · have hLk := HC0.out k hlt
        have hsbN := HSB.out (by omega)
        have hxw : w.heap.size ≤ wr.heap.size := HB.out.size
        rw [← HB.out.cell (p := ⟨sb, off + k, none⟩) hsbN] at hLk
        obtain rfl : ao = some ⟨sb, off, none⟩ := by rcases HAO.out with h | h; exact h; omega
        go_wp2_with fail
        obtain ⟨sk, hsk⟩ : ∃ sk, sk = wr.heap.size := ⟨_, rfl⟩
        obtain ⟨V, hV⟩ : ∃ V, V = wr.alloc (.cells #[.string (L k)] 9) := ⟨_, rfl⟩
        have HBV : Hid (Below w.heap.size w V) := by rw [hV]; exact HB.out.alloc (by omega) _
        have HLV : Hid (LZ N ab L k V) := by rw [hV]; exact HL.out.keepB (Below.heap_alloc _ _ _ hza)
        have HDV : Hid (DR N bb (fun j => IntKind.i64.wrap (n + j)) k V) := by rw [hV]; exact HD.out.keepB (Below.heap_alloc _ _ _ hzb)
        have hVs : V.heap.size = sk + 1 := by rw [hV]; simp [hsk]
        have hVc : V.cell? ⟨sk, 0, none⟩ = some (.string (L k)) := by rw [hV, hsk]; (first | (simp [go_sem, BigFrame.eval_const, BigFrame.eval_global, BigFrame.eval_func, ↓IntWalk.iteOmega, *]; done) | (simp [go_sem, BigFrame.eval_const, BigFrame.eval_global, BigFrame.eval_func, ↓IntWalk.iteOmega, *]; intros; omega) | (simp [go_sem, BigFrame.eval_const, BigFrame.eval_global, BigFrame.eval_func, ↓IntWalk.iteOmega, *]; intros; exfalso; omega))
        have hska : ab < sk := by omega
        have hskb : bb < sk := by omega
        have hwsk : w.heap.size ≤ sk := by omega
        rw [← hV, ← hsk]
        clear hV hsk hLk HB HL HD hxw hza hzb
        have HLk := Lib.hid (HLV.out.hi hlt (by omega))
        have HDk := Lib.hid (HDV.out.hi hlt (by omega))
        have hmf := mf
        refine wp_region_stages [10, 19, 28] (by kernel_rfl) (by kernel_rfl) (by kernel_rfl) (fun _ _ dx _ _ hx => by cases dx <;> exact hx) ?_
        refine stage_go (fun x => Below V.heap.size V x) (fun _ x => Below V.heap.size V x) 100 (by omega) ⟨fun _ _ h => h, fun _ _ _ h h' => h.trans (h'.mono h.size)⟩ (Below.drew (Below.refl _ _)) ?_
        simp only [List.take_succ_cons, List.take_zero, List.drop_succ_cons, List.drop_zero]
        iterate 10 (first | (refine wpY_skip (by decide) ?_ ?_; (focus (first | (go_simp; done) | (go_simp; simp [undef]; done) | (go_simp; intro h; cases h))); (try go_simp)) | (refine wpY_do (by decide) ?_ ?_; (focus (go_simp; done)); apply Exists.intro; refine ⟨fun wx hwx => ?_, ?_⟩; (focus ((have hcx := cellA hwx); (have hzx := hwx.size); (try simp at hzx); unfold hushAt; (try simp [go_sem, BigFrame.eval_const, BigFrame.eval_global, BigFrame.eval_func, ↓IntWalk.iteOmega, *]); (try simp [hushUpon]); (first | done | rfl | (go_at_call 41; refine (made_any (HLk.out.keepB (hwx.block _ (by omega))) ).mono ?_; rintro e wy ⟨rfl, rfl⟩; exact ⟨rfl, Below.refl _ _⟩) | (go_at_call 45; refine (is_any (HDk.out.keepB (hwx.block _ (by omega))) ).mono ?_; rintro e wy ⟨rfl, rfl⟩; exact ⟨rfl, Below.refl _ _⟩)))); (try go_simp)))
        refine wpY_nil ?_
        intro V2 hb2
        (try rw [← hVs] at hb2)
        have hb2 : Below V.heap.size V V2 := hb2
        have HB2 := Lib.hid (HBV.out.trans (hb2.mono (by omega)))
        have HL2 := Lib.hid (HLV.out.keepB (hb2.block ab (by omega)))
        have HD2 := Lib.hid (HDV.out.keepB (hb2.block bb (by omega)))
        have hc2 : V2.cell? ⟨sk, 0, none⟩ = some (.string (L k)) := (World.cell?_of_block (hb2.block sk (by omega))).trans hVc
        have hz2 : sk < V2.heap.size := by have := hb2.size; omega
        clear hb2 HBV HLV HDV HLk HDk hVc hVs
        refine stage_go (fun x => Fr V2.heap.size [ab] V2 x) (fun q x => match q with | false => Below V2.heap.size V2 x | true => Fr V2.heap.size [ab] V2 x ∧ LZ N ab L (k + 1) x) 15 (by omega) ⟨fun q x hq => by cases q; exact Fr.of_below hq; exact hq.1, fun q x y hq hxy => by cases q; exact hq.trans (hxy.mono hq.size); exact ⟨hq.1.trans (.of_below (hxy.mono hq.1.size)), hq.2.keepB (hxy.block ab (by have := hq.1.size; omega))⟩⟩ (Below.refl _ _) ?_
        simp only [List.take_succ_cons, List.take_zero, List.drop_succ_cons, List.drop_zero]
        have hskne : sk ≠ ab := by omega
        iterate 5 (first | (refine wpY_skip (by decide) ?_ ?_; (focus (first | (go_simp; done) | (go_simp; simp [undef]; done) | (go_simp; intro h; cases h))); (try go_simp)) | (refine wpY_do (by decide) ?_ ?_; (focus (go_simp; done)); apply Exists.intro; refine ⟨fun wx hwx => ?_, ?_⟩; (focus ((have hcx := hwx.cellA); (have hzx := hwx.size); (try simp at hcx); unfold hushAt; (try simp [go_sem, BigFrame.eval_const, BigFrame.eval_global, BigFrame.eval_func, ↓IntWalk.iteOmega, *]); (try simp [hushUpon]); (first | done | rfl | fail))); (try go_simp)))
        refine wpY_eff rfl ?_ ?_
        · go_simp
        apply Exists.intro
        refine ⟨fun x hx => ?_, ?_⟩
        · unfold effAt
          have hx' : Below V2.heap.size V2 x := hx
          have hzx := hx'.size
          simp [go_sem, BigFrame.eval_const, BigFrame.eval_global, BigFrame.eval_func, effUpon]
          refine (get_call (Z := fun y => Fr V2.heap.size [ab] V2 y) ((HL2.out.hi hlt (by omega)).keepB (hx'.block ab (by omega))) 48 sk #[.pointer (some ⟨sk, 0, none⟩)] (L k) (HLS.out k hlt) (by omega) (by omega) (fun x1 y h1 h2 => h1.trans (h2.mono h1.size (by simp))) (fun x1 h1 => ?_) (cf48 _)).mono ?_
          · have h2 : Fr V2.heap.size [ab] V2 x1 := (Fr.of_below hx').trans (h1.mono hzx (by simp))
            refine (run48 x1 sk (L k) ((World.cell?_of_block (h2.block sk hz2 (by simp; omega))).trans hc2)).mono ?_
            rintro e w' ⟨rfl, rfl⟩
            exact ⟨rfl, Fr.refl _ _ _, h2⟩
          · rintro e w' ⟨rfl, hF, hL, hfr, hZ⟩
            refine ⟨rfl, hZ, HL2.out.succ hL (fun j hj => ?_)⟩
            have h1 := hfr j hj
            exact ⟨h1.1.trans (World.cell?_of_block (hx'.block ab (by omega))), h1.2.trans (World.frozen?_of_block (hx'.block ab (by omega)))⟩
        try go_simp
        iterate 3 (first | (refine wpY_skip (by decide) ?_ ?_; (focus (first | (go_simp; done) | (go_simp; simp [undef]; done) | (go_simp; intro h; cases h))); (try go_simp)) | (refine wpY_do (by decide) ?_ ?_; (focus (go_simp; done)); apply Exists.intro; refine ⟨fun wx hwx => ?_, ?_⟩; (focus ((have hcx := hwx.cellA); (have hzx := hwx.size); (try simp at hcx); unfold hushAt; (try simp [go_sem, BigFrame.eval_const, BigFrame.eval_global, BigFrame.eval_func, ↓IntWalk.iteOmega, *]); (try simp [hushUpon]); (first | done | rfl | fail))); (try go_simp)))
        refine wpY_nil ?_
        intro V3 hF3 hL3
        have HL3 := Lib.hid hL3
        have HB3 := Lib.hid (HB2.out.trans (hF3.below_of (C := w.heap.size) (by omega) (by simp; omega)))
        have HD3 := Lib.hid (HD2.out.keepB (hF3.block bb (by omega) (by simp; omega)))
        have hz3 := hF3.size
        clear hF3 hL3 HL2 HB2 HD2 hc2
        refine stage_go (fun x => Fr V3.heap.size [bb] V3 x) (fun q x => match q with | false => Below V3.heap.size V3 x | true => Fr V3.heap.size [bb] V3 x ∧ DR N bb (fun j => IntKind.i64.wrap (n + j)) (k + 1) x) 26 (by omega) ⟨fun q x hq => by cases q; exact Fr.of_below hq; exact hq.1, fun q x y hq hxy => by cases q; exact hq.trans (hxy.mono hq.size); exact ⟨hq.1.trans (.of_below (hxy.mono hq.1.size)), hq.2.keepB (hxy.block bb (by have := hq.1.size; omega))⟩⟩ (Below.refl _ _) ?_
        simp only [List.take_succ_cons, List.take_zero, List.drop_succ_cons, List.drop_zero]
        iterate 7 (first | (refine wpY_skip (by decide) ?_ ?_; (focus (first | (go_simp; done) | (go_simp; simp [undef]; done) | (go_simp; intro h; cases h))); (try go_simp)) | (refine wpY_do (by decide) ?_ ?_; (focus (go_simp; done)); apply Exists.intro; refine ⟨fun wx hwx => ?_, ?_⟩; (focus ((have hcx := hwx.cellA); (have hzx := hwx.size); (try simp at hcx); unfold hushAt; (try simp [go_sem, BigFrame.eval_const, BigFrame.eval_global, BigFrame.eval_func, ↓IntWalk.iteOmega, *]); (try simp [hushUpon]); (first | done | rfl | fail))); (try go_simp)))
        refine wpY_eff rfl ?_ ?_
        · go_simp
        apply Exists.intro
        refine ⟨fun x hx => ?_, ?_⟩
        · unfold effAt
          have hx' : Below V3.heap.size V3 x := hx
          have hzx := hx'.size
          simp [go_sem, BigFrame.eval_const, BigFrame.eval_global, BigFrame.eval_func, effUpon]
          refine (open_first ((HD3.out.hi hlt (by omega)).keepB (hx'.block bb (by omega))) _).mono ?_
          rintro e w' ⟨rfl, hF, hD, hfr⟩
          refine ⟨rfl, (Fr.of_below hx').trans (hF.mono hzx (by simp)), HD3.out.succ hD (fun j hj => ?_)⟩
          have h1 := hfr j hj
          exact ⟨h1.1.trans (World.cell?_of_block (hx'.block bb (by omega))), h1.2.trans (World.frozen?_of_block (hx'.block bb (by omega)))⟩
        try go_simp
        iterate 1 (first | (refine wpY_skip (by decide) ?_ ?_; (focus (first | (go_simp; done) | (go_simp; simp [undef]; done) | (go_simp; intro h; cases h))); (try go_simp)) | (refine wpY_do (by decide) ?_ ?_; (focus (go_simp; done)); apply Exists.intro; refine ⟨fun wx hwx => ?_, ?_⟩; (focus ((have hcx := hwx.cellA); (have hzx := hwx.size); (try simp at hcx); unfold hushAt; (try simp [go_sem, BigFrame.eval_const, BigFrame.eval_global, BigFrame.eval_func, ↓IntWalk.iteOmega, *]); (try simp [hushUpon]); (first | done | rfl | fail))); (try go_simp)))
        refine wpY_nil ?_
        intro V4 hF4 hD4
        have HD4 := Lib.hid hD4
        have HB4 := Lib.hid (HB3.out.trans (hF4.below_of (C := w.heap.size) (by omega) (by simp; omega)))
        have HL4 := Lib.hid (HL3.out.keepB (hF4.block ab (by omega) (by simp; omega)))
        have hz4 : sk < V4.heap.size := by have := hF4.size; omega
        clear hF4 hD4 HL3 HB3 HD3 hz3 hz2
        refine stage_end ?_
        simp only [List.take_succ_cons, List.take_zero, List.drop_succ_cons, List.drop_zero]
        go_wp2_with fail
        go_loopw [9] (fun i wr => ∃ j : Nat, j ≤ N ∧ i = .int .i64 j ∧ Below V4.heap.size V4 wr) (fun i _ => N - (intOf i).toNat)
        case atStart => exact ⟨0, by omega, rfl, Below.refl _ _⟩
        case round =>
          obtain ⟨j, hj, rfl, hbq⟩ := hrel
          have HBQ := Lib.hid hbq
          have hzq := hbq.size
          clear hbq
          by_cases hjN : j < N
          · have hsw : w.heap.size ≤ wr.heap.size := by omega
            have hLj := HC0.out j hjN
            rw [← (HB4.out.trans (HBQ.out.mono (by omega))).cell (p := ⟨sb, off + j, none⟩) hsbN] at hLj
            by_cases hjk : j < k + 1
            · have hle : decide ((j : Int) ≤ (k : Int)) = true := by simp; omega
              have HLj := Lib.hid ((HL4.out.keepB (HBQ.out.block ab (by omega))).lo hjN hjk)
              have HDj := Lib.hid ((HD4.out.keepB (HBQ.out.block bb (by omega))).lo hjN hjk)
              have hjk2 : j ≤ k := by omega
              go_wp2_with fail
              refine wp_region_stages [43] (by kernel_rfl) (by kernel_rfl) (by kernel_rfl) (fun _ _ dx _ _ hx => by cases dx <;> exact hx) ?_
              refine stage_go (fun x => Below wr.heap.size wr x) (fun _ x => Below wr.heap.size wr x) 100 (by omega) ⟨fun _ _ h => h, fun _ _ _ h h' => h.trans (h'.mono h.size)⟩ (Below.drew (Below.refl _ _)) ?_
              simp only [List.take_succ_cons, List.take_zero, List.drop_succ_cons, List.drop_zero]
              iterate 43 (first | (refine wpY_skip (by decide) ?_ ?_; (focus (first | (go_simp; done) | (go_simp; simp [undef]; done) | (go_simp; intro h; cases h))); (try go_simp)) | (refine wpY_do (by decide) ?_ ?_; (focus (go_simp; done)); apply Exists.intro; refine ⟨fun wx hwx => ?_, ?_⟩; (focus ((have hcx := cellA hwx); (have hzx := hwx.size); (try simp at hzx); unfold hushAt; (try simp [go_sem, BigFrame.eval_const, BigFrame.eval_global, BigFrame.eval_func, ↓IntWalk.iteOmega, *]); (try simp [hushUpon]); (first | done | rfl | (go_at_call 41; refine (made_any (HLj.out.keepB (hwx.block _ (by omega))) ).mono ?_; rintro e wy ⟨rfl, rfl⟩; exact ⟨rfl, Below.refl _ _⟩) | (go_at_call 45; refine (is_any (HDj.out.keepB (hwx.block _ (by omega))) ).mono ?_; rintro e wy ⟨rfl, rfl⟩; exact ⟨rfl, Below.refl _ _⟩) | (go_at_call 42; refine (get_done (HLj.out.keepB (hwx.block _ (by omega))) _ (.inl rfl)).mono ?_; rintro e wy ⟨rfl, rfl⟩; exact ⟨rfl, Below.refl _ _⟩) | (go_at_call 46; refine (who_any (HDj.out.keepB (hwx.block _ (by omega))) ).mono ?_; rintro e wy ⟨rfl, rfl⟩; exact ⟨rfl, Below.refl _ _⟩)))); (try go_simp)))
              refine wpY_nil ?_
              intro V5 hb5
              have hb5 : Below wr.heap.size wr V5 := hb5
              have HB5 := Lib.hid (HBQ.out.trans (hb5.mono (by omega)))
              clear hb5
              refine stage_end ?_
              simp only [List.take_succ_cons, List.take_zero, List.drop_succ_cons, List.drop_zero]
              go_wp2_with fail
              go_roundw
              case rel => exact ⟨j + 1, by omega, by go_num, HB5.out⟩
              case measure => simp [intOf]; omega
            · have hle : decide ((j : Int) ≤ (k : Int)) = false := by simp; omega
              have HLj := Lib.hid ((HL4.out.keepB (HBQ.out.block ab (by omega))).hi hjN hjk)
              have HDj := Lib.hid ((HD4.out.keepB (HBQ.out.block bb (by omega))).hi hjN hjk)
              have hjk2 : ¬ j ≤ k := by omega
              go_wp2_with fail
              refine wp_region_stages [43] (by kernel_rfl) (by kernel_rfl) (by kernel_rfl) (fun _ _ dx _ _ hx => by cases dx <;> exact hx) ?_
              refine stage_go (fun x => Below wr.heap.size wr x) (fun _ x => Below wr.heap.size wr x) 100 (by omega) ⟨fun _ _ h => h, fun _ _ _ h h' => h.trans (h'.mono h.size)⟩ (Below.drew (Below.refl _ _)) ?_
              simp only [List.take_succ_cons, List.take_zero, List.drop_succ_cons, List.drop_zero]
              iterate 43 (first | (refine wpY_skip (by decide) ?_ ?_; (focus (first | (go_simp; done) | (go_simp; simp [undef]; done) | (go_simp; intro h; cases h))); (try go_simp)) | (refine wpY_do (by decide) ?_ ?_; (focus (go_simp; done)); apply Exists.intro; refine ⟨fun wx hwx => ?_, ?_⟩; (focus ((have hcx := cellA hwx); (have hzx := hwx.size); (try simp at hzx); unfold hushAt; (try simp [go_sem, BigFrame.eval_const, BigFrame.eval_global, BigFrame.eval_func, ↓IntWalk.iteOmega, *]); (try simp [hushUpon]); (first | done | rfl | (go_at_call 41; refine (made_any (HLj.out.keepB (hwx.block _ (by omega))) ).mono ?_; rintro e wy ⟨rfl, rfl⟩; exact ⟨rfl, Below.refl _ _⟩) | (go_at_call 45; refine (is_any (HDj.out.keepB (hwx.block _ (by omega))) ).mono ?_; rintro e wy ⟨rfl, rfl⟩; exact ⟨rfl, Below.refl _ _⟩) | (go_at_call 42; refine (get_done (HLj.out.keepB (hwx.block _ (by omega))) _ (.inl rfl)).mono ?_; rintro e wy ⟨rfl, rfl⟩; exact ⟨rfl, Below.refl _ _⟩) | (go_at_call 46; refine (who_any (HDj.out.keepB (hwx.block _ (by omega))) ).mono ?_; rintro e wy ⟨rfl, rfl⟩; exact ⟨rfl, Below.refl _ _⟩)))); (try go_simp)))
              refine wpY_nil ?_
              intro V5 hb5
              have hb5 : Below wr.heap.size wr V5 := hb5
              have HB5 := Lib.hid (HBQ.out.trans (hb5.mono (by omega)))
              clear hb5
              refine stage_end ?_
              simp only [List.take_succ_cons, List.take_zero, List.drop_succ_cons, List.drop_zero]
              go_wp2_with fail
              go_roundw
              case rel => exact ⟨j + 1, by omega, by go_num, HB5.out⟩
              case measure => simp [intOf]; omega
          · obtain rfl : j = N := by omega
            go_wp2_with fail
            go_roundw
            case rel => exact ⟨k + 1, by omega, by go_num, by omega, by omega, HB4.out.trans (HBQ.out.mono (by omega)), HL4.out.keepB (HBQ.out.block ab (by omega)), HD4.out.keepB (HBQ.out.block bb (by omega))⟩
            case measure => simp [intOf]; omega
      · obtain rfl : k = N := by omega
        go_wp2_with fail
        go_ret
        exact ⟨rfl, HB.out⟩
  · 
    obtain ⟨bb, hbb⟩ : ∃ bb, bb = w1.heap.size := ⟨_, rfl⟩
    obtain ⟨ab, hab⟩ : ∃ ab, ab = w1.heap.size + 1 := ⟨_, rfl⟩
    obtain ⟨W, hW⟩ : ∃ W, W = (w1.alloc (.cells (madeCells #[.int .u32 0, .int .i32 0, .int .u32 0, .int .i64 0, .int .i64 0] (N * 5)) 98)).alloc (.cells (madeCells #[.int .u32 0, .int .i32 0, .int .u32 0, .int .i64 0, .string ⟨#[]⟩] (N * 5)) 92) := ⟨_, rfl⟩
    have HL0 : Hid (LZ N ab L 0 W) := fun j hj => by rw [hW, hab]; have h := lazies_new (w1.alloc (.cells (madeCells #[.int .u32 0, .int .i32 0, .int .u32 0, .int .i64 0, .int .i64 0] (N * 5)) 98)) N j hj; simpa using h
    have HD0 : Hid (DR N bb (fun j => IntKind.i64.wrap (n + j)) 0 W) := fun j hj => by rw [hW, hbb]; exact (doors_new w1 N j hj).keepB (Below.heap_alloc _ _ _ (by simp))
    rw [← hW, ← hab, ← hbb]
    have HW : Hid (Below w.heap.size w W) := by rw [hW]; exact ((HB0.out.alloc (by omega) _).alloc (by simp; omega) _)
    have hWs : W.heap.size = w1.heap.size + 2 := by rw [hW]; simp
    have hne : ab ≠ bb := by omega
    have hab1 : w.heap.size ≤ ab := by omega
    have hbb1 : w.heap.size ≤ bb := by omega
    have hab2 : ab < W.heap.size := by omega
    have hbb2 : bb < W.heap.size := by omega
    clear hW hab hbb hWs HB0 hz1 hmL hmD
    go_wp2_with fail
    go_loopw [7] (fun i wr => ∃ k : Nat, k ≤ N ∧ i = .int .i64 k ∧ ab < wr.heap.size ∧ bb < wr.heap.size ∧ Below w.heap.size w wr ∧ LZ N ab L k wr ∧ DR N bb (fun j => IntKind.i64.wrap (n + j)) k wr) (fun i _ => N - (intOf i).toNat)
    case atStart => exact ⟨0, by omega, rfl, hab2, hbb2, HW.out.drew, HL0.out.keepB rfl, HD0.out.keepB rfl⟩
    case round =>
      obtain ⟨k, hk, rfl, hza, hzb, hb, hl, hd⟩ := hrel
      have HB := Lib.hid hb
      have HL := Lib.hid hl
      have HD := Lib.hid hd
      clear hb hl hd
      by_cases hlt : k < N
      · have hLk := HC0.out k hlt
        have hsbN := HSB.out (by omega)
        have hxw : w.heap.size ≤ wr.heap.size := HB.out.size
        rw [← HB.out.cell (p := ⟨sb, off + k, none⟩) hsbN] at hLk
        obtain rfl : ao = some ⟨sb, off, none⟩ := by rcases HAO.out with h | h; exact h; omega
        go_wp2_with fail
        obtain ⟨sk, hsk⟩ : ∃ sk, sk = wr.heap.size := ⟨_, rfl⟩
        obtain ⟨V, hV⟩ : ∃ V, V = wr.alloc (.cells #[.string (L k)] 9) := ⟨_, rfl⟩
        have HBV : Hid (Below w.heap.size w V) := by rw [hV]; exact HB.out.alloc (by omega) _
        have HLV : Hid (LZ N ab L k V) := by rw [hV]; exact HL.out.keepB (Below.heap_alloc _ _ _ hza)
        have HDV : Hid (DR N bb (fun j => IntKind.i64.wrap (n + j)) k V) := by rw [hV]; exact HD.out.keepB (Below.heap_alloc _ _ _ hzb)
        have hVs : V.heap.size = sk + 1 := by rw [hV]; simp [hsk]
        have hVc : V.cell? ⟨sk, 0, none⟩ = some (.string (L k)) := by rw [hV, hsk]; (first | (simp [go_sem, BigFrame.eval_const, BigFrame.eval_global, BigFrame.eval_func, ↓IntWalk.iteOmega, *]; done) | (simp [go_sem, BigFrame.eval_const, BigFrame.eval_global, BigFrame.eval_func, ↓IntWalk.iteOmega, *]; intros; omega) | (simp [go_sem, BigFrame.eval_const, BigFrame.eval_global, BigFrame.eval_func, ↓IntWalk.iteOmega, *]; intros; exfalso; omega))
        have hska : ab < sk := by omega
        have hskb : bb < sk := by omega
        have hwsk : w.heap.size ≤ sk := by omega
        rw [← hV, ← hsk]
        clear hV hsk hLk HB HL HD hxw hza hzb
        have HLk := Lib.hid (HLV.out.hi hlt (by omega))
        have HDk := Lib.hid (HDV.out.hi hlt (by omega))
        have hmf := mf
        refine wp_region_stages [10, 19, 28] (by kernel_rfl) (by kernel_rfl) (by kernel_rfl) (fun _ _ dx _ _ hx => by cases dx <;> exact hx) ?_
        refine stage_go (fun x => Below V.heap.size V x) (fun _ x => Below V.heap.size V x) 100 (by omega) ⟨fun _ _ h => h, fun _ _ _ h h' => h.trans (h'.mono h.size)⟩ (Below.drew (Below.refl _ _)) ?_
        simp only [List.take_succ_cons, List.take_zero, List.drop_succ_cons, List.drop_zero]
        iterate 10 (first | (refine wpY_skip (by decide) ?_ ?_; (focus (first | (go_simp; done) | (go_simp; simp [undef]; done) | (go_simp; intro h; cases h))); (try go_simp)) | (refine wpY_do (by decide) ?_ ?_; (focus (go_simp; done)); apply Exists.intro; refine ⟨fun wx hwx => ?_, ?_⟩; (focus ((have hcx := cellA hwx); (have hzx := hwx.size); (try simp at hzx); unfold hushAt; (try simp [go_sem, BigFrame.eval_const, BigFrame.eval_global, BigFrame.eval_func, ↓IntWalk.iteOmega, *]); (try simp [hushUpon]); (first | done | rfl | (go_at_call 41; refine (made_any (HLk.out.keepB (hwx.block _ (by omega))) ).mono ?_; rintro e wy ⟨rfl, rfl⟩; exact ⟨rfl, Below.refl _ _⟩) | (go_at_call 45; refine (is_any (HDk.out.keepB (hwx.block _ (by omega))) ).mono ?_; rintro e wy ⟨rfl, rfl⟩; exact ⟨rfl, Below.refl _ _⟩)))); (try go_simp)))
        refine wpY_nil ?_
        intro V2 hb2
        (try rw [← hVs] at hb2)
        have hb2 : Below V.heap.size V V2 := hb2
        have HB2 := Lib.hid (HBV.out.trans (hb2.mono (by omega)))
        have HL2 := Lib.hid (HLV.out.keepB (hb2.block ab (by omega)))
        have HD2 := Lib.hid (HDV.out.keepB (hb2.block bb (by omega)))
        have hc2 : V2.cell? ⟨sk, 0, none⟩ = some (.string (L k)) := (World.cell?_of_block (hb2.block sk (by omega))).trans hVc
        have hz2 : sk < V2.heap.size := by have := hb2.size; omega
        clear hb2 HBV HLV HDV HLk HDk hVc hVs
        refine stage_go (fun x => Fr V2.heap.size [ab] V2 x) (fun q x => match q with | false => Below V2.heap.size V2 x | true => Fr V2.heap.size [ab] V2 x ∧ LZ N ab L (k + 1) x) 15 (by omega) ⟨fun q x hq => by cases q; exact Fr.of_below hq; exact hq.1, fun q x y hq hxy => by cases q; exact hq.trans (hxy.mono hq.size); exact ⟨hq.1.trans (.of_below (hxy.mono hq.1.size)), hq.2.keepB (hxy.block ab (by have := hq.1.size; omega))⟩⟩ (Below.refl _ _) ?_
        simp only [List.take_succ_cons, List.take_zero, List.drop_succ_cons, List.drop_zero]
        have hskne : sk ≠ ab := by omega
        iterate 5 (first | (refine wpY_skip (by decide) ?_ ?_; (focus (first | (go_simp; done) | (go_simp; simp [undef]; done) | (go_simp; intro h; cases h))); (try go_simp)) | (refine wpY_do (by decide) ?_ ?_; (focus (go_simp; done)); apply Exists.intro; refine ⟨fun wx hwx => ?_, ?_⟩; (focus ((have hcx := hwx.cellA); (have hzx := hwx.size); (try simp at hcx); unfold hushAt; (try simp [go_sem, BigFrame.eval_const, BigFrame.eval_global, BigFrame.eval_func, ↓IntWalk.iteOmega, *]); (try simp [hushUpon]); (first | done | rfl | fail))); (try go_simp)))
        refine wpY_eff rfl ?_ ?_
        · go_simp
        apply Exists.intro
        refine ⟨fun x hx => ?_, ?_⟩
        · unfold effAt
          have hx' : Below V2.heap.size V2 x := hx
          have hzx := hx'.size
          simp [go_sem, BigFrame.eval_const, BigFrame.eval_global, BigFrame.eval_func, effUpon]
          refine (get_call (Z := fun y => Fr V2.heap.size [ab] V2 y) ((HL2.out.hi hlt (by omega)).keepB (hx'.block ab (by omega))) 48 sk #[.pointer (some ⟨sk, 0, none⟩)] (L k) (HLS.out k hlt) (by omega) (by omega) (fun x1 y h1 h2 => h1.trans (h2.mono h1.size (by simp))) (fun x1 h1 => ?_) (cf48 _)).mono ?_
          · have h2 : Fr V2.heap.size [ab] V2 x1 := (Fr.of_below hx').trans (h1.mono hzx (by simp))
            refine (run48 x1 sk (L k) ((World.cell?_of_block (h2.block sk hz2 (by simp; omega))).trans hc2)).mono ?_
            rintro e w' ⟨rfl, rfl⟩
            exact ⟨rfl, Fr.refl _ _ _, h2⟩
          · rintro e w' ⟨rfl, hF, hL, hfr, hZ⟩
            refine ⟨rfl, hZ, HL2.out.succ hL (fun j hj => ?_)⟩
            have h1 := hfr j hj
            exact ⟨h1.1.trans (World.cell?_of_block (hx'.block ab (by omega))), h1.2.trans (World.frozen?_of_block (hx'.block ab (by omega)))⟩
        try go_simp
        iterate 3 (first | (refine wpY_skip (by decide) ?_ ?_; (focus (first | (go_simp; done) | (go_simp; simp [undef]; done) | (go_simp; intro h; cases h))); (try go_simp)) | (refine wpY_do (by decide) ?_ ?_; (focus (go_simp; done)); apply Exists.intro; refine ⟨fun wx hwx => ?_, ?_⟩; (focus ((have hcx := hwx.cellA); (have hzx := hwx.size); (try simp at hcx); unfold hushAt; (try simp [go_sem, BigFrame.eval_const, BigFrame.eval_global, BigFrame.eval_func, ↓IntWalk.iteOmega, *]); (try simp [hushUpon]); (first | done | rfl | fail))); (try go_simp)))
        refine wpY_nil ?_
        intro V3 hF3 hL3
        have HL3 := Lib.hid hL3
        have HB3 := Lib.hid (HB2.out.trans (hF3.below_of (C := w.heap.size) (by omega) (by simp; omega)))
        have HD3 := Lib.hid (HD2.out.keepB (hF3.block bb (by omega) (by simp; omega)))
        have hz3 := hF3.size
        clear hF3 hL3 HL2 HB2 HD2 hc2
        refine stage_go (fun x => Fr V3.heap.size [bb] V3 x) (fun q x => match q with | false => Below V3.heap.size V3 x | true => Fr V3.heap.size [bb] V3 x ∧ DR N bb (fun j => IntKind.i64.wrap (n + j)) (k + 1) x) 26 (by omega) ⟨fun q x hq => by cases q; exact Fr.of_below hq; exact hq.1, fun q x y hq hxy => by cases q; exact hq.trans (hxy.mono hq.size); exact ⟨hq.1.trans (.of_below (hxy.mono hq.1.size)), hq.2.keepB (hxy.block bb (by have := hq.1.size; omega))⟩⟩ (Below.refl _ _) ?_
        simp only [List.take_succ_cons, List.take_zero, List.drop_succ_cons, List.drop_zero]
        iterate 7 (first | (refine wpY_skip (by decide) ?_ ?_; (focus (first | (go_simp; done) | (go_simp; simp [undef]; done) | (go_simp; intro h; cases h))); (try go_simp)) | (refine wpY_do (by decide) ?_ ?_; (focus (go_simp; done)); apply Exists.intro; refine ⟨fun wx hwx => ?_, ?_⟩; (focus ((have hcx := hwx.cellA); (have hzx := hwx.size); (try simp at hcx); unfold hushAt; (try simp [go_sem, BigFrame.eval_const, BigFrame.eval_global, BigFrame.eval_func, ↓IntWalk.iteOmega, *]); (try simp [hushUpon]); (first | done | rfl | fail))); (try go_simp)))
        refine wpY_eff rfl ?_ ?_
        · go_simp
        apply Exists.intro
        refine ⟨fun x hx => ?_, ?_⟩
        · unfold effAt
          have hx' : Below V3.heap.size V3 x := hx
          have hzx := hx'.size
          simp [go_sem, BigFrame.eval_const, BigFrame.eval_global, BigFrame.eval_func, effUpon]
          refine (open_first ((HD3.out.hi hlt (by omega)).keepB (hx'.block bb (by omega))) _).mono ?_
          rintro e w' ⟨rfl, hF, hD, hfr⟩
          refine ⟨rfl, (Fr.of_below hx').trans (hF.mono hzx (by simp)), HD3.out.succ hD (fun j hj => ?_)⟩
          have h1 := hfr j hj
          exact ⟨h1.1.trans (World.cell?_of_block (hx'.block bb (by omega))), h1.2.trans (World.frozen?_of_block (hx'.block bb (by omega)))⟩
        try go_simp
        iterate 1 (first | (refine wpY_skip (by decide) ?_ ?_; (focus (first | (go_simp; done) | (go_simp; simp [undef]; done) | (go_simp; intro h; cases h))); (try go_simp)) | (refine wpY_do (by decide) ?_ ?_; (focus (go_simp; done)); apply Exists.intro; refine ⟨fun wx hwx => ?_, ?_⟩; (focus ((have hcx := hwx.cellA); (have hzx := hwx.size); (try simp at hcx); unfold hushAt; (try simp [go_sem, BigFrame.eval_const, BigFrame.eval_global, BigFrame.eval_func, ↓IntWalk.iteOmega, *]); (try simp [hushUpon]); (first | done | rfl | fail))); (try go_simp)))
        refine wpY_nil ?_
        intro V4 hF4 hD4
        have HD4 := Lib.hid hD4
        have HB4 := Lib.hid (HB3.out.trans (hF4.below_of (C := w.heap.size) (by omega) (by simp; omega)))
        have HL4 := Lib.hid (HL3.out.keepB (hF4.block ab (by omega) (by simp; omega)))
        have hz4 : sk < V4.heap.size := by have := hF4.size; omega
        clear hF4 hD4 HL3 HB3 HD3 hz3 hz2
        refine stage_end ?_
        simp only [List.take_succ_cons, List.take_zero, List.drop_succ_cons, List.drop_zero]
        go_wp2_with fail
        go_loopw [9] (fun i wr => ∃ j : Nat, j ≤ N ∧ i = .int .i64 j ∧ Below V4.heap.size V4 wr) (fun i _ => N - (intOf i).toNat)
        case atStart => exact ⟨0, by omega, rfl, Below.refl _ _⟩
        case round =>
          obtain ⟨j, hj, rfl, hbq⟩ := hrel
          have HBQ := Lib.hid hbq
          have hzq := hbq.size
          clear hbq
          by_cases hjN : j < N
          · have hsw : w.heap.size ≤ wr.heap.size := by omega
            have hLj := HC0.out j hjN
            rw [← (HB4.out.trans (HBQ.out.mono (by omega))).cell (p := ⟨sb, off + j, none⟩) hsbN] at hLj
            by_cases hjk : j < k + 1
            · have hle : decide ((j : Int) ≤ (k : Int)) = true := by simp; omega
              have HLj := Lib.hid ((HL4.out.keepB (HBQ.out.block ab (by omega))).lo hjN hjk)
              have HDj := Lib.hid ((HD4.out.keepB (HBQ.out.block bb (by omega))).lo hjN hjk)
              have hjk2 : j ≤ k := by omega
              go_wp2_with fail
              refine wp_region_stages [43] (by kernel_rfl) (by kernel_rfl) (by kernel_rfl) (fun _ _ dx _ _ hx => by cases dx <;> exact hx) ?_
              refine stage_go (fun x => Below wr.heap.size wr x) (fun _ x => Below wr.heap.size wr x) 100 (by omega) ⟨fun _ _ h => h, fun _ _ _ h h' => h.trans (h'.mono h.size)⟩ (Below.drew (Below.refl _ _)) ?_
              simp only [List.take_succ_cons, List.take_zero, List.drop_succ_cons, List.drop_zero]
              iterate 43 (first | (refine wpY_skip (by decide) ?_ ?_; (focus (first | (go_simp; done) | (go_simp; simp [undef]; done) | (go_simp; intro h; cases h))); (try go_simp)) | (refine wpY_do (by decide) ?_ ?_; (focus (go_simp; done)); apply Exists.intro; refine ⟨fun wx hwx => ?_, ?_⟩; (focus ((have hcx := cellA hwx); (have hzx := hwx.size); (try simp at hzx); unfold hushAt; (try simp [go_sem, BigFrame.eval_const, BigFrame.eval_global, BigFrame.eval_func, ↓IntWalk.iteOmega, *]); (try simp [hushUpon]); (first | done | rfl | (go_at_call 41; refine (made_any (HLj.out.keepB (hwx.block _ (by omega))) ).mono ?_; rintro e wy ⟨rfl, rfl⟩; exact ⟨rfl, Below.refl _ _⟩) | (go_at_call 45; refine (is_any (HDj.out.keepB (hwx.block _ (by omega))) ).mono ?_; rintro e wy ⟨rfl, rfl⟩; exact ⟨rfl, Below.refl _ _⟩) | (go_at_call 42; refine (get_done (HLj.out.keepB (hwx.block _ (by omega))) _ (.inl rfl)).mono ?_; rintro e wy ⟨rfl, rfl⟩; exact ⟨rfl, Below.refl _ _⟩) | (go_at_call 46; refine (who_any (HDj.out.keepB (hwx.block _ (by omega))) ).mono ?_; rintro e wy ⟨rfl, rfl⟩; exact ⟨rfl, Below.refl _ _⟩)))); (try go_simp)))
              refine wpY_nil ?_
              intro V5 hb5
              have hb5 : Below wr.heap.size wr V5 := hb5
              have HB5 := Lib.hid (HBQ.out.trans (hb5.mono (by omega)))
              clear hb5
              refine stage_end ?_
              simp only [List.take_succ_cons, List.take_zero, List.drop_succ_cons, List.drop_zero]
              go_wp2_with fail
              go_roundw
              case rel => exact ⟨j + 1, by omega, by go_num, HB5.out⟩
              case measure => simp [intOf]; omega
            · have hle : decide ((j : Int) ≤ (k : Int)) = false := by simp; omega
              have HLj := Lib.hid ((HL4.out.keepB (HBQ.out.block ab (by omega))).hi hjN hjk)
              have HDj := Lib.hid ((HD4.out.keepB (HBQ.out.block bb (by omega))).hi hjN hjk)
              have hjk2 : ¬ j ≤ k := by omega
              go_wp2_with fail
              refine wp_region_stages [43] (by kernel_rfl) (by kernel_rfl) (by kernel_rfl) (fun _ _ dx _ _ hx => by cases dx <;> exact hx) ?_
              refine stage_go (fun x => Below wr.heap.size wr x) (fun _ x => Below wr.heap.size wr x) 100 (by omega) ⟨fun _ _ h => h, fun _ _ _ h h' => h.trans (h'.mono h.size)⟩ (Below.drew (Below.refl _ _)) ?_
              simp only [List.take_succ_cons, List.take_zero, List.drop_succ_cons, List.drop_zero]
              iterate 43 (first | (refine wpY_skip (by decide) ?_ ?_; (focus (first | (go_simp; done) | (go_simp; simp [undef]; done) | (go_simp; intro h; cases h))); (try go_simp)) | (refine wpY_do (by decide) ?_ ?_; (focus (go_simp; done)); apply Exists.intro; refine ⟨fun wx hwx => ?_, ?_⟩; (focus ((have hcx := cellA hwx); (have hzx := hwx.size); (try simp at hzx); unfold hushAt; (try simp [go_sem, BigFrame.eval_const, BigFrame.eval_global, BigFrame.eval_func, ↓IntWalk.iteOmega, *]); (try simp [hushUpon]); (first | done | rfl | (go_at_call 41; refine (made_any (HLj.out.keepB (hwx.block _ (by omega))) ).mono ?_; rintro e wy ⟨rfl, rfl⟩; exact ⟨rfl, Below.refl _ _⟩) | (go_at_call 45; refine (is_any (HDj.out.keepB (hwx.block _ (by omega))) ).mono ?_; rintro e wy ⟨rfl, rfl⟩; exact ⟨rfl, Below.refl _ _⟩) | (go_at_call 42; refine (get_done (HLj.out.keepB (hwx.block _ (by omega))) _ (.inl rfl)).mono ?_; rintro e wy ⟨rfl, rfl⟩; exact ⟨rfl, Below.refl _ _⟩) | (go_at_call 46; refine (who_any (HDj.out.keepB (hwx.block _ (by omega))) ).mono ?_; rintro e wy ⟨rfl, rfl⟩; exact ⟨rfl, Below.refl _ _⟩)))); (try go_simp)))
              refine wpY_nil ?_
              intro V5 hb5
              have hb5 : Below wr.heap.size wr V5 := hb5
              have HB5 := Lib.hid (HBQ.out.trans (hb5.mono (by omega)))
              clear hb5
              refine stage_end ?_
              simp only [List.take_succ_cons, List.take_zero, List.drop_succ_cons, List.drop_zero]
              go_wp2_with fail
              go_roundw
              case rel => exact ⟨j + 1, by omega, by go_num, HB5.out⟩
              case measure => simp [intOf]; omega
          · obtain rfl : j = N := by omega
            go_wp2_with fail
            go_roundw
            case rel => exact ⟨k + 1, by omega, by go_num, by omega, by omega, HB4.out.trans (HBQ.out.mono (by omega)), HL4.out.keepB (HBQ.out.block ab (by omega)), HD4.out.keepB (HBQ.out.block bb (by omega))⟩
            case measure => simp [intOf]; omega
      · obtain rfl : k = N := by omega
        go_wp2_with fail
        go_ret
        exact ⟨rfl, HB.out⟩
end Go.Proofs.Ytgbnpdgaalpkcaa.L9
