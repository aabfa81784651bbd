/- T12, T13 -/
import Derived.Test.YtnjgnbdebkckfaaGreatDoorA2
import Derived.Test.YtnjgnbdebkckfaaGreatDoorA10
import Derived.Test.YtnjgnbdebkckfaaGreatDoorA15
import Derived.Lib.Hide
set_option linter.unusedVariables false
set_option linter.unusedSimpArgs false
set_option linter.unnecessarySimpa false
namespace Go.Proofs.YtnjgnbdebkckfaaGreatDoor.T12
set_option maxRecDepth 100000
open Go.RowKit K1 K3 K5 K11 K12 K14 K20 K21 K22 K25 K30 K31 M0 C1 G1 G2 G3 G4 G5 G6 G7 G8 G9 G10 E3 E12 E25 ME MF S3 S4 T1
attribute [local go_sem] cell_pastA froz_pastA
/-- a terminal among the parts of memory: its block, the grid that is shown, the other one, the stops -/
def teL (b : Nat) (pv av : Value) (pm po : Option Addr) (sb cb gb gc xb hb hc : Nat) (t : Te) (F : List Res) : List Res := .blk b (emQ t.m pv pm po (.pointer (some ⟨sb, 0, none⟩)) av) 108 :: gL cb gb gc t.cg (gL xb hb hc t.og (.blk sb (scells t.s) 126 :: F))
structure TeAt (b : Nat) (pv av : Value) (t : Te) (F : List Res) (w : World) : Prop where
  out : ∃ sb cb gb gc xb hb hc pm po, (if t.m.alt = true then po else pm) = some ⟨cb, 0, none⟩ ∧ (if t.m.alt = true then pm else po) = some ⟨xb, 0, none⟩ ∧ Sep w (teL b pv av pm po sb cb gb gc xb hb hc t F)
/-- parts that are new, each of a type of its own -/
def typ : Res → TypeId
  | .blk _ _ t => t
  | .row _ t _ _ _ => t
  | .low _ _ => 0
theorem typ_at {r : Res} {w : World} (h : r.holds w) (hl : ∀ B w0, r ≠ .low B w0) {k : Nat} (hk : r.has k) : ∃ cs, w.heap[k]? = some (.cells cs (typ r) (0, 0)) := by
  cases r with
  | blk b cs t => obtain rfl : k = b := hk; exact ⟨_, h⟩
  | row v t s n xs =>
    have h' : w.ownsRow 0 t s v n xs := h
    rcases h'.2 with ⟨rfl, _⟩ | ⟨g, c, cur, rfl, _, hg, _⟩
    · cases hk
    · obtain rfl : g = k := Option.some.inj hk
      exact ⟨cur, hg⟩
  | low B w0 => exact absurd rfl (hl B w0)
theorem addNew {w w' : World} {L : List Res} (h : Sep w L) (hb : Below w.heap.size w w') (N : List Res) (hN : ∀ r ∈ N, r.holds w' ∧ (∀ B w0, r ≠ .low B w0) ∧ ∀ k, r.has k → w.heap.size ≤ k) (ht : (N.map typ).Nodup) : Sep w' (N ++ L) := by
  refine ⟨fun r hr => ?_, ?_⟩
  · rcases List.mem_append.1 hr with hr | hr
    · exact (hN r hr).1
    · exact (h.below hb).all r hr
  · refine List.pairwise_append.2 ⟨?_, h.apart, fun r hr s hs k hk hk' => ?_⟩
    · have hp : N.Pairwise fun r s => typ r ≠ typ s := List.pairwise_map.1 ht
      refine hp.imp_of_mem fun {r s} hr hs hne k hk hk' => hne ?_
      obtain ⟨cs, h1⟩ := typ_at (hN r hr).1 (hN r hr).2.1 hk
      obtain ⟨ds, h2⟩ := typ_at (hN s hs).1 (hN s hs).2.1 hk'
      rw [h1] at h2
      simp only [Option.some.injEq, Obj.cells.injEq] at h2
      exact h2.2.1
    · have := Res.lt (h.all s hs) hk'
      have := (hN r hr).2.2 k hk
      omega
structure NewG (B : Nat) (w : World) (k : Nat) (g : Gr) : Prop where
  out : ∃ kb kc, B ≤ k ∧ w.heap[k]? = some (.cells (gcells g kb kc).toArray 121 (0, 0)) ∧ w.ownsRow B 58 6 (.slice (some ⟨kb, 0, none⟩) g.c.length kc) g.c.length (g.c.flatMap ceV)
theorem newG_fr {B k : Nat} {g : Gr} : Stab [] (fun w => NewG B w k g) := fun w w' hf ⟨⟨kb, kc, h1, h2, h3⟩⟩ => ⟨⟨kb, kc, h1, (hf.block k (blk_lt h2) (by simp)).trans h2, own_fr0 w w' hf h3⟩⟩
structure CopyQ (B : Nat) (w : World) (g : Gr) (e : Ending) (w' : World) : Prop where
  out : ∃ p : Nat, e = .returned (.pointer (some ⟨p, 0, none⟩)) ∧ Below w.heap.size w w' ∧ NewG B w' p g
set_option maxHeartbeats 4000000 in
theorem copy_q0 (b gb gc : Nat) (g : Gr) (W0 : World) (h : GrAt W0 b gb gc g) (ok : GrOk g) (hc : ∀ j v, (g.c.flatMap ceV)[j]? = some v → W0.cell? ⟨gb, 0 + j, none⟩ = some v) (hlt : gb < W0.heap.size) : Calls Tryz.prog 44 #[.pointer (some ⟨b, 0, none⟩)] W0 (CopyQ W0.heap.size W0 g) := by
  have HC := Lib.hid hc
  obtain ⟨p1, p2⟩ := GrOk.pos ok
  have hcG0 := h.w0
  have hcG1 := h.h0
  have hcG2 := h.c0
  have hl := h.lt
  clear h hc
  go_enter Tryz.func44, Tryz.ntmps44
  go_wp2_with fail
  refine K32.reg0 (w := W0) [12, 14] [] 16 ?_
  simp only [numbered, List.take_succ_cons, List.take_zero, List.drop_succ_cons, List.drop_zero, List.take_nil, List.drop_nil, Nat.reduceAdd]
  (refine K32.zd ?_; (try go_simp))
  (refine K32.zd ?_; (try go_simp))
  (refine K32.zd ?_; (try go_simp))
  (refine K32.zd ?_; (try go_simp))
  (refine K32.zd ?_; (try go_simp))
  (refine K32.zd ?_; (try go_simp))
  (refine K32.zd ?_; (try go_simp))
  (refine K32.zd ?_; (try go_simp))
  (refine K32.zd ?_; (try go_simp))
  (refine K32.zd ?_; (try go_simp))
  (refine K32.zd ?_; (try go_simp))
  (refine K32.zd ?_; (try go_simp))
  (refine wz_any (fun p : Nat × Nat => .slice (some ⟨p.1, 0, none⟩) g.c.length p.2) (fun p w => w.ownsRow W0.heap.size 58 6 (.slice (some ⟨p.1, 0, none⟩) g.c.length p.2) g.c.length (g.c.flatMap ceV)) (0, 0) (by decide) (by decide) ?_ (by intro x y h; simp at h; (try obtain ⟨x1, x2⟩ := x); (try obtain ⟨y1, y2⟩ := y); simp_all) (fun p => own_fr0) ?_ ?_; (focus (first | rfl | (go_simp; done))); (focus (intro bs hok wx hwx hL; (have hwx : Below _ _ wx := hwx; have hcx := cellA hwx; have hfx := frozA hwx; have hzx := hwx.size; (try simp at hzx)); unfold zAt; (try simp [go_sem, K32.ev, ↓IntWalk.iteOmega, *]); (try simp only [zUpon]); refine ⟨rfl, ?_⟩; go_at_call 63; refine (clone_b W0.heap.size gb 0 _ gc g.c wx hwx.size rfl (by omega) (by omega) (fun j v hj => (World.cell?_of_block (hwx.block gb hlt)).trans (HC.out j v hj)) (Nat.lt_of_lt_of_le hlt hwx.size)).mono ?_; rintro e wy ⟨⟨p, rfl, hby, hown⟩⟩; first | exact ⟨_, rfl, p, rfl, hwx.trans (hby.mono (by first | exact hwx.size | (simp at hzx ⊢; omega))), Fr.of_below hby, hown⟩ | exact ⟨_, rfl, p.1, p.2, rfl, hwx.trans (hby.mono (by first | exact hwx.size | (simp at hzx ⊢; omega))), Fr.of_below hby, hown⟩)); intro p12 F12 hF12; (try go_simp))
  (refine K32.zd ?_; (try go_simp))
  (refine wz_new (fun b => .pointer (some ⟨b, 0, none⟩)) _ _ (by decide) (by decide) (by decide) C0e.es (growsB (by simp)) (by first | rfl | (go_simp; done)) (by intro b b' h; simp at h; omega) (by simp) (fun _ _ h => Below.size h) (fun bs hok wx hwx hL => by (have hwx : Below _ _ wx := hwx; have hcx := cellA hwx; have hfx := frozA hwx; have hzx := hwx.size; (try simp at hzx)); (try simp [go_sem, K32.ev, ↓IntWalk.iteOmega, *]); first | done | rfl) ?_; intro b14 hb14 F14 hF14; (try simp at hb14); (try go_simp))
  (refine K32.zc ?_; apply Exists.intro; refine ⟨fun bs hok wx hwx hL => ?_, ?_⟩; (focus ((have hwx : Below _ _ wx := hwx; have hcx := cellA hwx; have hfx := frozA hwx; have hzx := hwx.size; (try simp at hzx)); (try (have hm14 := hF14 _ (hL (14, F14) (by simp) (by kernel_rfl)); have hk14 := cell_blk hm14)); unfold zAt; (try simp [go_sem, K32.ev, ↓IntWalk.iteOmega, *]); (try simp (disch := omega) only [K32.unw]); (try simp only [zUpon]); (first | fail | exact ⟨rfl, Below.refl _ _⟩))); (try go_simp))
  refine wz_nil ?_
  intro wq hbq hLq
  have hm14 := hF14 _ (hLq.get 14 (by simp))
  obtain ⟨hk14, hx14, hg14, hy14, hl14⟩ := blk hm14
  have hA12 := Lib.hid (hF12 _ (hLq.get 12 (by simp)))
  clear hLq hF14 hF12
  have hcwq := cellA hbq
  have hfwq := frozA hbq
  have hzwq := hbq.size
  (try simp at hzwq)
  go_wp2_with fail
  go_ret
  refine ⟨⟨b14, rfl, hbq, ⟨p12.1, p12.2, by simpa using hb14, ?_, hA12.out⟩⟩⟩
  rw [hm14]; rfl
theorem copy_q (B b gb gc : Nat) (g : Gr) (w : World) (hB : B ≤ w.heap.size) (h : GrAt w b gb gc g) (ok : GrOk g) (hc : ∀ j v, (g.c.flatMap ceV)[j]? = some v → w.cell? ⟨gb, 0 + j, none⟩ = some v) (hlt : gb < w.heap.size) : Calls Tryz.prog 44 #[.pointer (some ⟨b, 0, none⟩)] w (CopyQ B w g) := by
  refine (copy_q0 b gb gc g w h ok hc hlt).mono ?_
  rintro e w' ⟨⟨p, rfl, hb, ⟨kb, kc, h1, h2, h3⟩⟩⟩
  refine ⟨⟨p, rfl, hb, ⟨kb, kc, by omega, h2, G10.own_rebase (own_base h3) ?_⟩⟩⟩
  have := (h3.lt kb rfl).1
  omega
structure StQ (B : Nat) (w : World) (s : St) (e : Ending) (w' : World) : Prop where
  out : ∃ p : Nat, e = .returned (.pointer (some ⟨p, 0, none⟩)) ∧ Below w.heap.size w w' ∧ B ≤ p ∧ w'.heap[p]? = some (.cells (scells s).toArray 126 (0, 0))
theorem stq_fr {B k : Nat} {s : St} : Stab [] (fun w => B ≤ k ∧ w.heap[k]? = some (.cells (scells s).toArray 126 (0, 0))) := fun w w' hf h => ⟨h.1, (hf.block k (blk_lt h.2) (by simp)).trans h.2⟩
theorem new_q (B : Nat) (x : Int) (w : World) (hB : B ≤ w.heap.size) : Calls Tryz.prog 46 #[.int .i64 x] w (StQ B w (stopsF x)) := by
  refine (S2.new_any x w).mono ?_
  rintro e w' ⟨rfl, h1, hb⟩
  exact ⟨⟨_, rfl, hb, hB, to_stops h1 (stopsF x) rfl rfl⟩⟩
end Go.Proofs.YtnjgnbdebkckfaaGreatDoor.T12
namespace Go.Proofs.YtnjgnbdebkckfaaGreatDoor.T13
set_option maxRecDepth 100000
open Go.RowKit K1 K3 K5 K11 K12 K14 K20 K21 K22 K25 K30 K31 M0 C1 G1 G2 G3 G4 G5 G6 G7 G8 G9 G10 E3 E12 E25 ME MF S3 S4 T1 E14 T12
attribute [local go_sem] cell_pastA froz_pastA
structure NewEP (x y : Int) (F : List Res) (e : Ending) (w' : World) : Prop where
  out : ∃ b pb, e = .returned (.pointer (some ⟨b, 0, none⟩)) ∧ TeAt b (.pointer (some ⟨pb, 0, none⟩)) (.slice none 0 0) (newE x y) (pL pb false 102 Pg.zero (.slice none 0 0) (.slice none 0 0) (.slice none 0 0) F) w'
set_option maxHeartbeats 4000000 in
theorem newE_any (x y : Int) (F : List Res) (w : World) (hs : Sep w F) : Calls Tryz.prog 22 #[.int .i64 x, .int .i64 y] w (NewEP x y F) := by
  obtain ⟨g, hg⟩ : ∃ g, newG x y = g := ⟨_, rfl⟩
  have okg : GrOk g := hg ▸ newG_ok x y
  have OKG := Lib.hid okg
  have HG := Lib.hid hg
  have HS := Lib.hid hs
  clear hs hg okg
  go_enter Tryz.func22, Tryz.ntmps22
  go_wp2_with (first | (go_at_call 43; refine (New_any x y _ _ HS.out).mono ?_; rintro e w1 ⟨⟨b0, gb0, rfl, hs⟩⟩; rw [HG.out] at hs; have HS := Lib.hid hs; clear hs))
  refine K30.atR (id := 3) ?_
  (with_reducible apply K30.wp_at)
  exact K32.fnd
  intro xw hs
  (try simp only [World.size_alloc, World.size_setCell, List.set_cons_zero, List.set_cons_succ] at hs)
  (try clear hcC hzC hlC); (try clear hcG hzG hlG); obtain ⟨hcC, hzC, hlC⟩ := hs.here (b := w1.heap.size) K32.rm; obtain ⟨hcG, hzG, hlG⟩ := hs.here (b := b0) K32.rm; (try clear hcC0 hcC1 hcC2 hcC3 hcC4 hcC5 hcC6 hcC7 hcC8 hcC9 hcC10); have hcC0 := hcC 0; have hcC1 := hcC 1; have hcC2 := hcC 2; have hcC3 := hcC 3; have hcC4 := hcC 4; have hcC5 := hcC 5; have hcC6 := hcC 6; have hcC7 := hcC 7; have hcC8 := hcC 8; have hcC9 := hcC 9; have hcC10 := hcC 10; clear hcC; simp only [List.getElem?_cons_zero, List.getElem?_cons_succ] at hcC0 hcC1 hcC2 hcC3 hcC4 hcC5 hcC6 hcC7 hcC8 hcC9 hcC10; (try clear hlt); obtain ⟨hc, hlt⟩ := gL_hc (hs.pick2 (r1 := .blk b0 (gcells g gb0 g.c.length) 121) (r2 := .row (.slice (some ⟨gb0, 0, none⟩) g.c.length g.c.length) 58 6 g.c.length (g.c.flatMap ceV)) K32.rm K32.rm); have HC := Lib.hid hc; clear hc
  have HS := Lib.hid hs
  clear hs
  refine K32.regO (w := xw) [3, 6, 11, 13] [] 15 [0, 1, 2, 4, 5, 6, 7, 8, 9, 10, 11, 3, 12, 13, 14] ?_
  simp only [K23.pickOps, List.getElem?_cons_succ, List.getElem?_cons_zero, List.drop_succ_cons, List.drop_zero, List.drop_nil]
  (refine K32.zc ?_; apply Exists.intro; refine ⟨fun bs hok wx hwx hL => ?_, ?_⟩; (focus ((have hwx : Below _ _ wx := hwx; have hcx := cellA hwx; have hfx := frozA hwx; have hzx := hwx.size; (try simp at hzx)); unfold zAt; (try simp [go_sem, K32.ev, ↓IntWalk.iteOmega, *]); (try simp (disch := omega) only [K32.unw]); (try simp only [zUpon]); (first | (refine ⟨rfl, ?_⟩; go_at_call 45; refine (G1.H_any b0 gb0 g.c.length g wx ((GrAt.of HS.out K32.rm).low hwx)).mono ?_; rintro e wy ⟨rfl, hby⟩; exact ⟨_, rfl, rfl, hby⟩) | (refine ⟨rfl, ?_⟩; go_at_call 47; refine (G1.W_any b0 gb0 g.c.length g wx ((GrAt.of HS.out K32.rm).low hwx)).mono ?_; rintro e wy ⟨rfl, hby⟩; exact ⟨_, rfl, rfl, hby⟩) | exact ⟨rfl, Below.refl _ _⟩))); (try go_simp))
  (refine K32.zc ?_; apply Exists.intro; refine ⟨fun bs hok wx hwx hL => ?_, ?_⟩; (focus ((have hwx : Below _ _ wx := hwx; have hcx := cellA hwx; have hfx := frozA hwx; have hzx := hwx.size; (try simp at hzx)); unfold zAt; (try simp [go_sem, K32.ev, ↓IntWalk.iteOmega, *]); (try simp (disch := omega) only [K32.unw]); (try simp only [zUpon]); (first | (refine ⟨rfl, ?_⟩; go_at_call 45; refine (G1.H_any b0 gb0 g.c.length g wx ((GrAt.of HS.out K32.rm).low hwx)).mono ?_; rintro e wy ⟨rfl, hby⟩; exact ⟨_, rfl, rfl, hby⟩) | (refine ⟨rfl, ?_⟩; go_at_call 47; refine (G1.W_any b0 gb0 g.c.length g wx ((GrAt.of HS.out K32.rm).low hwx)).mono ?_; rintro e wy ⟨rfl, hby⟩; exact ⟨_, rfl, rfl, hby⟩) | exact ⟨rfl, Below.refl _ _⟩))); (try go_simp))
  (refine K32.zc ?_; apply Exists.intro; refine ⟨fun bs hok wx hwx hL => ?_, ?_⟩; (focus ((have hwx : Below _ _ wx := hwx; have hcx := cellA hwx; have hfx := frozA hwx; have hzx := hwx.size; (try simp at hzx)); unfold zAt; (try simp [go_sem, K32.ev, ↓IntWalk.iteOmega, *]); (try simp (disch := omega) only [K32.unw]); (try simp only [zUpon]); (first | (refine ⟨rfl, ?_⟩; go_at_call 45; refine (G1.H_any b0 gb0 g.c.length g wx ((GrAt.of HS.out K32.rm).low hwx)).mono ?_; rintro e wy ⟨rfl, hby⟩; exact ⟨_, rfl, rfl, hby⟩) | (refine ⟨rfl, ?_⟩; go_at_call 47; refine (G1.W_any b0 gb0 g.c.length g wx ((GrAt.of HS.out K32.rm).low hwx)).mono ?_; rintro e wy ⟨rfl, hby⟩; exact ⟨_, rfl, rfl, hby⟩) | exact ⟨rfl, Below.refl _ _⟩))); (try go_simp))
  (refine K32.zc ?_; apply Exists.intro; refine ⟨fun bs hok wx hwx hL => ?_, ?_⟩; (focus ((have hwx : Below _ _ wx := hwx; have hcx := cellA hwx; have hfx := frozA hwx; have hzx := hwx.size; (try simp at hzx)); unfold zAt; (try simp [go_sem, K32.ev, ↓IntWalk.iteOmega, *]); (try simp (disch := omega) only [K32.unw]); (try simp only [zUpon]); (first | (refine ⟨rfl, ?_⟩; go_at_call 45; refine (G1.H_any b0 gb0 g.c.length g wx ((GrAt.of HS.out K32.rm).low hwx)).mono ?_; rintro e wy ⟨rfl, hby⟩; exact ⟨_, rfl, rfl, hby⟩) | (refine ⟨rfl, ?_⟩; go_at_call 47; refine (G1.W_any b0 gb0 g.c.length g wx ((GrAt.of HS.out K32.rm).low hwx)).mono ?_; rintro e wy ⟨rfl, hby⟩; exact ⟨_, rfl, rfl, hby⟩) | exact ⟨rfl, Below.refl _ _⟩))); (try go_simp))
  (refine K32.zc ?_; apply Exists.intro; refine ⟨fun bs hok wx hwx hL => ?_, ?_⟩; (focus ((have hwx : Below _ _ wx := hwx; have hcx := cellA hwx; have hfx := frozA hwx; have hzx := hwx.size; (try simp at hzx)); unfold zAt; (try simp [go_sem, K32.ev, ↓IntWalk.iteOmega, *]); (try simp (disch := omega) only [K32.unw]); (try simp only [zUpon]); (first | (refine ⟨rfl, ?_⟩; go_at_call 45; refine (G1.H_any b0 gb0 g.c.length g wx ((GrAt.of HS.out K32.rm).low hwx)).mono ?_; rintro e wy ⟨rfl, hby⟩; exact ⟨_, rfl, rfl, hby⟩) | (refine ⟨rfl, ?_⟩; go_at_call 47; refine (G1.W_any b0 gb0 g.c.length g wx ((GrAt.of HS.out K32.rm).low hwx)).mono ?_; rintro e wy ⟨rfl, hby⟩; exact ⟨_, rfl, rfl, hby⟩) | exact ⟨rfl, Below.refl _ _⟩))); (try go_simp))
  (refine wz_any (fun p : Nat => .pointer (some ⟨p, 0, none⟩)) (fun p w => NewG xw.heap.size w p g) 0 (by decide) (by decide) ?_ (by intro x y h; simp at h; omega) (fun p => newG_fr) ?_ ?_; (focus (first | rfl | (go_simp; done))); (focus (intro bs hok wx hwx hL; (have hwx : Below _ _ wx := hwx; have hcx := cellA hwx; have hfx := frozA hwx; have hzx := hwx.size; (try simp at hzx)); unfold zAt; (try simp [go_sem, K32.ev, ↓IntWalk.iteOmega, *]); (try simp only [zUpon]); refine ⟨rfl, ?_⟩; go_at_call 44; refine (copy_q xw.heap.size b0 gb0 _ g wx hwx.size ((GrAt.of HS.out K32.rm).low hwx) OKG.out (fun j v hj => (World.cell?_of_block (hwx.block gb0 hlt)).trans (HC.out j v hj)) (Nat.lt_of_lt_of_le hlt hwx.size)).mono ?_; rintro e wy ⟨⟨p, rfl, hby, hown⟩⟩; first | exact ⟨_, rfl, p, rfl, hwx.trans (hby.mono (by first | exact hwx.size | (simp at hzx ⊢; omega))), Fr.of_below hby, hown⟩ | exact ⟨_, rfl, p.1, p.2, rfl, hwx.trans (hby.mono (by first | exact hwx.size | (simp at hzx ⊢; omega))), Fr.of_below hby, hown⟩)); intro p6 F6 hF6; (try go_simp))
  (refine K32.zc ?_; apply Exists.intro; refine ⟨fun bs hok wx hwx hL => ?_, ?_⟩; (focus ((have hwx : Below _ _ wx := hwx; have hcx := cellA hwx; have hfx := frozA hwx; have hzx := hwx.size; (try simp at hzx)); unfold zAt; (try simp [go_sem, K32.ev, ↓IntWalk.iteOmega, *]); (try simp (disch := omega) only [K32.unw]); (try simp only [zUpon]); (first | (refine ⟨rfl, ?_⟩; go_at_call 45; refine (G1.H_any b0 gb0 g.c.length g wx ((GrAt.of HS.out K32.rm).low hwx)).mono ?_; rintro e wy ⟨rfl, hby⟩; exact ⟨_, rfl, rfl, hby⟩) | (refine ⟨rfl, ?_⟩; go_at_call 47; refine (G1.W_any b0 gb0 g.c.length g wx ((GrAt.of HS.out K32.rm).low hwx)).mono ?_; rintro e wy ⟨rfl, hby⟩; exact ⟨_, rfl, rfl, hby⟩) | exact ⟨rfl, Below.refl _ _⟩))); (try go_simp))
  (refine K32.zc ?_; apply Exists.intro; refine ⟨fun bs hok wx hwx hL => ?_, ?_⟩; (focus ((have hwx : Below _ _ wx := hwx; have hcx := cellA hwx; have hfx := frozA hwx; have hzx := hwx.size; (try simp at hzx)); unfold zAt; (try simp [go_sem, K32.ev, ↓IntWalk.iteOmega, *]); (try simp (disch := omega) only [K32.unw]); (try simp only [zUpon]); (first | (refine ⟨rfl, ?_⟩; go_at_call 45; refine (G1.H_any b0 gb0 g.c.length g wx ((GrAt.of HS.out K32.rm).low hwx)).mono ?_; rintro e wy ⟨rfl, hby⟩; exact ⟨_, rfl, rfl, hby⟩) | (refine ⟨rfl, ?_⟩; go_at_call 47; refine (G1.W_any b0 gb0 g.c.length g wx ((GrAt.of HS.out K32.rm).low hwx)).mono ?_; rintro e wy ⟨rfl, hby⟩; exact ⟨_, rfl, rfl, hby⟩) | exact ⟨rfl, Below.refl _ _⟩))); (try go_simp))
  (refine K32.zc ?_; apply Exists.intro; refine ⟨fun bs hok wx hwx hL => ?_, ?_⟩; (focus ((have hwx : Below _ _ wx := hwx; have hcx := cellA hwx; have hfx := frozA hwx; have hzx := hwx.size; (try simp at hzx)); unfold zAt; (try simp [go_sem, K32.ev, ↓IntWalk.iteOmega, *]); (try simp (disch := omega) only [K32.unw]); (try simp only [zUpon]); (first | (refine ⟨rfl, ?_⟩; go_at_call 45; refine (G1.H_any b0 gb0 g.c.length g wx ((GrAt.of HS.out K32.rm).low hwx)).mono ?_; rintro e wy ⟨rfl, hby⟩; exact ⟨_, rfl, rfl, hby⟩) | (refine ⟨rfl, ?_⟩; go_at_call 47; refine (G1.W_any b0 gb0 g.c.length g wx ((GrAt.of HS.out K32.rm).low hwx)).mono ?_; rintro e wy ⟨rfl, hby⟩; exact ⟨_, rfl, rfl, hby⟩) | exact ⟨rfl, Below.refl _ _⟩))); (try go_simp))
  (refine K32.zc ?_; apply Exists.intro; refine ⟨fun bs hok wx hwx hL => ?_, ?_⟩; (focus ((have hwx : Below _ _ wx := hwx; have hcx := cellA hwx; have hfx := frozA hwx; have hzx := hwx.size; (try simp at hzx)); unfold zAt; (try simp [go_sem, K32.ev, ↓IntWalk.iteOmega, *]); (try simp (disch := omega) only [K32.unw]); (try simp only [zUpon]); (first | (refine ⟨rfl, ?_⟩; go_at_call 45; refine (G1.H_any b0 gb0 g.c.length g wx ((GrAt.of HS.out K32.rm).low hwx)).mono ?_; rintro e wy ⟨rfl, hby⟩; exact ⟨_, rfl, rfl, hby⟩) | (refine ⟨rfl, ?_⟩; go_at_call 47; refine (G1.W_any b0 gb0 g.c.length g wx ((GrAt.of HS.out K32.rm).low hwx)).mono ?_; rintro e wy ⟨rfl, hby⟩; exact ⟨_, rfl, rfl, hby⟩) | exact ⟨rfl, Below.refl _ _⟩))); (try go_simp))
  (refine wz_any (fun p : Nat => .pointer (some ⟨p, 0, none⟩)) (fun p w => xw.heap.size ≤ p ∧ w.heap[p]? = some (.cells (scells (stopsF g.w)).toArray 126 (0, 0))) 0 (by decide) (by decide) ?_ (by intro x y h; simp at h; omega) (fun p => stq_fr) ?_ ?_; (focus (first | rfl | (go_simp; done))); (focus (intro bs hok wx hwx hL; (have hwx : Below _ _ wx := hwx; have hcx := cellA hwx; have hfx := frozA hwx; have hzx := hwx.size; (try simp at hzx)); unfold zAt; (try simp [go_sem, K32.ev, ↓IntWalk.iteOmega, *]); (try simp only [zUpon]); refine ⟨rfl, ?_⟩; go_at_call 46; refine (new_q xw.heap.size g.w wx hwx.size).mono ?_; rintro e wy ⟨⟨p, rfl, hby, hown⟩⟩; first | exact ⟨_, rfl, p, rfl, hwx.trans (hby.mono (by first | exact hwx.size | (simp at hzx ⊢; omega))), Fr.of_below hby, hown⟩ | exact ⟨_, rfl, p.1, p.2, rfl, hwx.trans (hby.mono (by first | exact hwx.size | (simp at hzx ⊢; omega))), Fr.of_below hby, hown⟩)); intro p11 F11 hF11; (try go_simp))
  (refine wz_new (fun b => .pointer (some ⟨b, 0, none⟩)) _ _ (by decide) (by decide) (by decide) C0e.es (growsB (by simp)) (by first | rfl | (go_simp; done)) (by intro b b' h; simp at h; omega) (by simp) (fun _ _ h => Below.size h) (fun bs hok wx hwx hL => by (have hwx : Below _ _ wx := hwx; have hcx := cellA hwx; have hfx := frozA hwx; have hzx := hwx.size; (try simp at hzx)); (try simp [go_sem, K32.ev, ↓IntWalk.iteOmega, *]); first | done | rfl) ?_; intro b3 hb3 F3 hF3; (try simp at hb3); (try go_simp))
  (refine K32.zc ?_; apply Exists.intro; refine ⟨fun bs hok wx hwx hL => ?_, ?_⟩; (focus ((have hwx : Below _ _ wx := hwx; have hcx := cellA hwx; have hfx := frozA hwx; have hzx := hwx.size; (try simp at hzx)); (try (have hm3 := hF3 _ (hL (3, F3) (by simp) (by kernel_rfl)); have hk3 := cell_blk hm3)); unfold zAt; (try simp [go_sem, K32.ev, ↓IntWalk.iteOmega, *]); (try simp (disch := omega) only [K32.unw]); (try simp only [zUpon]); (first | (refine ⟨rfl, ?_⟩; go_at_call 45; refine (G1.H_any b0 gb0 g.c.length g wx ((GrAt.of HS.out K32.rm).low hwx)).mono ?_; rintro e wy ⟨rfl, hby⟩; exact ⟨_, rfl, rfl, hby⟩) | (refine ⟨rfl, ?_⟩; go_at_call 47; refine (G1.W_any b0 gb0 g.c.length g wx ((GrAt.of HS.out K32.rm).low hwx)).mono ?_; rintro e wy ⟨rfl, hby⟩; exact ⟨_, rfl, rfl, hby⟩) | exact ⟨rfl, Below.refl _ _⟩))); (try go_simp))
  (refine wz_new (fun b => .pointer (some ⟨b, 0, none⟩)) _ _ (by decide) (by decide) (by decide) C0e.es (growsB (by simp)) (by first | rfl | (go_simp; done)) (by intro b b' h; simp at h; omega) (by simp) (fun _ _ h => Below.size h) (fun bs hok wx hwx hL => by (have hwx : Below _ _ wx := hwx; have hcx := cellA hwx; have hfx := frozA hwx; have hzx := hwx.size; (try simp at hzx)); (try (have hm3 := hF3 _ (hL (3, F3) (by simp) (by kernel_rfl)); have hk3 := cell_blk hm3)); (try simp [go_sem, K32.ev, ↓IntWalk.iteOmega, *]); first | done | rfl) ?_; intro b13 hb13 F13 hF13; (try simp at hb13); (try go_simp))
  (refine K32.zc ?_; apply Exists.intro; refine ⟨fun bs hok wx hwx hL => ?_, ?_⟩; (focus ((have hwx : Below _ _ wx := hwx; have hcx := cellA hwx; have hfx := frozA hwx; have hzx := hwx.size; (try simp at hzx)); (try (have hm3 := hF3 _ (hL (3, F3) (by simp) (by kernel_rfl)); have hk3 := cell_blk hm3)); (try (have hm13 := hF13 _ (hL (13, F13) (by simp) (by kernel_rfl)); have hk13 := cell_blk hm13)); unfold zAt; (try simp [go_sem, K32.ev, ↓IntWalk.iteOmega, *]); (try simp (disch := omega) only [K32.unw]); (try simp only [zUpon]); (first | (refine ⟨rfl, ?_⟩; go_at_call 45; refine (G1.H_any b0 gb0 g.c.length g wx ((GrAt.of HS.out K32.rm).low hwx)).mono ?_; rintro e wy ⟨rfl, hby⟩; exact ⟨_, rfl, rfl, hby⟩) | (refine ⟨rfl, ?_⟩; go_at_call 47; refine (G1.W_any b0 gb0 g.c.length g wx ((GrAt.of HS.out K32.rm).low hwx)).mono ?_; rintro e wy ⟨rfl, hby⟩; exact ⟨_, rfl, rfl, hby⟩) | exact ⟨rfl, Below.refl _ _⟩))); (try go_simp))
  refine wz_nil ?_
  intro wq hbq hLq
  have hm3 := hF3 _ (hLq.get 3 (by simp))
  have hm13 := hF13 _ (hLq.get 13 (by simp))
  obtain ⟨hk3, hx3, hg3, hy3, hl3⟩ := blk hm3
  obtain ⟨hk13, hx13, hg13, hy13, hl13⟩ := blk hm13
  have hA6 := Lib.hid (hF6 _ (hLq.get 6 (by simp)))
  have hA11 := Lib.hid (hF11 _ (hLq.get 11 (by simp)))
  clear hLq hF3 hF13 hF6 hF11
  have hcwq := cellA hbq
  have hfwq := frozA hbq
  have hzwq := hbq.size
  (try simp at hzwq)
  go_wp2_with fail
  go_ret
  obtain ⟨kb, kc, k1, k2, k3⟩ := hA6.out.out
  obtain ⟨k4, k5⟩ := hA11.out
  have hn := addNew HS.out hbq [.blk b13 (emV (.int .i64 0) (.int .i64 0) (.int .i64 0) (.int .i64 0) (.bool false) (.bool false) (.bool false) (.bool false) (.int .u8 66) (.int .u8 66) (.int .i64 0) (.int .i64 0) (.int .i64 0) (.int .i64 0) (.int .i64 0) (.bool false) (.bool false) (.bool false) (.bool false) (.int .u8 66) (.int .u8 66) (.int .i64 0) (.pointer (some ⟨b3, 0, none⟩)) (.pointer (some ⟨b0, 0, none⟩)) (.pointer (some ⟨p6, 0, none⟩)) (.bool false) (.int .i64 0) (.int .i64 g.h) (.bool true) (.bool false) (.bool false) (.bool false) (.pointer (some ⟨p11, 0, none⟩)) (.slice none 0 0)) 108, .blk p6 (gcells g kb kc) 121, .row (.slice (some ⟨kb, 0, none⟩) g.c.length kc) 58 6 g.c.length (g.c.flatMap ceV), .blk p11 (scells (stopsF g.w)) 126, .blk b3 (parV (preO false) (.int .i64 0) (.string ⟨#[]⟩) (.slice none 0 0) (.bool false) (.bool false) (.int .i64 0) (.slice none 0 0) (.bool false) (.slice none 0 0) (.slice none 0 0)) 102] (by
    intro r hr
    simp only [List.mem_cons, List.not_mem_nil, or_false] at hr
    rcases hr with rfl | rfl | rfl | rfl | rfl
    · exact ⟨hm13, fun _ _ h => (by cases h), fun k hk => by obtain rfl : k = b13 := hk; simpa using hb13⟩
    · exact ⟨k2, fun _ _ h => (by cases h), fun k hk => by obtain rfl : k = p6 := hk; exact k1⟩
    · exact ⟨own_base k3, fun _ _ h => (by cases h), fun k hk => (k3.lt k hk).1⟩
    · exact ⟨k5, fun _ _ h => (by cases h), fun k hk => by obtain rfl : k = p11 := hk; exact k4⟩
    · exact ⟨hm3, fun _ _ h => (by cases h), fun k hk => by obtain rfl : k = b3 := hk; simpa using hb3⟩) (by show [108, 121, 58, 126, 102].Nodup; decide)
  have hn := ((hn.nilRow (t := 5) (s := 1)).nilRow (t := 3) (s := 1)).nilRow (t := 5) (s := 1)
  have hf := hn.end9 (F := .row (.slice none 0 0) 5 1 0 [] :: F) (s1 := .blk b13 (emV (.int .i64 0) (.int .i64 0) (.int .i64 0) (.int .i64 0) (.bool false) (.bool false) (.bool false) (.bool false) (.int .u8 66) (.int .u8 66) (.int .i64 0) (.int .i64 0) (.int .i64 0) (.int .i64 0) (.int .i64 0) (.bool false) (.bool false) (.bool false) (.bool false) (.int .u8 66) (.int .u8 66) (.int .i64 0) (.pointer (some ⟨b3, 0, none⟩)) (.pointer (some ⟨b0, 0, none⟩)) (.pointer (some ⟨p6, 0, none⟩)) (.bool false) (.int .i64 0) (.int .i64 g.h) (.bool true) (.bool false) (.bool false) (.bool false) (.pointer (some ⟨p11, 0, none⟩)) (.slice none 0 0)) 108) (s2 := .blk b0 (gcells g gb0 g.c.length) 121) (s3 := .row (.slice (some ⟨gb0, 0, none⟩) g.c.length g.c.length) 58 6 g.c.length (g.c.flatMap ceV)) (s4 := .blk p6 (gcells g kb kc) 121) (s5 := .row (.slice (some ⟨kb, 0, none⟩) g.c.length kc) 58 6 g.c.length (g.c.flatMap ceV)) (s6 := .blk p11 (scells (stopsF g.w)) 126) (s7 := .blk b3 (parV (preO false) (.int .i64 0) (.string ⟨#[]⟩) (.slice none 0 0) (.bool false) (.bool false) (.int .i64 0) (.slice none 0 0) (.bool false) (.slice none 0 0) (.slice none 0 0)) 102) (s8 := .row (.slice none 0 0) 5 1 0 []) (s9 := .row (.slice none 0 0) 3 1 0 []) K32.rm K32.rm K32.rm K32.rm K32.rm K32.rm K32.rm K32.rm K32.rm (by apply List.Sublist.cons_cons; repeat (first | exact List.Sublist.refl _ | apply List.Sublist.cons))
  have hg := HG.out
  subst hg
  exact ⟨⟨b13, b3, rfl, ⟨⟨p11, b0, gb0, (newG x y).c.length, p6, kb, kc, some ⟨b0, 0, none⟩, some ⟨p6, 0, none⟩, rfl, rfl, hf⟩⟩⟩⟩
end Go.Proofs.YtnjgnbdebkckfaaGreatDoor.T13
