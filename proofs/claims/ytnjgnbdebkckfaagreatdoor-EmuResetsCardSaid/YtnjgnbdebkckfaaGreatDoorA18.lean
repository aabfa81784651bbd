/- T4, T5 -/
import Derived.Test.YtnjgnbdebkckfaaGreatDoorA2
import Derived.Test.YtnjgnbdebkckfaaGreatDoorA17
import Derived.Lib.Hide
import Derived.Deep.DeepCutAuto
set_option linter.unusedVariables false
set_option linter.unusedSimpArgs false
set_option linter.unnecessarySimpa false
namespace Go.Proofs.YtnjgnbdebkckfaaGreatDoor.T4
set_option maxRecDepth 100000
open Go.RowKit K1 K3 K5 K11 K12 K14 K20 K21 K22 K25 K30 K31 M0 C1 G1 G2 G3 G4 G5 G6 G7 G8 ME MF S3 T1 T2 T3
attribute [local go_sem] cell_pastA froz_pastA
structure EmS (b cb gb gc : Nat) (pv : Value) (pm po : Option Addr) (sv av : Value) (m : Em) (g : Gr) (F : List Res) (w : World) : Prop where
  out : Sep w (.blk b (emQ m pv pm po sv av) 108 :: gL cb gb gc g F)
structure EmS1 (v v' : Value) (P : World → Prop) (w : World) : Prop where
  val : v = v'
  out : P w
theorem src_blk {w : World} {L L' : List Res} {k : Nat} {c : Ce} {u : TypeId} (h : Sep w L) (hr : Rm L (.blk k (ceV c) u) L') : SrcAt w (some ⟨k, 0, none⟩) [c] := by
  obtain ⟨h1, h2, h3⟩ := h.here hr
  refine ⟨k, 0, rfl, h3, fun j v hj => ?_⟩
  rw [Nat.zero_add, h1 j]
  simpa using hj
theorem wrap_alt (t : Te) : (wrapE t).m.alt = t.m.alt := by
  unfold wrapE indexE
  split
  · split
    · rw [setCg_m]; rfl
    · split <;> rfl
  · rfl
theorem ins_m (t : Te) : (insE t).m = t.m := by unfold insE; split <;> first | rw [setCg_m] | rfl
theorem put_m (t : Te) (r : Int) : (putE t r).m = t.m := setCg_m _ _
theorem put_cg (t : Te) (r : Int) : (putE t r).cg = setG t.cg t.m.cu.x t.m.cu.y [⟨r, t.m.cu.pen⟩] := setCg_cg _ _
theorem lastE_y (t : Te) (h : t.m.cu.x = t.cg.w - 1) : lastE t = t.setLate t.m.wrap := by unfold lastE; rw [if_pos h]
theorem lastE_n (t : Te) (h : ¬ t.m.cu.x = t.cg.w - 1) : lastE t = (t.setLate false).setX (t.m.cu.x + 1) := by unfold lastE; rw [if_neg h]
theorem op_w {g g' : Gr} {c : Ce} (h : GOp g g' c) : g'.w = g.w := h.w
set_option maxHeartbeats 4000000 in
theorem print_any (b cb gb gc : Nat) (pv : Value) (pm po : Option Addr) (sv av : Value) (t : Te) (r : Int) (F : List Res) (w : World) (hs : Sep w (.blk b (emQ t.m pv pm po sv av) 108 :: gL cb gb gc t.cg F)) (hcur : (if t.m.alt = true then po else pm) = some ⟨cb, 0, none⟩) (ok : TeOk t) : Calls Tryz.prog 64 #[.pointer (some ⟨b, 0, none⟩), .int .i32 r] w (EmP b cb gb gc pv pm po sv av (printE t r).m (printE t r).cg F) := by
  have HCUR := Lib.hid hcur
  have OK := Lib.hid ok
  have HS := Lib.hid hs
  clear hs ok hcur
  go_enter Tryz.func64, Tryz.ntmps64
  refine wp_seq_k fun K0 hK0 => ?_
  go_cut [] (fun wx => EmS b cb gb gc pv pm po sv av (wrapE t).m (wrapE t).cg F wx)
  case first =>
    have hs := HS.out
    have ok := OK.out
    have OKX := Lib.hid (ok_x ok (x := 0) (by decide) (by have := ok.g.w2; omega))
    obtain ⟨hcE, hzE, hlE⟩ := hs.here (b := b) K32.rm; have hcE0 := (hcE 0).trans (emV_0 ..); have hcE1 := (hcE 1).trans (emV_1 ..); have hcE31 := (hcE 31).trans (emV_31 ..); have hcE28 := (hcE 28).trans (emV_28 ..); clear hcE
    clear hs ok
    by_cases hl : t.m.late = true
    · by_cases hw : t.m.wrap = true
      · have e : wrapE t = indexE (t.setX 0) := by unfold wrapE; rw [if_pos ⟨hl, hw⟩]
        have HE := Lib.hid e
        clear e
        go_wp2_with (first | (go_at_call 77; refine K32.ca (fun xw hs => ?_); (try simp only [emV_sets] at hs); have hs := hs.pick3 (r1 := .blk b (emQ ((t.setX 0).m) pv pm po sv av) 108) (r2 := .blk cb (gcells t.cg gb gc) 121) (r3 := .row (.slice (some ⟨gb, 0, none⟩) t.cg.c.length gc) 58 6 t.cg.c.length (t.cg.c.flatMap ceV)) K32.rm K32.rm K32.rm; refine (index_any b cb gb gc pv pm po sv av (t.setX 0) _ _ hs HCUR.out OKX.out).mono ?_; clear hs; rintro e w1 ⟨⟨rfl, hs⟩⟩; (try clear hcE0 hcE1 hcE28 hcE31 hzE hlE); obtain ⟨hcE0, hcE1, hcE28, hcE31, hzE, hlE⟩ := T1.f0_1_28_31 hs K32.rm; have HS := Lib.hid hs; clear hs))
        go_meet
        case rel => exact ⟨by rw [HE.out]; exact HS.out⟩
      · have e : wrapE t = t := by unfold wrapE; rw [if_neg (fun h => hw h.2)]
        have HE := Lib.hid e
        clear e
        go_wp2_with fail
        go_meet
        case rel => exact ⟨by rw [HE.out]; exact HS.out⟩
    · have e : wrapE t = t := by unfold wrapE; rw [if_neg (fun h => hl h.1)]
      have HE := Lib.hid e
      clear e
      go_wp2_with fail
      go_meet
      case rel => exact ⟨by rw [HE.out]; exact HS.out⟩
  case rest =>
    obtain ⟨hs⟩ := hcut
    obtain ⟨u, hu⟩ : ∃ u, u = wrapE t := ⟨_, rfl⟩
    have hcuru : (if u.m.alt = true then po else pm) = some ⟨cb, 0, none⟩ := by rw [hu, wrap_alt]; exact HCUR.out
    have HCURU := Lib.hid hcuru
    have OKU := Lib.hid (show TeOk u from hu ▸ wrap_ok OK.out)
    have hp : printE t r = lastE (putE (insE u) (runeE u r)) := by rw [hu]; rfl
    rw [← hu] at hs
    have HP := Lib.hid hp
    have HS := Lib.hid hs
    clear hp hs hu hcuru HCUR OK
    refine hK0 _ _ ?_
    clear hK0 K0
    refine wp_seq_k fun K1 hK1 => ?_
    go_cut [1] (fun s1 wx => EmS1 s1 (.int .i32 (runeE u r)) (fun wx => EmS b cb gb gc pv pm po sv av u.m u.cg F wx) wx)
    case first =>
      have hs := HS.out
      have ok := OKU.out
      obtain ⟨hcE, hzE, hlE⟩ := hs.here (b := b) K32.rm; have hcE10 := (hcE 10).trans (emV_10 ..); have hcE8 := (hcE 8).trans (emV_8 ..); have hcE9 := (hcE 9).trans (emV_9 ..); clear hcE
      clear hs
      by_cases hr : r < 128
      · rcases ok.cu.use with hus | hus
        · have e : runeE u r = mapF u.m.cu.s0 r := by unfold runeE useSet; rw [if_pos hr, if_pos hus]
          have HE := Lib.hid e
          have HUSE := Lib.hid hus
          rw [hus] at hcE10
          clear e ok hus
          go_wp2_with (first | (refine K32.atW 4 (fun xw hs => ?_); (try simp only [emV_sets] at hs); (try clear hcE8 hcE9 hcE10 hzE hlE); obtain ⟨hcE8, hcE9, hcE10, hzE, hlE⟩ := T1.f8_9_10 hs K32.rm; (try rw [HUSE.out] at hcE10); have HS := Lib.hid hs; clear hs; refine K32.reg0 (w := xw) [] [] 14 ?_; simp only [numbered, List.take_succ_cons, List.take_zero, List.drop_succ_cons, List.drop_zero, List.take_nil, List.drop_nil, Nat.reduceAdd]; (iterate 14 (refine K32.zc ?_; apply Exists.intro; refine ⟨fun bs hok wx hwx hL => ?_, ?_⟩; (focus ((have hwx : Below _ _ wx := hwx; have hcx := cellA hwx; have hfx := frozA hwx; have hzx := hwx.size; (try simp at hzx)); unfold zAt; (try simp [go_sem, K32.ev, ↓IntWalk.iteOmega, *]); (try simp (disch := omega) only [K32.unw]); (try simp only [zUpon]); (first | (refine ⟨rfl, ?_⟩; go_at_call 78; refine (S1.map_any (u.m.cu.s0) r wx).mono ?_; rintro e wy ⟨rfl, hby⟩; exact ⟨_, rfl, rfl, hby⟩) | exact ⟨rfl, Below.refl _ _⟩))); (try go_simp))); refine wz_nil ?_; intro wq hbq hLq; clear hLq ; have hcwq := cellA hbq; have hfwq := frozA hbq; have hzwq := hbq.size; (try simp at hzwq); have hs := HS.out.below hbq; (try clear hcE8 hcE9 hcE10 hzE hlE); obtain ⟨hcE8, hcE9, hcE10, hzE, hlE⟩ := T1.f8_9_10 hs K32.rm; (try rw [HUSE.out] at hcE10); have HS := Lib.hid hs; clear hs hcwq hfwq hzwq hbq))
          go_meet
          case rel => exact ⟨by rw [HE.out], ⟨HS.out⟩⟩
        · have e : runeE u r = mapF u.m.cu.s1 r := by unfold runeE useSet; rw [if_pos hr, if_neg (by omega)]
          have HE := Lib.hid e
          have HUSE := Lib.hid hus
          rw [hus] at hcE10
          clear e ok hus
          go_wp2_with (first | (refine K32.atW 4 (fun xw hs => ?_); (try simp only [emV_sets] at hs); (try clear hcE8 hcE9 hcE10 hzE hlE); obtain ⟨hcE8, hcE9, hcE10, hzE, hlE⟩ := T1.f8_9_10 hs K32.rm; (try rw [HUSE.out] at hcE10); have HS := Lib.hid hs; clear hs; refine K32.reg0 (w := xw) [] [] 14 ?_; simp only [numbered, List.take_succ_cons, List.take_zero, List.drop_succ_cons, List.drop_zero, List.take_nil, List.drop_nil, Nat.reduceAdd]; (iterate 14 (refine K32.zc ?_; apply Exists.intro; refine ⟨fun bs hok wx hwx hL => ?_, ?_⟩; (focus ((have hwx : Below _ _ wx := hwx; have hcx := cellA hwx; have hfx := frozA hwx; have hzx := hwx.size; (try simp at hzx)); unfold zAt; (try simp [go_sem, K32.ev, ↓IntWalk.iteOmega, *]); (try simp (disch := omega) only [K32.unw]); (try simp only [zUpon]); (first | (refine ⟨rfl, ?_⟩; go_at_call 78; refine (S1.map_any (u.m.cu.s1) r wx).mono ?_; rintro e wy ⟨rfl, hby⟩; exact ⟨_, rfl, rfl, hby⟩) | exact ⟨rfl, Below.refl _ _⟩))); (try go_simp))); refine wz_nil ?_; intro wq hbq hLq; clear hLq ; have hcwq := cellA hbq; have hfwq := frozA hbq; have hzwq := hbq.size; (try simp at hzwq); have hs := HS.out.below hbq; (try clear hcE8 hcE9 hcE10 hzE hlE); obtain ⟨hcE8, hcE9, hcE10, hzE, hlE⟩ := T1.f8_9_10 hs K32.rm; (try rw [HUSE.out] at hcE10); have HS := Lib.hid hs; clear hs hcwq hfwq hzwq hbq))
          go_meet
          case rel => exact ⟨by rw [HE.out], ⟨HS.out⟩⟩
      · have e : runeE u r = r := by unfold runeE; rw [if_neg hr]
        have HE := Lib.hid e
        clear e ok
        go_wp2_with fail
        go_meet
        case rel => exact ⟨by rw [HE.out], ⟨HS.out⟩⟩
    case rest =>
      obtain ⟨rfl, hs⟩ := hcut
      obtain ⟨hs⟩ := hs
      obtain ⟨rr, hrr⟩ : ∃ rr, rr = runeE u r := ⟨_, rfl⟩
      rw [← hrr] at HP ⊢
      obtain ⟨hcE, hzE, hlE⟩ := hs.here (b := b) K32.rm; have hcE29 := (hcE 29).trans (emV_29 ..); clear hcE
      have HS := Lib.hid hs
      clear hs hrr
      refine hK1 _ _ ?_
      clear hK1 K1
      go_upto_if 42 with (first | (go_at_call 51; refine K32.ca (fun xw hs => ?_); (try simp only [emV_sets] at hs); have hC := (grid_c b _ u.m.alt pm po (some ⟨cb, 0, none⟩) xw (EmAt.of hs K32.rm) (by rfl) (by rfl) (by rfl) HCURU.out); (with_reducible refine hC.mono ?_); clear hC; rintro e w1 ⟨rfl, hb⟩; have hs := hs.below hb; clear hb; (try clear hcE29 hzE hlE); obtain ⟨hcE29, hzE, hlE⟩ := T1.f29 hs K32.rm; have HS := Lib.hid hs; clear hs))
      go_cut [] (fun wx => EmS b cb gb gc pv pm po sv av u.m (insE u).cg F wx)
      case first =>
        have hs := HS.out
        clear hcE29
        obtain ⟨hcE, hzE, hlE⟩ := hs.here (b := b) K32.rm; have hcE0 := (hcE 0).trans (emV_0 ..); have hcE1 := (hcE 1).trans (emV_1 ..); have hcE2 := (hcE 2).trans (emV_2 ..); have hcE3 := (hcE 3).trans (emV_3 ..); have hcE4 := (hcE 4).trans (emV_4 ..); have hcE5 := (hcE 5).trans (emV_5 ..); have hcE6 := (hcE 6).trans (emV_6 ..); have hcE29 := (hcE 29).trans (emV_29 ..); clear hcE
        clear hs
        by_cases hi : u.m.ins = true
        · have e : (insE u).cg = rightG u.cg u.m.cu.x u.m.cu.y 1 (blankC u.m.cu.pen) := by unfold insE; rw [if_pos hi, setCg_cg]; rfl
          have HE := Lib.hid e
          clear e
          rw [hi] at hcE29
          rw [hi]
          go_wp2_with (first | (refine K32.atW 7 (fun xw hs => ?_); (try simp only [emV_sets] at hs); (try clear hcE0 hcE1 hcE2 hcE3 hcE4 hcE5 hcE6 hcE29 hzE hlE); obtain ⟨hcE0, hcE1, hcE2, hcE3, hcE4, hcE5, hcE6, hcE29, hzE, hlE⟩ := T1.f0_1_2_3_4_5_6_29 hs K32.rm; have HS := Lib.hid hs; clear hs; refine K32.reg0 (w := xw) [] [] 13 ?_; simp only [numbered, List.take_succ_cons, List.take_zero, List.drop_succ_cons, List.drop_zero, List.take_nil, List.drop_nil, Nat.reduceAdd]; (iterate 13 (refine K32.zc ?_; apply Exists.intro; refine ⟨fun bs hok wx hwx hL => ?_, ?_⟩; (focus ((have hwx : Below _ _ wx := hwx; have hcx := cellA hwx; have hfx := frozA hwx; have hzx := hwx.size; (try simp at hzx)); unfold zAt; (try simp [go_sem, K32.ev, ↓IntWalk.iteOmega, *]); (try simp (disch := omega) only [K32.unw]); (try simp only [zUpon]); (first | (refine ⟨rfl, ?_⟩; go_at_call 80; refine (blankE_c b _ u.m.cu.pen wx ((EmAt.of HS.out K32.rm).low hwx) (by rfl) (by rfl) (by rfl) (by rfl) (by rfl)).mono ?_; rintro e wy ⟨rfl, hby⟩; exact ⟨_, rfl, rfl, hby⟩) | exact ⟨rfl, Below.refl _ _⟩))); (try go_simp))); refine wz_nil ?_; intro wq hbq hLq; clear hLq ; have hcwq := cellA hbq; have hfwq := frozA hbq; have hzwq := hbq.size; (try simp at hzwq); have hs := HS.out.below hbq; (try clear hcE0 hcE1 hcE2 hcE3 hcE4 hcE5 hcE6 hcE29 hzE hlE); obtain ⟨hcE0, hcE1, hcE2, hcE3, hcE4, hcE5, hcE6, hcE29, hzE, hlE⟩ := T1.f0_1_2_3_4_5_6_29 hs K32.rm; have HS := Lib.hid hs; clear hs hcwq hfwq hzwq hbq) | (go_at_call 79; refine K32.ca (fun xw hs => ?_); (try simp only [emV_sets] at hs); have hs := hs.pick2 (r1 := .blk cb (gcells u.cg gb gc) 121) (r2 := .row (.slice (some ⟨gb, 0, none⟩) u.cg.c.length gc) 58 6 u.cg.c.length (u.cg.c.flatMap ceV)) K32.rm K32.rm; refine (Right_any cb gb gc u.cg u.m.cu.x u.m.cu.y 1 (blankC u.m.cu.pen) _ _ hs OKU.out.cg).mono ?_; clear hs; rintro e w1 ⟨⟨rfl, hs⟩⟩; (try clear hcE0 hcE1 hcE2 hcE3 hcE4 hcE5 hcE6 hcE29 hzE hlE); obtain ⟨hcE0, hcE1, hcE2, hcE3, hcE4, hcE5, hcE6, hcE29, hzE, hlE⟩ := T1.f0_1_2_3_4_5_6_29 hs K32.rm; have HS := Lib.hid hs; clear hs))
          go_meet
          case rel => exact ⟨by rw [HE.out]; exact HS.out.end3 K32.rm K32.rm K32.rm K32.sub⟩
        · have e : insE u = u := by unfold insE; rw [if_neg hi]
          have HE := Lib.hid e
          clear e
          rw [show u.m.ins = false by simpa using hi]
          go_wp2_with fail
          go_meet
          case rel => exact ⟨by rw [HE.out]; exact HS.out⟩
      case rest =>
        obtain ⟨hs⟩ := hcut
        obtain ⟨gg, hgg⟩ : ∃ gg, gg = (insE u).cg := ⟨_, rfl⟩
        have okg : GrOk gg := hgg ▸ (ins_ok OKU.out).cg
        have e1 : (putE (insE u) rr).m = u.m := by rw [put_m, ins_m]
        have e2 : (putE (insE u) rr).cg = setG gg u.m.cu.x u.m.cu.y [⟨rr, u.m.cu.pen⟩] := by rw [put_cg, ins_m, ← hgg]
        obtain ⟨v, hv⟩ : ∃ v, v = putE (insE u) rr := ⟨_, rfl⟩
        rw [← hv] at e1 e2 HP
        rw [← hgg] at hs
        have HS := Lib.hid hs
        have OKGG := Lib.hid okg
        have HV1 := Lib.hid e1
        have HV2 := Lib.hid e2
        have x0 := OKU.out.cu.x0; have x1 := OKU.out.cu.x1; have w40 := okg.w40; have w2 := okg.w2
        obtain ⟨hcE, hzE, hlE⟩ := hs.here (b := b) K32.rm; have hcE0 := (hcE 0).trans (emV_0 ..); have hcE1 := (hcE 1).trans (emV_1 ..); have hcE2 := (hcE 2).trans (emV_2 ..); have hcE3 := (hcE 3).trans (emV_3 ..); have hcE4 := (hcE 4).trans (emV_4 ..); have hcE5 := (hcE 5).trans (emV_5 ..); have hcE6 := (hcE 6).trans (emV_6 ..); have hcE28 := (hcE 28).trans (emV_28 ..); have hcE31 := (hcE 31).trans (emV_31 ..); clear hcE
        clear hs hgg okg e1 e2 hv hcE29
        by_cases hx : u.m.cu.x = gg.w - 1
        · have e : lastE v = v.setLate v.m.wrap := lastE_y v (by rw [HV1.out, HV2.out]; exact hx)
          have f1 : (v.setLate v.m.wrap).m = { u.m with late := u.m.wrap } := by show { v.m with late := v.m.wrap } = _; rw [HV1.out]
          have f2 : (v.setLate v.m.wrap).cg = setG gg u.m.cu.x u.m.cu.y [⟨rr, u.m.cu.pen⟩] := HV2.out
          have hlq : (u.m.cu.x == gg.w - 1) = true := by simp; omega
          have hsw : (setG gg u.m.cu.x u.m.cu.y [⟨rr, u.m.cu.pen⟩]).w = gg.w := rfl
          have HE := Lib.hid (And.intro e (And.intro f1 f2))
          have HX := Lib.hid hx
          clear e f1 f2 hx
          go_wp2_with (first | (refine K32.atW 8 (fun xw hs => ?_); (try simp only [emV_sets] at hs); (try clear hcE0 hcE1 hcE2 hcE3 hcE4 hcE5 hcE6 hcE28 hcE31 hzE hlE); obtain ⟨hcE0, hcE1, hcE2, hcE3, hcE4, hcE5, hcE6, hcE28, hcE31, hzE, hlE⟩ := T1.f0_1_2_3_4_5_6_28_31 hs K32.rm; have HS := Lib.hid hs; clear hs; refine K32.reg0 (w := xw) [18] [] 19 ?_; simp only [numbered, List.take_succ_cons, List.take_zero, List.drop_succ_cons, List.drop_zero, List.take_nil, List.drop_nil, Nat.reduceAdd]; (iterate 18 (refine K32.zd ?_; (try go_simp))); (refine wz_new (fun b => .slice (some ⟨b, 0, none⟩) 1 1) _ _ (by decide) (by decide) (by decide) C0e.es (growsB (by simp)) (by first | rfl | (go_simp; done)) (by intro b b' h; simp at h; omega) (by simp) (fun _ _ h => Below.size h) (fun bs hok wx hwx hL => by (have hwx : Below _ _ wx := hwx; have hcx := cellA hwx; have hfx := frozA hwx; have hzx := hwx.size; (try simp at hzx)); (try simp [go_sem, K32.ev, ↓IntWalk.iteOmega, *]); first | done | rfl) ?_; intro b18 hb18 F18 hF18; (try simp at hb18); (try go_simp)); refine wz_nil ?_; intro wq hbq hLq; have hm18 := hF18 _ (hLq.get 18 (by simp)); obtain ⟨hk18, hx18, hg18, hy18, hl18⟩ := blk hm18; clear hLq hF18; have hcwq := cellA hbq; have hfwq := frozA hbq; have hzwq := hbq.size; (try simp at hzwq); have hs := HS.out.addBlk (xs := ceV ⟨rr, u.m.cu.pen⟩) hbq hm18 (by simpa using hb18) rfl; have HS := Lib.hid hs; clear hs hcwq hfwq hk18 hx18 hg18 hy18 hm18 hbq hb18 hzwq hl18) | (go_at_call 73; refine K32.ca (fun xw hs => ?_); (try simp only [emV_sets] at hs); have hsrc := src_blk (c := ⟨rr, u.m.cu.pen⟩) (k := b18) hs K32.rm; have hs := hs.pick2 (r1 := .blk cb (gcells gg gb gc) 121) (r2 := .row (.slice (some ⟨gb, 0, none⟩) gg.c.length gc) 58 6 gg.c.length (gg.c.flatMap ceV)) K32.rm K32.rm; refine (Set_any cb gb gc gg u.m.cu.x u.m.cu.y (some ⟨b18, 0, none⟩) 1 1 [⟨rr, u.m.cu.pen⟩] _ _ hs OKGG.out rfl (fun _ => hsrc) (by decide)).mono ?_; clear hs; rintro e w1 ⟨⟨rfl, hs⟩⟩; (try clear hcE0 hcE1 hcE2 hcE3 hcE4 hcE5 hcE6 hcE28 hcE31 hzE hlE); obtain ⟨hcE0, hcE1, hcE2, hcE3, hcE4, hcE5, hcE6, hcE28, hcE31, hzE, hlE⟩ := T1.f0_1_2_3_4_5_6_28_31 hs K32.rm; have HS := Lib.hid hs; clear hs) | (refine K32.atW 9 (fun xw hs => ?_); (try simp only [emV_sets] at hs); (try clear hcE0 hcE1 hcE2 hcE3 hcE4 hcE5 hcE6 hcE28 hcE31 hzE hlE); obtain ⟨hcE0, hcE1, hcE2, hcE3, hcE4, hcE5, hcE6, hcE28, hcE31, hzE, hlE⟩ := T1.f0_1_2_3_4_5_6_28_31 hs K32.rm; have HS := Lib.hid hs; clear hs; refine K32.reg0 (w := xw) [] [] 10 ?_; simp only [numbered, List.take_succ_cons, List.take_zero, List.drop_succ_cons, List.drop_zero, List.take_nil, List.drop_nil, Nat.reduceAdd]; (iterate 10 (refine K32.zc ?_; apply Exists.intro; refine ⟨fun bs hok wx hwx hL => ?_, ?_⟩; (focus ((have hwx : Below _ _ wx := hwx; have hcx := cellA hwx; have hfx := frozA hwx; have hzx := hwx.size; (try simp at hzx)); unfold zAt; (try simp [go_sem, K32.ev, ↓IntWalk.iteOmega, *]); (try simp (disch := omega) only [K32.unw]); (try simp only [zUpon]); (first | (refine ⟨rfl, ?_⟩; go_at_call 47; refine (G1.W_any cb gb gc (setG gg u.m.cu.x u.m.cu.y [⟨rr, u.m.cu.pen⟩]) wx ((GrAt.of HS.out K32.rm).low hwx)).mono ?_; rintro e wy ⟨rfl, hby⟩; exact ⟨_, rfl, rfl, hby⟩) | exact ⟨rfl, Below.refl _ _⟩))); (try go_simp))); refine wz_nil ?_; intro wq hbq hLq; clear hLq ; have hcwq := cellA hbq; have hfwq := frozA hbq; have hzwq := hbq.size; (try simp at hzwq); have hs := HS.out.below hbq; (try clear hcE0 hcE1 hcE2 hcE3 hcE4 hcE5 hcE6 hcE28 hcE31 hzE hlE); obtain ⟨hcE0, hcE1, hcE2, hcE3, hcE4, hcE5, hcE6, hcE28, hcE31, hzE, hlE⟩ := T1.f0_1_2_3_4_5_6_28_31 hs K32.rm; have HS := Lib.hid hs; clear hs hcwq hfwq hzwq hbq))
          (first | go_end0 | refine bodyPost_ret (results_none rfl _ _ _) rfl ?_)
          rw [HP.out, HE.out.1, HE.out.2.1, HE.out.2.2]
          refine ⟨⟨rfl, ?_⟩⟩
          exact K32.e3
        · have e : lastE v = (v.setLate false).setX (v.m.cu.x + 1) := lastE_n v (by rw [HV1.out, HV2.out]; exact hx)
          have f1 : ((v.setLate false).setX (v.m.cu.x + 1)).m = { u.m with late := false, cu := { u.m.cu with x := u.m.cu.x + 1 } } := by show { v.m with late := false, cu := { v.m.cu with x := v.m.cu.x + 1 } } = _; rw [HV1.out]
          have f2 : ((v.setLate false).setX (v.m.cu.x + 1)).cg = setG gg u.m.cu.x u.m.cu.y [⟨rr, u.m.cu.pen⟩] := HV2.out
          have hlq : (u.m.cu.x == gg.w - 1) = false := by simp; omega
          have hsw : (setG gg u.m.cu.x u.m.cu.y [⟨rr, u.m.cu.pen⟩]).w = gg.w := rfl
          have HE := Lib.hid (And.intro e (And.intro f1 f2))
          have HX := Lib.hid hx
          clear e f1 f2 hx
          go_wp2_with (first | (refine K32.atW 8 (fun xw hs => ?_); (try simp only [emV_sets] at hs); (try clear hcE0 hcE1 hcE2 hcE3 hcE4 hcE5 hcE6 hcE28 hcE31 hzE hlE); obtain ⟨hcE0, hcE1, hcE2, hcE3, hcE4, hcE5, hcE6, hcE28, hcE31, hzE, hlE⟩ := T1.f0_1_2_3_4_5_6_28_31 hs K32.rm; have HS := Lib.hid hs; clear hs; refine K32.reg0 (w := xw) [18] [] 19 ?_; simp only [numbered, List.take_succ_cons, List.take_zero, List.drop_succ_cons, List.drop_zero, List.take_nil, List.drop_nil, Nat.reduceAdd]; (iterate 18 (refine K32.zd ?_; (try go_simp))); (refine wz_new (fun b => .slice (some ⟨b, 0, none⟩) 1 1) _ _ (by decide) (by decide) (by decide) C0e.es (growsB (by simp)) (by first | rfl | (go_simp; done)) (by intro b b' h; simp at h; omega) (by simp) (fun _ _ h => Below.size h) (fun bs hok wx hwx hL => by (have hwx : Below _ _ wx := hwx; have hcx := cellA hwx; have hfx := frozA hwx; have hzx := hwx.size; (try simp at hzx)); (try simp [go_sem, K32.ev, ↓IntWalk.iteOmega, *]); first | done | rfl) ?_; intro b18 hb18 F18 hF18; (try simp at hb18); (try go_simp)); refine wz_nil ?_; intro wq hbq hLq; have hm18 := hF18 _ (hLq.get 18 (by simp)); obtain ⟨hk18, hx18, hg18, hy18, hl18⟩ := blk hm18; clear hLq hF18; have hcwq := cellA hbq; have hfwq := frozA hbq; have hzwq := hbq.size; (try simp at hzwq); have hs := HS.out.addBlk (xs := ceV ⟨rr, u.m.cu.pen⟩) hbq hm18 (by simpa using hb18) rfl; have HS := Lib.hid hs; clear hs hcwq hfwq hk18 hx18 hg18 hy18 hm18 hbq hb18 hzwq hl18) | (go_at_call 73; refine K32.ca (fun xw hs => ?_); (try simp only [emV_sets] at hs); have hsrc := src_blk (c := ⟨rr, u.m.cu.pen⟩) (k := b18) hs K32.rm; have hs := hs.pick2 (r1 := .blk cb (gcells gg gb gc) 121) (r2 := .row (.slice (some ⟨gb, 0, none⟩) gg.c.length gc) 58 6 gg.c.length (gg.c.flatMap ceV)) K32.rm K32.rm; refine (Set_any cb gb gc gg u.m.cu.x u.m.cu.y (some ⟨b18, 0, none⟩) 1 1 [⟨rr, u.m.cu.pen⟩] _ _ hs OKGG.out rfl (fun _ => hsrc) (by decide)).mono ?_; clear hs; rintro e w1 ⟨⟨rfl, hs⟩⟩; (try clear hcE0 hcE1 hcE2 hcE3 hcE4 hcE5 hcE6 hcE28 hcE31 hzE hlE); obtain ⟨hcE0, hcE1, hcE2, hcE3, hcE4, hcE5, hcE6, hcE28, hcE31, hzE, hlE⟩ := T1.f0_1_2_3_4_5_6_28_31 hs K32.rm; have HS := Lib.hid hs; clear hs) | (refine K32.atW 9 (fun xw hs => ?_); (try simp only [emV_sets] at hs); (try clear hcE0 hcE1 hcE2 hcE3 hcE4 hcE5 hcE6 hcE28 hcE31 hzE hlE); obtain ⟨hcE0, hcE1, hcE2, hcE3, hcE4, hcE5, hcE6, hcE28, hcE31, hzE, hlE⟩ := T1.f0_1_2_3_4_5_6_28_31 hs K32.rm; have HS := Lib.hid hs; clear hs; refine K32.reg0 (w := xw) [] [] 10 ?_; simp only [numbered, List.take_succ_cons, List.take_zero, List.drop_succ_cons, List.drop_zero, List.take_nil, List.drop_nil, Nat.reduceAdd]; (iterate 10 (refine K32.zc ?_; apply Exists.intro; refine ⟨fun bs hok wx hwx hL => ?_, ?_⟩; (focus ((have hwx : Below _ _ wx := hwx; have hcx := cellA hwx; have hfx := frozA hwx; have hzx := hwx.size; (try simp at hzx)); unfold zAt; (try simp [go_sem, K32.ev, ↓IntWalk.iteOmega, *]); (try simp (disch := omega) only [K32.unw]); (try simp only [zUpon]); (first | (refine ⟨rfl, ?_⟩; go_at_call 47; refine (G1.W_any cb gb gc (setG gg u.m.cu.x u.m.cu.y [⟨rr, u.m.cu.pen⟩]) wx ((GrAt.of HS.out K32.rm).low hwx)).mono ?_; rintro e wy ⟨rfl, hby⟩; exact ⟨_, rfl, rfl, hby⟩) | exact ⟨rfl, Below.refl _ _⟩))); (try go_simp))); refine wz_nil ?_; intro wq hbq hLq; clear hLq ; have hcwq := cellA hbq; have hfwq := frozA hbq; have hzwq := hbq.size; (try simp at hzwq); have hs := HS.out.below hbq; (try clear hcE0 hcE1 hcE2 hcE3 hcE4 hcE5 hcE6 hcE28 hcE31 hzE hlE); obtain ⟨hcE0, hcE1, hcE2, hcE3, hcE4, hcE5, hcE6, hcE28, hcE31, hzE, hlE⟩ := T1.f0_1_2_3_4_5_6_28_31 hs K32.rm; have HS := Lib.hid hs; clear hs hcwq hfwq hzwq hbq))
          (first | go_end0 | refine bodyPost_ret (results_none rfl _ _ _) rfl ?_)
          rw [HP.out, HE.out.1, HE.out.2.1, HE.out.2.2]
          refine ⟨⟨rfl, ?_⟩⟩
          exact K32.e3
end Go.Proofs.YtnjgnbdebkckfaaGreatDoor.T4
namespace Go.Proofs.YtnjgnbdebkckfaaGreatDoor.T5
set_option maxRecDepth 100000
open Go.RowKit K1 K3 K5 K11 K12 K14 K20 K21 K22 K25 K30 K31 M0 C1 G1 G2 G3 G4 G5 G6 G7 G8 ME MF S3 T1 T2 T3 T4
attribute [local go_sem] cell_pastA froz_pastA
set_option maxHeartbeats 4000000 in
theorem control_any (b cb gb gc : Nat) (pv : Value) (pm po : Option Addr) (av : Value) (sb : Nat) (t : Te) (k : Int) (F : List Res) (w : World) (hs : Sep w (.blk b (emQ t.m pv pm po (.pointer (some ⟨sb, 0, none⟩)) av) 108 :: gL cb gb gc t.cg (.blk sb (scells t.s) 126 :: F))) (hcur : (if t.m.alt = true then po else pm) = some ⟨cb, 0, none⟩) (ok : TeOk t) : Calls Tryz.prog 65 #[.pointer (some ⟨b, 0, none⟩), .int .i64 k] w (EmP b cb gb gc pv pm po (.pointer (some ⟨sb, 0, none⟩)) av (controlE t k).m (controlE t k).cg (.blk sb (scells t.s) 126 :: F)) := by
  have HCUR := Lib.hid hcur
  have OKL := Lib.hid (ok_late ok false)
  have STOK := Lib.hid (show StOk t.s from ⟨ok.st⟩)
  have HS := Lib.hid hs
  have x0 := ok.cu.x0; have x1 := ok.cu.x1; have w40 := ok.cg.w40; have w2 := ok.cg.w2
  obtain ⟨hcE, hzE, hlE⟩ := hs.here (b := b) K32.rm
  have hcE0 := (hcE 0).trans (emV_0 ..); have hcE31 := (hcE 31).trans (emV_31 ..); have hcE10 := (hcE 10).trans (emV_10 ..); have hcE32 := (hcE 32).trans (emV_32 ..)
  clear hs ok hcur hcE
  have hk : k < 8 ∨ k = 8 ∨ k = 9 ∨ k = 10 ∨ k = 11 ∨ k = 12 ∨ k = 13 ∨ k = 14 ∨ k = 15 ∨ 15 < k := by omega
  rcases hk with hk | rfl | rfl | rfl | rfl | rfl | rfl | rfl | rfl | hk
  · have e : controlE t k = t := by unfold controlE; rw [if_neg (by omega), if_neg (by omega), if_neg (by omega), if_neg (by omega), if_neg (by omega), if_neg (by omega)]
    rw [e]
    clear e
    go_enter Tryz.func65, Tryz.ntmps65
    go_wp2_with fail
    (first | go_end0 | refine bodyPost_ret (results_none rfl _ _ _) rfl ?_)
    refine ⟨⟨rfl, ?_⟩⟩
    exact K32.e3
  · go_enter Tryz.func65, Tryz.ntmps65
    go_wp2_with fail
    (first | go_end0 | refine bodyPost_ret (results_none rfl _ _ _) rfl ?_)
    refine ⟨⟨rfl, ?_⟩⟩
    exact K32.e3
  · go_enter Tryz.func65, Tryz.ntmps65
    go_wp2_with (first | (refine K32.atW 6 (fun xw hs => ?_); (try simp only [emV_sets] at hs); (try clear hcE0 hcE10 hcE31 hcE32 hzE hlE); obtain ⟨hcE0, hcE10, hcE31, hcE32, hzE, hlE⟩ := T1.f0_10_31_32 hs K32.rm; have HS := Lib.hid hs; clear hs; refine K32.reg0 (w := xw) [] [] 19 ?_; simp only [numbered, List.take_succ_cons, List.take_zero, List.drop_succ_cons, List.drop_zero, List.take_nil, List.drop_nil, Nat.reduceAdd]; (iterate 19 (refine K32.zc ?_; apply Exists.intro; refine ⟨fun bs hok wx hwx hL => ?_, ?_⟩; (focus ((have hwx : Below _ _ wx := hwx; have hcx := cellA hwx; have hfx := frozA hwx; have hzx := hwx.size; (try simp at hzx)); unfold zAt; (try simp [go_sem, K32.ev, ↓IntWalk.iteOmega, *]); (try simp (disch := omega) only [K32.unw]); (try simp only [zUpon]); (first | (refine ⟨rfl, ?_⟩; go_at_call 51; refine (grid_c b _ t.m.alt pm po (some ⟨cb, 0, none⟩) wx ((EmAt.of HS.out K32.rm).low hwx) (by rfl) (by rfl) (by rfl) HCUR.out).mono ?_; rintro e wy ⟨rfl, hby⟩; exact ⟨_, rfl, rfl, hby⟩) | (refine ⟨rfl, ?_⟩; go_at_call 47; refine (G1.W_any cb gb gc t.cg wx ((GrAt.of HS.out K32.rm).low hwx)).mono ?_; rintro e wy ⟨rfl, hby⟩; exact ⟨_, rfl, rfl, hby⟩) | (refine ⟨rfl, ?_⟩; go_at_call 81; refine (next_q sb t.s t.m.cu.x wx (stops_of (HS.out.below hwx) K32.rm STOK.out)).mono ?_; rintro e wy ⟨rfl, hby⟩; exact ⟨_, rfl, rfl, hby⟩) | exact ⟨rfl, Below.refl _ _⟩))); (try go_simp))); refine wz_nil ?_; intro wq hbq hLq; clear hLq ; have hcwq := cellA hbq; have hfwq := frozA hbq; have hzwq := hbq.size; (try simp at hzwq); have hs := HS.out.below hbq; (try clear hcE0 hcE10 hcE31 hcE32 hzE hlE); obtain ⟨hcE0, hcE10, hcE31, hcE32, hzE, hlE⟩ := T1.f0_10_31_32 hs K32.rm; have HS := Lib.hid hs; clear hs hcwq hfwq hzwq hbq))
    (first | go_end0 | refine bodyPost_ret (results_none rfl _ _ _) rfl ?_)
    refine ⟨⟨rfl, ?_⟩⟩
    exact K32.e3
  · go_enter Tryz.func65, Tryz.ntmps65
    go_wp2_with (first | (go_at_call 77; refine K32.ca (fun xw hs => ?_); (try simp only [emV_sets] at hs); have hs := hs.pick3 (r1 := .blk b (emQ ((t.setLate false).m) pv pm po (.pointer (some ⟨sb, 0, none⟩)) av) 108) (r2 := .blk cb (gcells t.cg gb gc) 121) (r3 := .row (.slice (some ⟨gb, 0, none⟩) t.cg.c.length gc) 58 6 t.cg.c.length (t.cg.c.flatMap ceV)) K32.rm K32.rm K32.rm; refine (index_any b cb gb gc pv pm po (.pointer (some ⟨sb, 0, none⟩)) av (t.setLate false) _ _ hs HCUR.out OKL.out).mono ?_; clear hs; rintro e w1 ⟨⟨rfl, hs⟩⟩; (try clear hcE0 hcE10 hcE31 hcE32 hzE hlE); obtain ⟨hcE0, hcE10, hcE31, hcE32, hzE, hlE⟩ := T1.f0_10_31_32 hs K32.rm; have HS := Lib.hid hs; clear hs))
    (first | go_end0 | refine bodyPost_ret (results_none rfl _ _ _) rfl ?_)
    refine ⟨⟨rfl, ?_⟩⟩
    exact K32.e3
  · go_enter Tryz.func65, Tryz.ntmps65
    go_wp2_with (first | (go_at_call 77; refine K32.ca (fun xw hs => ?_); (try simp only [emV_sets] at hs); have hs := hs.pick3 (r1 := .blk b (emQ ((t.setLate false).m) pv pm po (.pointer (some ⟨sb, 0, none⟩)) av) 108) (r2 := .blk cb (gcells t.cg gb gc) 121) (r3 := .row (.slice (some ⟨gb, 0, none⟩) t.cg.c.length gc) 58 6 t.cg.c.length (t.cg.c.flatMap ceV)) K32.rm K32.rm K32.rm; refine (index_any b cb gb gc pv pm po (.pointer (some ⟨sb, 0, none⟩)) av (t.setLate false) _ _ hs HCUR.out OKL.out).mono ?_; clear hs; rintro e w1 ⟨⟨rfl, hs⟩⟩; (try clear hcE0 hcE10 hcE31 hcE32 hzE hlE); obtain ⟨hcE0, hcE10, hcE31, hcE32, hzE, hlE⟩ := T1.f0_10_31_32 hs K32.rm; have HS := Lib.hid hs; clear hs))
    (first | go_end0 | refine bodyPost_ret (results_none rfl _ _ _) rfl ?_)
    refine ⟨⟨rfl, ?_⟩⟩
    exact K32.e3
  · go_enter Tryz.func65, Tryz.ntmps65
    go_wp2_with (first | (go_at_call 77; refine K32.ca (fun xw hs => ?_); (try simp only [emV_sets] at hs); have hs := hs.pick3 (r1 := .blk b (emQ ((t.setLate false).m) pv pm po (.pointer (some ⟨sb, 0, none⟩)) av) 108) (r2 := .blk cb (gcells t.cg gb gc) 121) (r3 := .row (.slice (some ⟨gb, 0, none⟩) t.cg.c.length gc) 58 6 t.cg.c.length (t.cg.c.flatMap ceV)) K32.rm K32.rm K32.rm; refine (index_any b cb gb gc pv pm po (.pointer (some ⟨sb, 0, none⟩)) av (t.setLate false) _ _ hs HCUR.out OKL.out).mono ?_; clear hs; rintro e w1 ⟨⟨rfl, hs⟩⟩; (try clear hcE0 hcE10 hcE31 hcE32 hzE hlE); obtain ⟨hcE0, hcE10, hcE31, hcE32, hzE, hlE⟩ := T1.f0_10_31_32 hs K32.rm; have HS := Lib.hid hs; clear hs))
    (first | go_end0 | refine bodyPost_ret (results_none rfl _ _ _) rfl ?_)
    refine ⟨⟨rfl, ?_⟩⟩
    exact K32.e3
  · go_enter Tryz.func65, Tryz.ntmps65
    go_wp2_with fail
    (first | go_end0 | refine bodyPost_ret (results_none rfl _ _ _) rfl ?_)
    refine ⟨⟨rfl, ?_⟩⟩
    exact K32.e3
  · go_enter Tryz.func65, Tryz.ntmps65
    go_wp2_with fail
    (first | go_end0 | refine bodyPost_ret (results_none rfl _ _ _) rfl ?_)
    refine ⟨⟨rfl, ?_⟩⟩
    exact K32.e3
  · go_enter Tryz.func65, Tryz.ntmps65
    go_wp2_with fail
    (first | go_end0 | refine bodyPost_ret (results_none rfl _ _ _) rfl ?_)
    refine ⟨⟨rfl, ?_⟩⟩
    exact K32.e3
  · have e : controlE t k = t := by unfold controlE; rw [if_neg (by omega), if_neg (by omega), if_neg (by omega), if_neg (by omega), if_neg (by omega), if_neg (by omega)]
    rw [e]
    clear e
    go_enter Tryz.func65, Tryz.ntmps65
    go_wp2_with fail
    (first | go_end0 | refine bodyPost_ret (results_none rfl _ _ _) rfl ?_)
    refine ⟨⟨rfl, ?_⟩⟩
    exact K32.e3
set_option maxHeartbeats 4000000 in
theorem set_0 (b cb gb gc : Nat) (pv : Value) (pm po : Option Addr) (sv av : Value) (t : Te) (k : Int) (F : List Res) (w : World) (hs : Sep w (.blk b (emQ t.m pv pm po sv av) 108 :: gL cb gb gc t.cg F)) (hcur : (if t.m.alt = true then po else pm) = some ⟨cb, 0, none⟩) (ok : TeOk t) (k0 : 0 ≤ k) (k1 : k ≤ 255) : Calls Tryz.prog 83 #[.pointer (some ⟨b, 0, none⟩), .int .i64 0, .int .i64 k] w (EmP b cb gb gc pv pm po sv av (setE t 0 k).m (setE t 0 k).cg F) := by
  have HS := Lib.hid hs
  obtain ⟨hcE, hzE, hlE⟩ := hs.here (b := b) K32.rm
  have hcE8 := (hcE 8).trans (emV_8 ..); have hcE9 := (hcE 9).trans (emV_9 ..)
  clear hs ok hcur hcE
  by_cases h : knownB k = true
  · have e : setE t 0 k = { t with m := { t.m with cu := { t.m.cu with s0 := k } } } := by unfold setE; rw [if_pos ⟨k0, by omega, h⟩]; rfl
    have h2 : (k == 66 || k == 65 || k == 48) = true := h
    rw [e]
    clear e h
    go_enter Tryz.func83, Tryz.ntmps83
    go_wp2_with (first | (go_at_call 107; refine (S1.known_any _ _).mono ?_; rintro e w1 ⟨rfl, rfl⟩))
    (first | go_end0 | refine bodyPost_ret (results_none rfl _ _ _) rfl ?_)
    refine ⟨⟨rfl, ?_⟩⟩
    exact K32.e3
  · have e : setE t 0 k = t := by unfold setE; rw [if_neg (fun hh => h hh.2.2)]
    have h2 : (k == 66 || k == 65 || k == 48) = false := by have h3 := Bool.eq_false_iff.2 h; exact h3
    rw [e]
    clear e h
    go_enter Tryz.func83, Tryz.ntmps83
    go_wp2_with (first | (go_at_call 107; refine (S1.known_any _ _).mono ?_; rintro e w1 ⟨rfl, rfl⟩))
    (first | go_end0 | refine bodyPost_ret (results_none rfl _ _ _) rfl ?_)
    refine ⟨⟨rfl, ?_⟩⟩
    exact K32.e3
set_option maxHeartbeats 4000000 in
theorem set_1 (b cb gb gc : Nat) (pv : Value) (pm po : Option Addr) (sv av : Value) (t : Te) (k : Int) (F : List Res) (w : World) (hs : Sep w (.blk b (emQ t.m pv pm po sv av) 108 :: gL cb gb gc t.cg F)) (hcur : (if t.m.alt = true then po else pm) = some ⟨cb, 0, none⟩) (ok : TeOk t) (k0 : 0 ≤ k) (k1 : k ≤ 255) : Calls Tryz.prog 83 #[.pointer (some ⟨b, 0, none⟩), .int .i64 1, .int .i64 k] w (EmP b cb gb gc pv pm po sv av (setE t 1 k).m (setE t 1 k).cg F) := by
  have HS := Lib.hid hs
  obtain ⟨hcE, hzE, hlE⟩ := hs.here (b := b) K32.rm
  have hcE8 := (hcE 8).trans (emV_8 ..); have hcE9 := (hcE 9).trans (emV_9 ..)
  clear hs ok hcur hcE
  by_cases h : knownB k = true
  · have e : setE t 1 k = { t with m := { t.m with cu := { t.m.cu with s1 := k } } } := by unfold setE; rw [if_pos ⟨k0, by omega, h⟩]; rfl
    have h2 : (k == 66 || k == 65 || k == 48) = true := h
    rw [e]
    clear e h
    go_enter Tryz.func83, Tryz.ntmps83
    go_wp2_with (first | (go_at_call 107; refine (S1.known_any _ _).mono ?_; rintro e w1 ⟨rfl, rfl⟩))
    (first | go_end0 | refine bodyPost_ret (results_none rfl _ _ _) rfl ?_)
    refine ⟨⟨rfl, ?_⟩⟩
    exact K32.e3
  · have e : setE t 1 k = t := by unfold setE; rw [if_neg (fun hh => h hh.2.2)]
    have h2 : (k == 66 || k == 65 || k == 48) = false := by have h3 := Bool.eq_false_iff.2 h; exact h3
    rw [e]
    clear e h
    go_enter Tryz.func83, Tryz.ntmps83
    go_wp2_with (first | (go_at_call 107; refine (S1.known_any _ _).mono ?_; rintro e w1 ⟨rfl, rfl⟩))
    (first | go_end0 | refine bodyPost_ret (results_none rfl _ _ _) rfl ?_)
    refine ⟨⟨rfl, ?_⟩⟩
    exact K32.e3
end Go.Proofs.YtnjgnbdebkckfaaGreatDoor.T5
