/- E24, E25 -/
import Derived.Test.YtnjgnbdebkckfaaGreatDoorA2
import Derived.Test.YtnjgnbdebkckfaaGreatDoorA14
import Derived.Lib.Hide
set_option linter.unusedVariables false
set_option linter.unusedSimpArgs false
set_option linter.unnecessarySimpa false
namespace Go.Proofs.YtnjgnbdebkckfaaGreatDoor.E24
set_option maxRecDepth 100000
open Go.RowKit K1 K3 K5 K11 K12 K14 K20 K21 K22 K25 K30 K31 M0 U2 P3 P6 E2 E3 E4 E5 E6 E7 E8 E9 E10 E11 E12 E13 E14 E15 E16 E17 E18 E19 E20 E21 E22 E23 MP
attribute [local go_sem] cell_pastA froz_pastA
theorem class_w (c : UInt8) (cl : Nat) (z : Int) (w : World) (h : classF c = cl) (hz : (c.toNat : Int) = z) : Calls Tryz.prog 96 #[.int .u8 z] w fun e w' => e = .returned (.int .i64 cl) ∧ Below w.heap.size w w' := by
  subst hz; exact class_k c cl w h
theorem act_w (z : Int) {c : UInt8} (hz : (c.toNat : Int) = z) (b : Nat) (P : Nat → Value) (p : Pg) (iv nv tv ov : Value) (t : TypeId) (what : Nat) (n : Nat) (xs : List Value) (F : List Res) (w : World) (hs : Sep w (.blk b (parV P (.int .i64 p.state) (.string ⟨p.half.toArray⟩) iv (.bool p.wrong) (.bool p.first) (.int .i64 p.mark) nv (.bool p.full) tv ov) t :: .row iv 5 1 p.inter.length (p.inter.map K14.u8) :: .row nv 3 1 p.nums.length (ints p.nums) :: .row tv 5 1 p.text.length (p.text.map K14.u8) :: .row ov 118 7 n xs :: F)) (ok : PgOk p) (hn : n ≤ 50000) (hw : what ≤ 8) (h5 : what = 5 → 48 ≤ c.toNat) :
    Calls Tryz.prog 95 #[.pointer (some ⟨b, 0, none⟩), .int .i64 what, .int .u8 z] w (StepsP b P t (actP p what c).2 (actP p what c).1 n xs F) := by
  subst hz; exact act_any b P p iv nv tv ov t what c n xs F w hs ok hn hw h5
set_option maxHeartbeats 4000000 in
theorem flush_table (b : Nat) (p : Pg) (iv nv tv ov : Value) (t : TypeId) (c : UInt8) (n : Nat) (xs : List Value) (F : List Res) (w : World) (hs : Sep w (.blk b (parV (preO true) (.int .i64 p.state) (.string ⟨p.half.toArray⟩) iv (.bool p.wrong) (.bool p.first) (.int .i64 p.mark) nv (.bool p.full) tv ov) t :: .row iv 5 1 p.inter.length (p.inter.map K14.u8) :: .row nv 3 1 p.nums.length (ints p.nums) :: .row tv 5 1 p.text.length (p.text.map K14.u8) :: .row ov 118 7 n xs :: F)) (ok : PgOk p) (hn : n ≤ 49000) (h0 : p.state = 0) (cl k : Nat) (hcl : classF c = cl) (hk : whatF ({ p with half := [] } : Pg) c = k) (hk8 : k ≤ 8) (hk5 : k = 5 → 48 ≤ c.toNat) (hA : c.toNat < 32 ∨ (32 ≤ c.toNat ∧ c.toNat = 127)) (h24 : c.toNat ≠ 24) (h26 : c.toNat ≠ 26) (h27 : c.toNat ≠ 27) :
    Calls Tryz.prog 70 #[.pointer (some ⟨b, 0, none⟩), .int .u8 c.toNat] w (StepsP b (preO true) t (actP ({ p with half := [] } : Pg) k c).2 ((flushU p.half).map acPrint ++ (actP ({ p with half := [] } : Pg) k c).1) n xs F) := by
  have hst := ok.st
  have hc6 := class6 c
  rw [hcl] at hc6
  have HT := Lib.hid (fun ov => table_at p.state cl (.int .i64 p.state) (.string ⟨([] : List UInt8).toArray⟩) iv (.bool p.wrong) (.bool p.first) (.int .i64 p.mark) nv (.bool p.full) tv ov hst hc6)
  have e : tableL.getD (p.state * 6 + cl) 0 = k := by rw [← hk, ← hcl]; rfl
  rw [e] at HT
  clear e
  have HCL := Lib.hid hcl
  obtain ⟨hcR, hzR, hlR⟩ := hs.here (b := b) K32.rm
  have hcR33 := (hcR 33).trans (parV_33 ..)
  clear hcR
  have OK := Lib.hid ok
  have HS := Lib.hid hs
  have OKQ := Lib.hid (show PgOk ({ p with half := [] } : Pg) from ⟨ok.st, trivial, ok.inter, ok.nums, ok.text⟩)
  have HL := Lib.hid (flush_len p.half)
  clear hs ok hcl hk
  have hc8 := c.toNat_lt
  have d0 : ((p.state : Int) == 0) = true := by simp [h0]
  clear h0
  rcases hA with hA | ⟨hA, hA2⟩
  · have d1 : decide ((c.toNat : Int) < 32) = true := decide_eq_true (by omega)
    go_enter Tryz.func70, Tryz.ntmps70
    go_wp2_with (first | (go_at_call 92; have hs := HS.out.pick (r1 := .blk b (parV (preO true) (.int .i64 p.state) (.string ⟨p.half.toArray⟩) iv (.bool p.wrong) (.bool p.first) (.int .i64 p.mark) nv (.bool p.full) tv ov) t) K32.rm; refine (flush_any b 34 _ t p.half _ _ hs rfl OK.out.half).mono ?_; clear hs; rintro e w1 ⟨⟨rv, rfl, hs⟩⟩; rw [parV_set34] at hs; have HS := Lib.hid hs; clear hs) | (go_at_call 91; have hs := HS.out.pick3 (r1 := .blk b (parV (preO true) (.int .i64 p.state) (.string ⟨([] : List UInt8).toArray⟩) iv (.bool p.wrong) (.bool p.first) (.int .i64 p.mark) nv (.bool p.full) tv ov) t) (r2 := .row rv 21 1 (flushU p.half).length (rvs (flushU p.half))) (r3 := .row ov 118 7 n xs) K32.rm K32.rm K32.rm; refine (print_any b (preO true) (.int .i64 p.state) (.string ⟨([] : List UInt8).toArray⟩) iv (.bool p.wrong) (.bool p.first) (.int .i64 p.mark) nv (.bool p.full) tv ov rv ov t (flushU p.half) n xs _ _ hs (by have := HL.out; omega)).mono ?_; clear hs; rintro e w2 ⟨⟨ov1, rfl, hs⟩⟩; have hs := hs.end5 (F := F) (s1 := .blk b (parV (preO true) (.int .i64 p.state) (.string ⟨([] : List UInt8).toArray⟩) iv (.bool p.wrong) (.bool p.first) (.int .i64 p.mark) nv (.bool p.full) tv ov1) t) (s2 := .row iv 5 1 p.inter.length (p.inter.map K14.u8)) (s3 := .row nv 3 1 p.nums.length (ints p.nums)) (s4 := .row tv 5 1 p.text.length (p.text.map K14.u8)) (s5 := .row ov1 118 7 (n + (flushU p.half).length) (xs ++ (((flushU p.half)).flatMap fun r => actV (acPrint r) (.slice none 0 0)))) K32.rm K32.rm K32.rm K32.rm K32.rm K32.sub; (try clear hcR hzR hlR); obtain ⟨hcR, hzR, hlR⟩ := hs.here (b := b) K32.rm; (try clear hcR33); have hcR33 := (hcR 33).trans (parV_33 ..); clear hcR; have HS := Lib.hid hs; clear hs) | (refine K32.atW 3 (fun xw hs => ?_); (try clear d0); (try simp only [World.size_alloc, World.size_setCell, parV_set33, parV_set34, parV_set35, parV_set36, parV_set37, parV_set38, parV_set39, parV_set40, parV_set41, parV_set42] at hs); (try clear hcR hzR hlR); obtain ⟨hcR, hzR, hlR⟩ := hs.here (b := b) K32.rm; (try clear hcR33); have hcR33 := (hcR 33).trans (parV_33 ..); have hcR0 := hcR; clear hcR; (try clear hcT); have hcT := (hcR0 (3 + p.state * 6 + cl)).trans (HT.out ov1); clear hcR0; have HS := Lib.hid hs; clear hs; refine K32.reg0 (w := xw) [] [] 15 ?_; simp only [numbered, List.take_succ_cons, List.take_zero, List.drop_succ_cons, List.drop_zero, List.take_nil, List.drop_nil, Nat.reduceAdd]; (iterate 15 (refine K32.zc ?_; apply Exists.intro; refine ⟨fun bs hok wx hwx hL => ?_, ?_⟩; (focus ((have hwx : Below _ _ wx := hwx; have hcx := cellA hwx; have hfx := frozA hwx; have hzx := hwx.size; (try simp at hzx)); unfold zAt; (try simp [go_sem, K32.ev, ↓IntWalk.iteOmega, *]); (try simp (disch := omega) only [K32.unw]); (try simp only [zUpon]); (first | (refine ⟨rfl, ?_⟩; go_at_call 96; refine (class_k c cl _ HCL.out).mono ?_; rintro e wy ⟨rfl, hby⟩; exact ⟨_, rfl, rfl, hby⟩) | exact ⟨rfl, Below.refl _ _⟩))); (try go_simp))); refine wz_nil ?_; intro wq hbq hLq; clear hLq ; have hcwq := cellA hbq; have hfwq := frozA hbq; have hzwq := hbq.size; (try simp at hzwq); have hs := HS.out.below hbq; (try clear hcR hzR hlR); obtain ⟨hcR, hzR, hlR⟩ := hs.here (b := b) K32.rm; (try clear hcR33); have hcR33 := (hcR 33).trans (parV_33 ..); have hcR0 := hcR; clear hcR; (try clear hcT); have hcT := (hcR0 (3 + p.state * 6 + cl)).trans (HT.out ov1); clear hcR0; have HS := Lib.hid hs; clear hs hcwq hfwq hzwq hbq) | (go_at_call 95; refine (act_any b (preO true) ({ p with half := [] } : Pg) iv nv tv ov1 t k c (n + (flushU p.half).length) (xs ++ (((flushU p.half)).flatMap fun r => actV (acPrint r) (.slice none 0 0))) F _ HS.out OKQ.out (by have := HL.out; omega) hk8 hk5).mono ?_; rintro e w5 hst; obtain rfl := hst.ret; have HB := Lib.hid hst; clear hst))
    (first | go_end0 | refine bodyPost_ret (results_none rfl _ _ _) rfl ?_)
    exact steps_pre _ HB.out
  · have hz : (c.toNat : Int) = 127 := by omega
    have HZ := Lib.hid hz
    rw [hz]
    clear hA hA2 hz
    go_enter Tryz.func70, Tryz.ntmps70
    go_wp2_with (first | (go_at_call 92; have hs := HS.out.pick (r1 := .blk b (parV (preO true) (.int .i64 p.state) (.string ⟨p.half.toArray⟩) iv (.bool p.wrong) (.bool p.first) (.int .i64 p.mark) nv (.bool p.full) tv ov) t) K32.rm; refine (flush_any b 34 _ t p.half _ _ hs rfl OK.out.half).mono ?_; clear hs; rintro e w1 ⟨⟨rv, rfl, hs⟩⟩; rw [parV_set34] at hs; have HS := Lib.hid hs; clear hs) | (go_at_call 91; have hs := HS.out.pick3 (r1 := .blk b (parV (preO true) (.int .i64 p.state) (.string ⟨([] : List UInt8).toArray⟩) iv (.bool p.wrong) (.bool p.first) (.int .i64 p.mark) nv (.bool p.full) tv ov) t) (r2 := .row rv 21 1 (flushU p.half).length (rvs (flushU p.half))) (r3 := .row ov 118 7 n xs) K32.rm K32.rm K32.rm; refine (print_any b (preO true) (.int .i64 p.state) (.string ⟨([] : List UInt8).toArray⟩) iv (.bool p.wrong) (.bool p.first) (.int .i64 p.mark) nv (.bool p.full) tv ov rv ov t (flushU p.half) n xs _ _ hs (by have := HL.out; omega)).mono ?_; clear hs; rintro e w2 ⟨⟨ov1, rfl, hs⟩⟩; have hs := hs.end5 (F := F) (s1 := .blk b (parV (preO true) (.int .i64 p.state) (.string ⟨([] : List UInt8).toArray⟩) iv (.bool p.wrong) (.bool p.first) (.int .i64 p.mark) nv (.bool p.full) tv ov1) t) (s2 := .row iv 5 1 p.inter.length (p.inter.map K14.u8)) (s3 := .row nv 3 1 p.nums.length (ints p.nums)) (s4 := .row tv 5 1 p.text.length (p.text.map K14.u8)) (s5 := .row ov1 118 7 (n + (flushU p.half).length) (xs ++ (((flushU p.half)).flatMap fun r => actV (acPrint r) (.slice none 0 0)))) K32.rm K32.rm K32.rm K32.rm K32.rm K32.sub; (try clear hcR hzR hlR); obtain ⟨hcR, hzR, hlR⟩ := hs.here (b := b) K32.rm; (try clear hcR33); have hcR33 := (hcR 33).trans (parV_33 ..); clear hcR; have HS := Lib.hid hs; clear hs) | (refine K32.atW 3 (fun xw hs => ?_); (try clear d0); (try simp only [World.size_alloc, World.size_setCell, parV_set33, parV_set34, parV_set35, parV_set36, parV_set37, parV_set38, parV_set39, parV_set40, parV_set41, parV_set42] at hs); (try clear hcR hzR hlR); obtain ⟨hcR, hzR, hlR⟩ := hs.here (b := b) K32.rm; (try clear hcR33); have hcR33 := (hcR 33).trans (parV_33 ..); have hcR0 := hcR; clear hcR; (try clear hcT); have hcT := (hcR0 (3 + p.state * 6 + cl)).trans (HT.out ov1); clear hcR0; have HS := Lib.hid hs; clear hs; refine K32.reg0 (w := xw) [] [] 15 ?_; simp only [numbered, List.take_succ_cons, List.take_zero, List.drop_succ_cons, List.drop_zero, List.take_nil, List.drop_nil, Nat.reduceAdd]; (iterate 15 (refine K32.zc ?_; apply Exists.intro; refine ⟨fun bs hok wx hwx hL => ?_, ?_⟩; (focus ((have hwx : Below _ _ wx := hwx; have hcx := cellA hwx; have hfx := frozA hwx; have hzx := hwx.size; (try simp at hzx)); unfold zAt; (try simp [go_sem, K32.ev, ↓IntWalk.iteOmega, *]); (try simp (disch := omega) only [K32.unw]); (try simp only [zUpon]); (first | (refine ⟨rfl, ?_⟩; go_at_call 96; refine (class_w c cl 127 _ HCL.out HZ.out).mono ?_; rintro e wy ⟨rfl, hby⟩; exact ⟨_, rfl, rfl, hby⟩) | exact ⟨rfl, Below.refl _ _⟩))); (try go_simp))); refine wz_nil ?_; intro wq hbq hLq; clear hLq ; have hcwq := cellA hbq; have hfwq := frozA hbq; have hzwq := hbq.size; (try simp at hzwq); have hs := HS.out.below hbq; (try clear hcR hzR hlR); obtain ⟨hcR, hzR, hlR⟩ := hs.here (b := b) K32.rm; (try clear hcR33); have hcR33 := (hcR 33).trans (parV_33 ..); have hcR0 := hcR; clear hcR; (try clear hcT); have hcT := (hcR0 (3 + p.state * 6 + cl)).trans (HT.out ov1); clear hcR0; have HS := Lib.hid hs; clear hs hcwq hfwq hzwq hbq) | (go_at_call 95; refine (act_w 127 HZ.out b (preO true) ({ p with half := [] } : Pg) iv nv tv ov1 t k (n + (flushU p.half).length) (xs ++ (((flushU p.half)).flatMap fun r => actV (acPrint r) (.slice none 0 0))) F _ HS.out OKQ.out (by have := HL.out; omega) hk8 hk5).mono ?_; rintro e w5 hst; obtain rfl := hst.ret; have HB := Lib.hid hst; clear hst))
    (first | go_end0 | refine bodyPost_ret (results_none rfl _ _ _) rfl ?_)
    exact steps_pre _ HB.out
theorem step_any (b : Nat) (p : Pg) (iv nv tv ov : Value) (t : TypeId) (c : UInt8) (n : Nat) (xs : List Value) (F : List Res) (w : World) (hs : Sep w (.blk b (parV (preO true) (.int .i64 p.state) (.string ⟨p.half.toArray⟩) iv (.bool p.wrong) (.bool p.first) (.int .i64 p.mark) nv (.bool p.full) tv ov) t :: .row iv 5 1 p.inter.length (p.inter.map K14.u8) :: .row nv 3 1 p.nums.length (ints p.nums) :: .row tv 5 1 p.text.length (p.text.map K14.u8) :: .row ov 118 7 n xs :: F)) (ok : PgOk p) (hn : n ≤ 49000) :
    Calls Tryz.prog 70 #[.pointer (some ⟨b, 0, none⟩), .int .u8 c.toNat] w (StepsP b (preO true) t (stepP p c).2 (stepP p c).1 n xs F) := by
  have key : ∀ k : Nat, k < 256 → (c = UInt8.ofNat k ↔ c.toNat = k) := fun k hk => by
    rw [← UInt8.toNat_inj, UInt8.toNat_ofNat', Nat.mod_eq_of_lt hk]
  have k24 : c = 24 ↔ c.toNat = 24 := key 24 (by decide)
  have k26 : c = 26 ↔ c.toNat = 26 := key 26 (by decide)
  have k27 : c = 27 ↔ c.toNat = 27 := key 27 (by decide)
  have k127 : c = 127 ↔ c.toNat = 127 := key 127 (by decide)
  have k32 : c < 32 ↔ c.toNat < 32 := by rw [UInt8.lt_iff_toNat_lt]; rfl
  by_cases hA : p.state = 0 ∧ (c.toNat < 32 ∨ c.toNat = 127)
  · have ea : aheadP p c = ((flushU p.half).map acPrint, ({ p with half := [] } : Pg)) := by unfold aheadP; rw [if_pos (by rw [k32, k127]; exact hA)]
    unfold stepP
    rw [ea]
    simp only
    by_cases h24 : c.toNat = 24
    · have e : bodyP ({ p with half := [] } : Pg) c = ([], beginP ({ p with half := [] } : Pg) 0) := by unfold bodyP; rw [if_pos (.inl (k24.2 h24))]
      rw [e]
      exact flush_24 b p iv nv tv ov t c n xs F w hs ok (by omega) hA.1 h24
    · by_cases h26 : c.toNat = 26
      · have e : bodyP ({ p with half := [] } : Pg) c = ([], beginP ({ p with half := [] } : Pg) 0) := by unfold bodyP; rw [if_pos (.inr (k26.2 h26))]
        rw [e]
        exact flush_26 b p iv nv tv ov t c n xs F w hs ok (by omega) hA.1 h26
      · by_cases h27 : c.toNat = 27
        · have e : bodyP ({ p with half := [] } : Pg) c = (endP ({ p with half := [] } : Pg), beginP ({ p with half := [] } : Pg) 1) := by unfold bodyP; rw [if_neg (by rw [k24, k26]; omega), if_pos (k27.2 h27)]
          rw [e]
          exact flush_27 b p iv nv tv ov t c n xs F w hs ok (by omega) hA.1 h27
        · obtain ⟨w1, w4, w5, w9, w0⟩ := what_facts (p := ({ p with half := [] } : Pg)) ok.st c
          have n9 : whatF ({ p with half := [] } : Pg) c ≠ 9 := fun h => (w9 h).2 hA.1
          have e : bodyP ({ p with half := [] } : Pg) c = actP ({ p with half := [] } : Pg) (whatF ({ p with half := [] } : Pg) c) c := by unfold bodyP; rw [if_neg (by rw [k24, k26]; omega), if_neg (by rw [k27]; exact h27), if_neg n9]
          rw [e]
          exact flush_table b p iv nv tv ov t c n xs F w hs ok (by omega) hA.1 _ _ rfl rfl (by omega) w5 (by omega) h24 h26 h27
  · have ea : aheadP p c = ([], p) := by unfold aheadP; rw [if_neg (by rw [k32, k127]; exact hA)]
    unfold stepP
    rw [ea]
    simp only [List.nil_append]
    by_cases h24 : c.toNat = 24
    · have e : bodyP p c = ([], beginP p 0) := by unfold bodyP; rw [if_pos (.inl (k24.2 h24))]
      rw [e]
      exact step_24 b p iv nv tv ov t c n xs F w hs ok (by omega) (by omega) h24
    · by_cases h26 : c.toNat = 26
      · have e : bodyP p c = ([], beginP p 0) := by unfold bodyP; rw [if_pos (.inr (k26.2 h26))]
        rw [e]
        exact step_26 b p iv nv tv ov t c n xs F w hs ok (by omega) (by omega) h26
      · by_cases h27 : c.toNat = 27
        · have e : bodyP p c = (endP p, beginP p 1) := by unfold bodyP; rw [if_neg (by rw [k24, k26]; omega), if_pos (k27.2 h27)]
          rw [e]
          exact step_27 b p iv nv tv ov t c n xs F w hs ok (by omega) (by omega) h27
        · obtain ⟨w1, w4, w5, w9, w0⟩ := what_facts (p := p) ok.st c
          by_cases h9 : whatF p c = 9
          · have e : bodyP p c = actP (beginP p 0) (whatF (beginP p 0) c) c := by unfold bodyP; rw [if_neg (by rw [k24, k26]; omega), if_neg (by rw [k27]; exact h27), if_pos h9]
            have e1 : whatF (beginP p 0) c = 1 := what_0 rfl (w9 h9).1
            rw [e, e1]
            exact step_back b p iv nv tv ov t c n xs F w hs ok (by omega) (w9 h9).2 (w9 h9).1 h9
          · have e : bodyP p c = actP p (whatF p c) c := by unfold bodyP; rw [if_neg (by rw [k24, k26]; omega), if_neg (by rw [k27]; exact h27), if_neg h9]
            rw [e]
            exact step_table b p iv nv tv ov t c _ _ n xs F w hs ok (by omega) rfl rfl (by omega) w5 hA h24 h26 h27
end Go.Proofs.YtnjgnbdebkckfaaGreatDoor.E24
namespace Go.Proofs.YtnjgnbdebkckfaaGreatDoor.E25
set_option maxRecDepth 100000
open Go.RowKit K1 K3 K5 K11 K12 K14 K20 K21 K22 K25 K30 K31 M0 U2 P3 P6 E2 E3 E4 E5 E6 E7 E8 E9 E10 E11 E12 E13 E14 E15 E16 E17 E18 E19 E20 E21 E22 E23 E24 MP
attribute [local go_sem] cell_pastA froz_pastA
/-- a parser that has told all -/
def pL (b : Nat) (o : Bool) (t : TypeId) (p : Pg) (iv nv tv : Value) (F : List Res) : List Res := .blk b (parV (preO o) (.int .i64 p.state) (.string ⟨p.half.toArray⟩) iv (.bool p.wrong) (.bool p.first) (.int .i64 p.mark) nv (.bool p.full) tv (.slice none 0 0)) t :: .row iv 5 1 p.inter.length (p.inter.map K14.u8) :: .row nv 3 1 p.nums.length (ints p.nums) :: .row tv 5 1 p.text.length (p.text.map K14.u8) :: F
structure FdS (b : Nat) (t : TypeId) (p : Pg) (c : List UInt8) (F : List Res) (wr : World) : Prop where
  out : ∃ iv nv tv ov l, l.map (·.1) = (feedP p c).1 ∧ Sep wr (.blk b (parV (preO true) (.int .i64 (feedP p c).2.state) (.string ⟨(feedP p c).2.half.toArray⟩) iv (.bool (feedP p c).2.wrong) (.bool (feedP p c).2.first) (.int .i64 (feedP p c).2.mark) nv (.bool (feedP p c).2.full) tv ov) t :: .row iv 5 1 (feedP p c).2.inter.length ((feedP p c).2.inter.map K14.u8) :: .row nv 3 1 (feedP p c).2.nums.length (ints (feedP p c).2.nums) :: .row tv 5 1 (feedP p c).2.text.length ((feedP p c).2.text.map K14.u8) :: .row ov 118 7 l.length (actsV l) :: (actsR l ++ F))
theorem actsV_app (l m : List (Ac × Value)) : actsV (l ++ m) = actsV l ++ actsV m := by simp [actsV]
theorem actsR_app (l m : List (Ac × Value)) : actsR (l ++ m) = actsR l ++ actsR m := by simp [actsR]
theorem fd_step {b : Nat} {t : TypeId} {p q : Pg} {c : List UInt8} {F : List Res} {w' : World} {l : List (Ac × Value)} {y : UInt8} {e : Ending} (hl : l.map (·.1) = (feedP p c).1) (hq : (feedP p c).2 = q) (h : StepsP b (preO true) t (stepP q y).2 (stepP q y).1 l.length (actsV l) (actsR l ++ F) e w') : FdS b t p (c ++ [y]) F w' := by
  obtain ⟨iv, nv, tv, ov, l5, rfl, hl5, hs⟩ := h
  have e1 : feedP p (c ++ [y]) = ((feedP p c).1 ++ (stepP q y).1, (stepP q y).2) := by
    rw [feed_app, hq]
    show ((feedP p c).1 ++ ((stepP q y).1 ++ []), (stepP q y).2) = _
    rw [List.append_nil]
  have e2 : l.length + (stepP q y).1.length = (l ++ l5).length := by rw [← hl5, List.length_map, List.length_append]
  refine ⟨⟨iv, nv, tv, ov, l ++ l5, by rw [e1, List.map_append, hl, hl5], ?_⟩⟩
  rw [e1, actsV_app, actsR_app, ← e2]
  refine hs.perm ?_
  have hp : (actsR l5 ++ (actsR l ++ F)).Perm ((actsR l ++ actsR l5) ++ F) := by
    rw [← List.append_assoc]
    exact List.Perm.append_right F List.perm_append_comm
  exact List.Perm.append_left [_, _, _, _, _] hp
structure FdI (b : Nat) (t : TypeId) (p : Pg) (L : List (List UInt8)) (F : List Res) (i : Value) (wr : World) : Prop where
  out : ∃ k : Nat, k ≤ L.length ∧ i = .int .i64 k ∧ FdS b t p (L.take k).flatten F wr
structure FdJ (b : Nat) (t : TypeId) (p : Pg) (c x : List UInt8) (F : List Res) (i : Value) (wr : World) : Prop where
  out : ∃ j : Nat, j ≤ x.length ∧ i = .int .i64 j ∧ FdS b t p (c ++ x.take j) F wr
structure FeedR (b : Nat) (t : TypeId) (p : Pg) (c : List UInt8) (F : List Res) (e : Ending) (w' : World) : Prop where
  out : ∃ v iv nv tv l, e = .returned v ∧ l.map (·.1) = (feedP p c).1 ∧ Sep w' (pL b true t (feedP p c).2 iv nv tv (.row v 118 7 l.length (actsV l) :: (actsR l ++ F)))
theorem take_snoc (s : ByteArray) (k : Nat) (h : k < s.size) : s.data.toList.take (k + 1) = s.data.toList.take k ++ [s[k]] := by
  rw [List.take_succ_eq_append_getElem (by simpa using h)]; rfl
theorem flat_le {L : List (List UInt8)} {x : List UInt8} {k : Nat} (hx : L[k]? = some x) : (L.take k).flatten.length + x.length ≤ L.flatten.length := by
  have h : L = L.take k ++ (x :: L.drop (k + 1)) := by
    obtain ⟨hk, e⟩ := List.getElem?_eq_some_iff.1 hx
    rw [← e, List.getElem_cons_drop, List.take_append_drop]
  have h2 := congrArg (fun l => l.flatten.length) h
  simp only [List.flatten_append, List.flatten_cons, List.length_append] at h2
  omega
theorem take_flat {L : List (List UInt8)} {x : List UInt8} {k : Nat} (hx : L[k]? = some x) : (L.take (k + 1)).flatten = (L.take k).flatten ++ x := by
  rw [List.take_add_one, hx]
  simp
set_option maxHeartbeats 4000000 in
theorem feed_p (b : Nat) (o : Bool) (t : TypeId) (p : Pg) (iv nv tv v : Value) (L : List (List UInt8)) (F : List Res) (w : World) (hs : Sep w (pL b o t p iv nv tv F)) (ok : PgI p) (hr : ∀ w, Sep w F → Rd 1 strE w v L) (hL : L.flatten.length ≤ 10000) (hL2 : L.length ≤ 10000) :
    Calls Tryz.prog 50 #[.pointer (some ⟨b, 0, none⟩), v] w (FeedR b t p L.flatten F) := by
  obtain ⟨ad, cp, rfl, hcp⟩ := K25.Rd.len (hr w (hs.sub K32.sub))
  have HR := Lib.hid hr
  have OK := Lib.hid ok
  have HS := Lib.hid (show Sep w (.blk b (parV (preO o) (.int .i64 p.state) (.string ⟨p.half.toArray⟩) iv (.bool p.wrong) (.bool p.first) (.int .i64 p.mark) nv (.bool p.full) tv (.slice none 0 0)) t :: .row iv 5 1 p.inter.length (p.inter.map K14.u8) :: .row nv 3 1 p.nums.length (ints p.nums) :: .row tv 5 1 p.text.length (p.text.map K14.u8) :: F) from hs)
  clear hs hr ok
  go_enter Tryz.func50, Tryz.ntmps50
  go_wp2_with (first | (go_at_call 68; refine (do_any b (.int .i64 p.state) (.string ⟨p.half.toArray⟩) iv (.bool p.wrong) (.bool p.first) (.int .i64 p.mark) nv (.bool p.full) tv (.slice none 0 0) o t _ _ HS.out).mono ?_; rintro e w1 ⟨rfl, hs⟩; have HS := Lib.hid (hs.nilRow (t := 118) (s := 7)); clear hs))
  have hs0 : FdS b t p [] F w1 := ⟨⟨iv, nv, tv, (.slice none 0 0), [], rfl, HS.out.end5 (F := F) (s1 := .blk b (parV (preO true) (.int .i64 p.state) (.string ⟨p.half.toArray⟩) iv (.bool p.wrong) (.bool p.first) (.int .i64 p.mark) nv (.bool p.full) tv (.slice none 0 0)) t) (s2 := .row iv 5 1 p.inter.length (p.inter.map K14.u8)) (s3 := .row nv 3 1 p.nums.length (ints p.nums)) (s4 := .row tv 5 1 p.text.length (p.text.map K14.u8)) (s5 := .row (.slice none 0 0) 118 7 0 []) K32.rm K32.rm K32.rm K32.rm K32.rm K32.sub⟩⟩
  have HS0 := Lib.hid hs0
  clear hs0 HS
  go_loopw [19] (fun i wr => FdI b t p L F i wr) (fun i _ => L.length - (intOf i).toNat)
  case atStart => exact ⟨⟨0, Nat.zero_le _, rfl, HS0.out⟩⟩
  case round =>
    clear HS0
    obtain ⟨⟨k, hk, rfl, hfd⟩⟩ := hrel
    by_cases hlt : k < L.length
    · obtain ⟨x, hx⟩ : ∃ x, L[k]? = some x := ⟨_, List.getElem?_eq_getElem hlt⟩
      have HF := Lib.hid hfd
      obtain ⟨iv0, nv0, tv0, ov0, l0, -, hs⟩ := hfd
      have hF : Sep wr F := hs.sub ((List.sublist_append_right _ _).trans K32.sub)
      obtain ⟨sb, so, cp', he, hsb, hcx⟩ := (HR.out wr hF).cell1 hx (u := .string ⟨x.toArray⟩) rfl
      obtain ⟨rfl, rfl⟩ : ad = some ⟨sb, so, none⟩ ∧ cp = cp' := by cases he; exact ⟨rfl, rfl⟩
      clear he hs hF
      obtain ⟨s, hsx⟩ : ∃ s : ByteArray, s = ⟨x.toArray⟩ := ⟨_, rfl⟩
      rw [← hsx] at hcx
      have hxs : x = s.data.toList := by rw [hsx]
      have hsz : x.length = s.size := by rw [hxs]; simp
      have HX := Lib.hid (take_flat hx)
      have HXL := Lib.hid (flat_le hx)
      have HXS := Lib.hid hxs
      have hxl : x.length ≤ 10000 := by have := HXL.out; omega
      obtain ⟨c, hc⟩ : ∃ c, c = (L.take k).flatten := ⟨_, rfl⟩
      rw [← hc] at HX HXL HF
      clear hsx hxs hx hc
      go_wp2_with fail
      go_loopw [25] (fun i wr => FdJ b t p c x F i wr) (fun i _ => x.length - (intOf i).toNat)
      case atStart => exact ⟨⟨0, Nat.zero_le _, rfl, by rw [List.take_zero, List.append_nil]; exact HF.out⟩⟩
      case round =>
        clear HF
        obtain ⟨⟨j, hj, rfl, hfd⟩⟩ := hrel
        by_cases hjl : j < s.size
        · have HT := Lib.hid (take_snoc s j hjl)
          obtain ⟨iv, nv, tv, ov, l, hl, hs⟩ := hfd
          have hn := feed_len (c ++ x.take j) p
          have hpi := (feed_ok (c ++ x.take j) OK.out).1
          have hll := congrArg List.length hl
          rw [List.length_map] at hll
          rw [← hll, List.length_append] at hn
          have hlt2 : (x.take j).length ≤ x.length := by rw [List.length_take]; omega
          have HN := Lib.hid (And.intro hn (And.intro hlt2 HXL.out))
          obtain ⟨q, hq⟩ : ∃ q, (feedP p (c ++ x.take j)).2 = q := ⟨_, rfl⟩
          rw [hq] at hs hpi
          have HS := Lib.hid hs
          have HQ := Lib.hid hq
          have HL := Lib.hid hl
          have OKQ := Lib.hid hpi
          clear hs hq hl hpi hn hll hlt2
          go_wp2_with (first | (go_at_call 70; refine (step_any b q iv nv tv ov t s[j] l.length (actsV l) (actsR l ++ F) _ HS.out OKQ.out.ok (by have := HN.out; omega)).mono ?_; rintro e w5 hst; obtain rfl := hst.ret; have HB := Lib.hid (fd_step HL.out HQ.out hst); clear hst))
          go_roundw
          case rel => exact ⟨⟨j + 1, by omega, by go_num, by rw [HXS.out, HT.out, ← HXS.out, ← List.append_assoc]; exact HB.out⟩⟩
          case measure => simp [intOf]; omega
        · have HF := Lib.hid hfd
          clear hfd
          go_wp2_with fail
          go_roundw
          case rel => exact ⟨⟨k + 1, by omega, by go_num, by rw [HX.out]; have h := HF.out; rw [List.take_of_length_le (by omega)] at h; exact h⟩⟩
          case measure => simp [intOf]; omega
    · obtain rfl : k = L.length := by omega
      rw [List.take_length] at hfd
      obtain ⟨iv, nv, tv, ov, l, hl, hs⟩ := hfd
      obtain ⟨oa, oc, rfl⟩ := own_form (hs.hereRow (v := ov) K32.rm)
      obtain ⟨hcR, hzR, hlR⟩ := hs.here (b := b) K32.rm
      have hcR42 := (hcR 42).trans (parV_42 ..)
      clear hcR
      have HS := Lib.hid hs
      have HL := Lib.hid hl
      clear hs hl
      go_wp2_with fail
      go_ret
      refine ⟨⟨_, iv, nv, tv, l, rfl, HL.out, ?_⟩⟩
      (with_reducible apply K30.sep_end)
      exact K32.fnd
      intro hs
      (try simp only [World.size_alloc, World.size_setCell, parV_set33, parV_set34, parV_set35, parV_set36, parV_set37, parV_set38, parV_set39, parV_set40, parV_set41, parV_set42] at hs)
      exact hs
end Go.Proofs.YtnjgnbdebkckfaaGreatDoor.E25
