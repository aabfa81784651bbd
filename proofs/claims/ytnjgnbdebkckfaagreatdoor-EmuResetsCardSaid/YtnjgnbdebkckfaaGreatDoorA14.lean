/- E22, MP, E23 -/
import Derived.Test.YtnjgnbdebkckfaaGreatDoorA2
import Derived.Test.YtnjgnbdebkckfaaGreatDoorA9
import Derived.Test.YtnjgnbdebkckfaaGreatDoorA13
import Derived.Lib.Hide
set_option linter.unusedVariables false
set_option linter.unusedSimpArgs false
set_option linter.unnecessarySimpa false
namespace Go.Proofs.YtnjgnbdebkckfaaGreatDoor.E22
set_option maxRecDepth 100000
open Go.RowKit K1 K3 K5 K11 K12 K14 K20 K21 K22 K25 K30 K31 M0 U2 P3 P6 E2 E3 E4 E5 E6 E7 E8 E9 E10 E11 E12 E13 E14 E15 E16 E17 E18 E19 E20 E21
attribute [local go_sem] cell_pastA froz_pastA
theorem class_k (c : UInt8) (cl : Nat) (w : World) (h : classF c = cl) : Calls Tryz.prog 96 #[.int .u8 c.toNat] w fun e w' => e = .returned (.int .i64 cl) ∧ Below w.heap.size w w' := by subst h; exact class_any c w
theorem class6 (c : UInt8) : classF c < 6 := by unfold classF; split <;> (try split) <;> (try split) <;> (try split) <;> (try split) <;> omega
theorem table_at (st cl : Nat) (v33 v34 v35 v36 v37 v38 v39 v40 v41 v42 : Value) (hs : st ≤ 4) (hc : cl < 6) : (parV (preO true) v33 v34 v35 v36 v37 v38 v39 v40 v41 v42)[3 + st * 6 + cl]? = some (.int .i64 (tableL.getD (st * 6 + cl) 0 : Nat)) := by
  match st, cl, hs, hc with
  | 0, 0, _, _ => rfl
  | 0, 1, _, _ => rfl
  | 0, 2, _, _ => rfl
  | 0, 3, _, _ => rfl
  | 0, 4, _, _ => rfl
  | 0, 5, _, _ => rfl
  | 1, 0, _, _ => rfl
  | 1, 1, _, _ => rfl
  | 1, 2, _, _ => rfl
  | 1, 3, _, _ => rfl
  | 1, 4, _, _ => rfl
  | 1, 5, _, _ => rfl
  | 2, 0, _, _ => rfl
  | 2, 1, _, _ => rfl
  | 2, 2, _, _ => rfl
  | 2, 3, _, _ => rfl
  | 2, 4, _, _ => rfl
  | 2, 5, _, _ => rfl
  | 3, 0, _, _ => rfl
  | 3, 1, _, _ => rfl
  | 3, 2, _, _ => rfl
  | 3, 3, _, _ => rfl
  | 3, 4, _, _ => rfl
  | 3, 5, _, _ => rfl
  | 4, 0, _, _ => rfl
  | 4, 1, _, _ => rfl
  | 4, 2, _, _ => rfl
  | 4, 3, _, _ => rfl
  | 4, 4, _, _ => rfl
  | 4, 5, _, _ => rfl
set_option maxHeartbeats 4000000 in
theorem step_table (b : Nat) (p : Pg) (iv nv tv ov : Value) (t : TypeId) (c : UInt8) (k cl : Nat) (n : Nat) (xs : List Value) (F : List Res) (w : World) (hs : Sep w (.blk b (parV (preO true) (.int .i64 p.state) (.string ⟨p.half.toArray⟩) iv (.bool p.wrong) (.bool p.first) (.int .i64 p.mark) nv (.bool p.full) tv ov) t :: .row iv 5 1 p.inter.length (p.inter.map K14.u8) :: .row nv 3 1 p.nums.length (ints p.nums) :: .row tv 5 1 p.text.length (p.text.map K14.u8) :: .row ov 118 7 n xs :: F)) (ok : PgOk p) (hn : n ≤ 50000) (hcl : classF c = cl) (hk : whatF p c = k) (hk8 : k ≤ 8) (hk5 : k = 5 → 48 ≤ c.toNat)
    (hA : ¬ (p.state = 0 ∧ (c.toNat < 32 ∨ c.toNat = 127))) (h24 : c.toNat ≠ 24) (h26 : c.toNat ≠ 26) (h27 : c.toNat ≠ 27) :
    Calls Tryz.prog 70 #[.pointer (some ⟨b, 0, none⟩), .int .u8 c.toNat] w (StepsP b (preO true) t (actP p k c).2 (actP p k c).1 n xs F) := by
  have hst := ok.st
  have hc6 := class6 c
  rw [hcl] at hc6
  have HT := Lib.hid (table_at p.state cl (.int .i64 p.state) (.string ⟨p.half.toArray⟩) iv (.bool p.wrong) (.bool p.first) (.int .i64 p.mark) nv (.bool p.full) tv ov hst hc6)
  have e : tableL.getD (p.state * 6 + cl) 0 = k := by rw [← hk, ← hcl]; rfl
  rw [e] at HT
  clear e
  have HCL := Lib.hid hcl
  have OK := Lib.hid ok
  obtain ⟨hcR, hzR, hlR⟩ := hs.here (b := b) K32.rm
  have hcR33 := (hcR 33).trans (parV_33 ..)
  clear hcR
  have HS := Lib.hid hs
  clear hs hcl hk ok
  have hc8 := c.toNat_lt
  by_cases h0 : p.state = 0
  · have d0 : ((p.state : Int) == 0) = true := by simp [h0]
    have hA1 : 32 ≤ c.toNat := by omega
    have hA2 : c.toNat ≠ 127 := by omega
    clear hA h0
    have d1 : decide ((c.toNat : Int) < 32) = false := decide_eq_false (by omega)
    have d2 : ((c.toNat : Int) == 127) = false := by simp; omega
    go_enter Tryz.func70, Tryz.ntmps70
    go_wp2_with (first | (refine K32.atW 3 (fun xw hs => ?_); (try clear d0); (try simp only [World.size_alloc, World.size_setCell, parV_set33, parV_set34, parV_set35, parV_set36, parV_set37, parV_set38, parV_set39, parV_set40, parV_set41, parV_set42] at hs); (try clear hcR hzR hlR); obtain ⟨hcR, hzR, hlR⟩ := hs.here (b := b) K32.rm; (try clear hcR33); have hcR33 := (hcR 33).trans (parV_33 ..); have hcR0 := hcR; clear hcR; (try clear hcT); have hcT := (hcR0 (3 + p.state * 6 + cl)).trans HT.out; clear hcR0; have HS := Lib.hid hs; clear hs; refine K32.reg0 (w := xw) [] [] 15 ?_; simp only [numbered, List.take_succ_cons, List.take_zero, List.drop_succ_cons, List.drop_zero, List.take_nil, List.drop_nil, Nat.reduceAdd]; (iterate 15 (refine K32.zc ?_; apply Exists.intro; refine ⟨fun bs hok wx hwx hL => ?_, ?_⟩; (focus ((have hwx : Below _ _ wx := hwx; have hcx := cellA hwx; have hfx := frozA hwx; have hzx := hwx.size; (try simp at hzx)); unfold zAt; (try simp [go_sem, K32.ev, ↓IntWalk.iteOmega, *]); (try simp (disch := omega) only [K32.unw]); (try simp only [zUpon]); (first | (refine ⟨rfl, ?_⟩; go_at_call 96; refine (class_k c cl _ HCL.out).mono ?_; rintro e wy ⟨rfl, hby⟩; exact ⟨_, rfl, rfl, hby⟩) | exact ⟨rfl, Below.refl _ _⟩))); (try go_simp))); refine wz_nil ?_; intro wq hbq hLq; clear hLq ; have hcwq := cellA hbq; have hfwq := frozA hbq; have hzwq := hbq.size; (try simp at hzwq); have hs := HS.out.below hbq; (try clear hcR hzR hlR); obtain ⟨hcR, hzR, hlR⟩ := hs.here (b := b) K32.rm; (try clear hcR33); have hcR33 := (hcR 33).trans (parV_33 ..); have hcR0 := hcR; clear hcR; (try clear hcT); have hcT := (hcR0 (3 + p.state * 6 + cl)).trans HT.out; clear hcR0; have HS := Lib.hid hs; clear hs hcwq hfwq hzwq hbq) | (go_at_call 95; refine (act_any b (preO true) p iv nv tv ov t k c n xs F _ HS.out OK.out hn hk8 hk5).mono ?_; rintro e w5 ⟨⟨iv5, nv5, tv5, ov5, l5, rfl, hl5, hs5⟩⟩; have HL5 := Lib.hid hl5; have HS5 := Lib.hid hs5; clear hl5 hs5))
    all_goals (try (exfalso; omega; done))
    all_goals
      (first | go_end0 | refine bodyPost_ret (results_none rfl _ _ _) rfl ?_)
      exact ⟨⟨iv5, nv5, tv5, ov5, l5, rfl, HL5.out, HS5.out⟩⟩
  · have d0 : ((p.state : Int) == 0) = false := by simp; omega
    clear hA
    go_enter Tryz.func70, Tryz.ntmps70
    go_wp2_with (first | (refine K32.atW 3 (fun xw hs => ?_); (try clear d0); (try simp only [World.size_alloc, World.size_setCell, parV_set33, parV_set34, parV_set35, parV_set36, parV_set37, parV_set38, parV_set39, parV_set40, parV_set41, parV_set42] at hs); (try clear hcR hzR hlR); obtain ⟨hcR, hzR, hlR⟩ := hs.here (b := b) K32.rm; (try clear hcR33); have hcR33 := (hcR 33).trans (parV_33 ..); have hcR0 := hcR; clear hcR; (try clear hcT); have hcT := (hcR0 (3 + p.state * 6 + cl)).trans HT.out; clear hcR0; have HS := Lib.hid hs; clear hs; refine K32.reg0 (w := xw) [] [] 15 ?_; simp only [numbered, List.take_succ_cons, List.take_zero, List.drop_succ_cons, List.drop_zero, List.take_nil, List.drop_nil, Nat.reduceAdd]; (iterate 15 (refine K32.zc ?_; apply Exists.intro; refine ⟨fun bs hok wx hwx hL => ?_, ?_⟩; (focus ((have hwx : Below _ _ wx := hwx; have hcx := cellA hwx; have hfx := frozA hwx; have hzx := hwx.size; (try simp at hzx)); unfold zAt; (try simp [go_sem, K32.ev, ↓IntWalk.iteOmega, *]); (try simp (disch := omega) only [K32.unw]); (try simp only [zUpon]); (first | (refine ⟨rfl, ?_⟩; go_at_call 96; refine (class_k c cl _ HCL.out).mono ?_; rintro e wy ⟨rfl, hby⟩; exact ⟨_, rfl, rfl, hby⟩) | exact ⟨rfl, Below.refl _ _⟩))); (try go_simp))); refine wz_nil ?_; intro wq hbq hLq; clear hLq ; have hcwq := cellA hbq; have hfwq := frozA hbq; have hzwq := hbq.size; (try simp at hzwq); have hs := HS.out.below hbq; (try clear hcR hzR hlR); obtain ⟨hcR, hzR, hlR⟩ := hs.here (b := b) K32.rm; (try clear hcR33); have hcR33 := (hcR 33).trans (parV_33 ..); have hcR0 := hcR; clear hcR; (try clear hcT); have hcT := (hcR0 (3 + p.state * 6 + cl)).trans HT.out; clear hcR0; have HS := Lib.hid hs; clear hs hcwq hfwq hzwq hbq) | (go_at_call 95; refine (act_any b (preO true) p iv nv tv ov t k c n xs F _ HS.out OK.out hn hk8 hk5).mono ?_; rintro e w5 ⟨⟨iv5, nv5, tv5, ov5, l5, rfl, hl5, hs5⟩⟩; have HL5 := Lib.hid hl5; have HS5 := Lib.hid hs5; clear hl5 hs5))
    (first | go_end0 | refine bodyPost_ret (results_none rfl _ _ _) rfl ?_)
    exact ⟨⟨iv5, nv5, tv5, ov5, l5, rfl, HL5.out, HS5.out⟩⟩
end Go.Proofs.YtnjgnbdebkckfaaGreatDoor.E22
namespace Go.Proofs.YtnjgnbdebkckfaaGreatDoor.MP
open Go.RowKit M0 ME P6 E3 E5 E21 MF
/-- behind the first byte of a rune stands one that may -/
def RnOk : List UInt8 → Prop
  | x :: y :: _ => mayF [x] y = true
  | _ => True
structure PgI (p : Pg) : Prop where
  ok : PgOk p
  rn : RnOk p.half
  gr : p.state ≠ 0 → p.half = []
def Rune (x : Int) : Prop := 0 ≤ x ∧ x ≤ 1114111
theorem rune_bad : Rune 65533 := ⟨by decide, by decide⟩
theorem start_r (c : UInt8) : RnOk (startU c).2 ∧ ∀ x ∈ (startU c).1, Rune x := by
  unfold startU
  split
  · exact ⟨trivial, fun x hx => by rw [List.mem_singleton] at hx; subst hx; exact rune_bad⟩
  · split
    · refine ⟨trivial, fun x hx => ?_⟩
      rw [List.mem_singleton] at hx
      subst hx
      have := c.toNat_lt
      exact ⟨by omega, by omega⟩
    · exact ⟨trivial, fun x hx => by cases hx⟩
theorem width_4 {x : UInt8} (h : widthF x = 4) : 240 ≤ x.toNat ∧ x.toNat ≤ 244 := by
  unfold widthF at h
  simp only [UInt8.lt_iff_toNat_lt, UInt8.le_iff_toNat_le] at h
  split at h
  · cases h
  · split at h
    · cases h
    · split at h
      · cases h
      · split at h
        · rename_i hh; exact hh
        · cases h
theorem may_4 {x y : UInt8} (h : mayF [x] y = true) (hx : x.toNat = 244) : 128 ≤ y.toNat ∧ y.toNat ≤ 143 := by
  have e : x = 244 := UInt8.toNat_inj.1 hx
  subst e
  unfold mayF at h
  have e1 : lowF [244] = 128 := rfl
  have e2 : highF [244] = 143 := rfl
  rw [e1, e2, Bool.and_eq_true, decide_eq_true_eq, decide_eq_true_eq, UInt8.le_iff_toNat_le, UInt8.le_iff_toNat_le] at h
  exact h
theorem stepU_r (h : List UInt8) (c : UInt8) (k : HalfOk h) (r : RnOk h) : RnOk (stepU h c).2 ∧ ∀ x ∈ (stepU h c).1, Rune x := by
  cases h with
  | nil => exact start_r c
  | cons x l =>
    unfold stepU
    rw [if_neg (by simp)]
    have hs := start_r c
    split
    · exact ⟨hs.1, fun y hy => (List.mem_cons.1 hy).elim (fun e => e ▸ rune_bad) (hs.2 y)⟩
    · rename_i hm
      have hm2 : mayF (x :: l) c = true := by simpa using hm
      split
      · refine ⟨?_, fun y hy => by cases hy⟩
        cases l with
        | nil => exact hm2
        | cons y l => exact r
      · rename_i hl
        refine ⟨trivial, fun y hy => ?_⟩
        rw [List.mem_singleton] at hy
        subst hy
        have k1 : l.length + 1 < widthF x := k
        have k2 : ¬ (l.length + 2 < widthF x) := by simpa using hl
        have w4 := width4 x
        have x8 := x.toNat_lt
        match l, k1, k2, r with
        | [], k1, k2, r =>
          show Rune ((x.toNat % 32 * 64 + c.toNat % 64 : Nat) : Int)
          exact ⟨by omega, by omega⟩
        | [y], k1, k2, r =>
          show Rune ((x.toNat % 16 * 4096 + y.toNat % 64 * 64 + c.toNat % 64 : Nat) : Int)
          exact ⟨by omega, by omega⟩
        | [y, z], k1, k2, r =>
          simp only [List.length_cons, List.length_nil] at k1 k2
          have a := width_4 (x := x) (by omega)
          have b : x.toNat = 244 → 128 ≤ y.toNat ∧ y.toNat ≤ 143 := may_4 r
          show Rune ((x.toNat % 8 * 262144 + y.toNat % 64 * 4096 + z.toNat % 64 * 64 + c.toNat % 64 : Nat) : Int)
          by_cases e : x.toNat = 244
          · have := b e
            exact ⟨by omega, by omega⟩
          · exact ⟨by omega, by omega⟩
        | y :: z :: u :: l, k1, k2, r => simp only [List.length_cons] at k1; omega
theorem acPrint_ok {r : Int} (h : Rune r) : AcOk (acPrint r) := ⟨h.1, h.2, Int.le_refl _, by show (0 : Int) ≤ 255; decide, Nat.zero_le _, fun n hn => (List.not_mem_nil hn).elim, Nat.zero_le _⟩
theorem prints_ok {l : List Int} (h : ∀ x ∈ l, Rune x) : ∀ a ∈ l.map acPrint, AcOk a := by
  intro a ha
  obtain ⟨x, hx, rfl⟩ := List.mem_map.1 ha
  exact acPrint_ok (h x hx)
theorem plain_ac (k b : Int) (i t : List UInt8) (h0 : 0 ≤ b) (h1 : b ≤ 255) (hi : i.length ≤ 2) : AcOk ⟨k, 0, b, 0, [], i, t⟩ := ⟨Int.le_refl _, by show (0 : Int) ≤ 1114111; decide, h0, h1, Nat.zero_le _, fun n hn => (List.not_mem_nil hn).elim, hi⟩
theorem flush_r (h : List UInt8) : ∀ x ∈ flushU h, Rune x := by
  unfold flushU
  split
  · intro x hx; cases hx
  · intro x hx; rw [List.mem_singleton] at hx; subst hx; exact rune_bad
theorem begin_ok {p : Pg} (h : PgOk p) (s : Nat) (hs : s ≤ 4) : PgOk (beginP p s) := ⟨hs, h.half, Nat.zero_le _, ⟨Nat.zero_le _, fun x hx => (List.not_mem_nil hx).elim⟩, Nat.zero_le _⟩
theorem begin_I {p : Pg} (h : PgI p) (s : Nat) (hs : s ≤ 4) (h0 : s ≠ 0 → p.half = []) : PgI (beginP p s) := ⟨begin_ok h.ok s hs, h.rn, h0⟩
theorem end_ok (p : Pg) : ∀ a ∈ endP p, AcOk a := by
  unfold endP
  split
  · intro a ha; rw [List.mem_singleton] at ha; subst ha; exact plain_ac _ _ _ _ (Int.le_refl _) (by decide) (Nat.zero_le _)
  · split
    · intro a ha; rw [List.mem_singleton] at ha; subst ha; exact plain_ac _ _ _ _ (Int.le_refl _) (by decide) (Nat.zero_le _)
    · intro a ha; cases ha
theorem byte_le (c : UInt8) : (0 : Int) ≤ c.toNat ∧ (c.toNat : Int) ≤ 255 := by have := c.toNat_lt; omega
theorem nums_num {l : List Int} (h : NumsOk l) : NumsOk (if l = [] then [-1] else l) := by
  split
  · exact ⟨by decide, fun x hx => by rw [List.mem_singleton] at hx; subst hx; exact ⟨by decide, by decide⟩⟩
  · exact h
theorem number_nums (p : Pg) : (numberP p).nums = if p.nums = [] then [-1] else p.nums := by unfold numberP; split <;> rfl
theorem param_ok {p : Pg} (h : PgOk p) (c : UInt8) (h48 : 48 ≤ c.toNat) : PgOk (paramP p c) ∧ (paramP p c).half = p.half ∧ (paramP p c).state = p.state := by
  unfold paramP
  split
  · exact ⟨⟨h.st, h.half, h.inter, h.nums, h.text⟩, rfl, rfl⟩
  · split
    · exact ⟨⟨h.st, h.half, h.inter, h.nums, h.text⟩, rfl, rfl⟩
    · rename_i h1 h2
      have hk : ∀ q : Pg, PgOk q → PgOk (numberP q) ∧ (numberP q).half = q.half ∧ (numberP q).state = q.state := by
        intro q hq
        unfold numberP
        split
        · exact ⟨⟨hq.st, hq.half, hq.inter, ⟨by show 1 ≤ 8; decide, fun x hx => by rw [List.mem_singleton] at hx; subst hx; exact ⟨by decide, by decide⟩⟩, hq.text⟩, rfl, rfl⟩
        · exact ⟨hq, rfl, rfl⟩
      have h0 : PgOk { p with first := false } := ⟨h.st, h.half, h.inter, h.nums, h.text⟩
      obtain ⟨k1, k2, k3⟩ := hk _ h0
      split
      · unfold moreP
        split
        · exact ⟨⟨k1.st, k1.half, k1.inter, k1.nums, k1.text⟩, k2, k3⟩
        · rename_i h8
          refine ⟨⟨k1.st, k1.half, k1.inter, ⟨?_, ?_⟩, k1.text⟩, k2, k3⟩
          · rw [List.length_append]; show _ + 1 ≤ 8; omega
          · intro x hx
            rw [List.mem_append] at hx
            rcases hx with hx | hx
            · exact k1.nums.2 x hx
            · rw [List.mem_singleton] at hx; subst hx; exact ⟨by decide, by decide⟩
      · unfold digitP
        split
        · exact ⟨k1, k2, k3⟩
        · refine ⟨⟨k1.st, k1.half, k1.inter, ⟨?_, ?_⟩, k1.text⟩, k2, k3⟩
          · rw [List.length_set]; exact k1.nums.1
          · intro x hx
            rcases List.mem_or_eq_of_mem_set hx with hx | hx
            · exact k1.nums.2 x hx
            · subst hx; omega
theorem inter_ok {p : Pg} (h : PgOk p) (c : UInt8) : PgOk (interP p c) ∧ (interP p c).half = p.half ∧ (interP p c).state = p.state := by
  unfold interP
  split
  · exact ⟨⟨h.st, h.half, h.inter, h.nums, h.text⟩, rfl, rfl⟩
  · exact ⟨⟨h.st, h.half, by rw [List.length_append]; show _ + 1 ≤ 2; omega, h.nums, h.text⟩, rfl, rfl⟩
theorem next_le (p : Pg) (c : UInt8) : M0.nextS p c ≤ 4 := by 
  unfold M0.nextS
  repeat' split
  all_goals decide
theorem actP_ok {p : Pg} (h : PgI p) (k : Nat) (c : UInt8) (h1 : k = 1 → p.state = 0) (h4 : k = 4 → p.state ≠ 0) (h5 : k = 5 → 48 ≤ c.toNat) : PgI (actP p k c).2 ∧ ∀ a ∈ (actP p k c).1, AcOk a := by
  have hb := byte_le c
  unfold actP
  split
  · rename_i e
    have hs := h1 e
    have hr := stepU_r p.half c h.ok.half h.rn
    exact ⟨⟨⟨h.ok.st, stepU_ok _ _ h.ok.half, h.ok.inter, h.ok.nums, h.ok.text⟩, hr.1, fun hn => absurd hs hn⟩, prints_ok hr.2⟩
  · split
    · exact ⟨h, fun a ha => by rw [List.mem_singleton] at ha; subst ha; exact plain_ac _ _ _ _ hb.1 hb.2 (Nat.zero_le _)⟩
    · split
      · obtain ⟨a1, a2, a3⟩ := inter_ok h.ok c
        exact ⟨⟨a1, by show RnOk (interP p c).half; rw [a2]; exact h.rn, by show (interP p c).state ≠ 0 → (interP p c).half = []; rw [a2, a3]; exact h.gr⟩, fun a ha => by cases ha⟩
      · split
        · rename_i e
          have hs := h4 e
          refine ⟨begin_I h _ (next_le p c) (fun _ => h.gr hs), fun a ha => ?_⟩
          unfold finishP at ha
          simp only at ha
          split at ha
          · rw [List.mem_singleton] at ha; subst ha; exact plain_ac _ _ _ _ hb.1 hb.2 h.ok.inter
          · cases ha
        · split
          · rename_i e
            obtain ⟨a1, a2, a3⟩ := param_ok h.ok c (h5 e)
            exact ⟨⟨a1, by show RnOk (paramP p c).half; rw [a2]; exact h.rn, by show (paramP p c).state ≠ 0 → (paramP p c).half = []; rw [a2, a3]; exact h.gr⟩, fun a ha => by cases ha⟩
          · split
            · refine ⟨begin_I h 0 (by decide) (fun h0 => absurd rfl h0), fun a ha => ?_⟩
              unfold dispatchP at ha
              simp only at ha
              split at ha
              · cases ha
              · rw [List.mem_singleton] at ha
                subst ha
                exact ⟨Int.le_refl _, by show (0 : Int) ≤ 1114111; decide, hb.1, hb.2, h.ok.nums.1, h.ok.nums.2, h.ok.inter⟩
            · split
              · refine ⟨?_, fun a ha => by cases ha⟩
                show PgI (if p.text.length < 60 then { p with text := p.text ++ [c] } else p)
                split
                · exact ⟨⟨h.ok.st, h.ok.half, h.ok.inter, h.ok.nums, by rw [List.length_append]; show _ + 1 ≤ 60; omega⟩, h.rn, h.gr⟩
                · exact h
              · split
                · split
                  · exact ⟨begin_I h 0 (by decide) (fun h0 => absurd rfl h0), end_ok p⟩
                  · exact ⟨h, fun a ha => by cases ha⟩
                · exact ⟨h, fun a ha => by cases ha⟩
theorem table_facts : ∀ s : Fin 5, ∀ cl : Fin 6, (tableL.getD (s.1 * 6 + cl.1) 0 = 1 → s.1 = 0) ∧ (tableL.getD (s.1 * 6 + cl.1) 0 = 4 → s.1 ≠ 0) ∧ (tableL.getD (s.1 * 6 + cl.1) 0 = 5 → cl.1 = 2) ∧ (tableL.getD (s.1 * 6 + cl.1) 0 = 9 → cl.1 = 5 ∧ s.1 ≠ 0) ∧ tableL.getD (s.1 * 6 + cl.1) 0 ≤ 9 := by decide
theorem class_lt (c : UInt8) : classF c < 6 := by 
  rw [class_eq]
  repeat' split
  all_goals omega
theorem class_2 {c : UInt8} (h : classF c = 2) : 48 ≤ c.toNat := by
  rw [class_eq] at h
  split at h
  · omega
  · split at h
    · omega
    · omega
theorem class_5 {c : UInt8} : classF c = 5 ↔ 128 ≤ c.toNat := by
  rw [class_eq]
  have := c.toNat_lt
  split
  · omega
  · split
    · omega
    · split
      · omega
      · split
        · omega
        · split <;> omega
theorem what_facts {p : Pg} (h : p.state ≤ 4) (c : UInt8) : (whatF p c = 1 → p.state = 0) ∧ (whatF p c = 4 → p.state ≠ 0) ∧ (whatF p c = 5 → 48 ≤ c.toNat) ∧ (whatF p c = 9 → 128 ≤ c.toNat ∧ p.state ≠ 0) ∧ whatF p c ≤ 9 := by
  obtain ⟨a1, a2, a3, a4, a5⟩ := table_facts ⟨p.state, by omega⟩ ⟨classF c, class_lt c⟩
  exact ⟨a1, a2, fun e => class_2 (a3 e), fun e => ⟨class_5.1 (a4 e).1, (a4 e).2⟩, a5⟩
theorem what_0 {p : Pg} {c : UInt8} (h : p.state = 0) (hc : 128 ≤ c.toNat) : whatF p c = 1 := by
  unfold whatF
  rw [h, class_5.2 hc]
  rfl
theorem body_ok {p : Pg} (h : PgI p) (c : UInt8) (hf : c = 27 → p.state = 0 → p.half = []) : PgI (bodyP p c).2 ∧ ∀ a ∈ (bodyP p c).1, AcOk a := by
  unfold bodyP
  split
  · exact ⟨begin_I h 0 (by decide) (fun h0 => absurd rfl h0), fun a ha => by cases ha⟩
  · split
    · rename_i e
      refine ⟨begin_I h 1 (by decide) (fun _ => ?_), end_ok p⟩
      by_cases hs : p.state = 0
      · exact hf e hs
      · exact h.gr hs
    · obtain ⟨w1, w4, w5, w9, _⟩ := what_facts h.ok.st c
      split
      · rename_i e
        have k := begin_I h 0 (by decide) (fun h0 => absurd rfl h0)
        have e1 : whatF (beginP p 0) c = 1 := what_0 rfl (w9 e).1
        rw [e1]
        exact actP_ok k 1 c (fun _ => rfl) (fun h => by omega) (fun h => by omega)
      · exact actP_ok h _ c w1 w4 w5
theorem ahead_ok {p : Pg} (h : PgI p) (c : UInt8) : PgI (aheadP p c).2 ∧ (∀ a ∈ (aheadP p c).1, AcOk a) ∧ (c = 27 → (aheadP p c).2.state = 0 → (aheadP p c).2.half = []) := by
  unfold aheadP
  split
  · exact ⟨⟨⟨h.ok.st, trivial, h.ok.inter, h.ok.nums, h.ok.text⟩, trivial, fun _ => rfl⟩, prints_ok (flush_r _), fun _ _ => rfl⟩
  · rename_i hn
    refine ⟨h, fun a ha => (by cases ha), fun e hs => absurd ⟨hs, .inl ?_⟩ hn⟩
    subst e; decide
theorem step_ok {p : Pg} (h : PgI p) (c : UInt8) : PgI (stepP p c).2 ∧ ∀ a ∈ (stepP p c).1, AcOk a := by
  obtain ⟨h1, h2, h3⟩ := ahead_ok h c
  obtain ⟨h4, h5⟩ := body_ok h1 c h3
  exact ⟨h4, fun a ha => (List.mem_append.1 ha).elim (h2 a) (h5 a)⟩
theorem feed_ok : ∀ (l : List UInt8) {p : Pg} (_ : PgI p), PgI (feedP p l).2 ∧ ∀ a ∈ (feedP p l).1, AcOk a
  | [], p, h => ⟨h, fun a ha => by cases ha⟩
  | c :: l, p, h => by
    obtain ⟨h1, h2⟩ := step_ok h c
    obtain ⟨h3, h4⟩ := feed_ok l h1
    exact ⟨h3, fun a ha => (List.mem_append.1 ha).elim (h2 a) (h4 a)⟩
theorem zero_I : PgI Pg.zero := ⟨⟨by decide, trivial, by decide, ⟨by decide, fun x hx => by cases hx⟩, by decide⟩, trivial, fun _ => rfl⟩
theorem feed_app : ∀ (l m : List UInt8) (p : Pg), feedP p (l ++ m) = ((feedP p l).1 ++ (feedP (feedP p l).2 m).1, (feedP (feedP p l).2 m).2)
  | [], m, p => rfl
  | c :: l, m, p => by
    show ((stepP p c).1 ++ (feedP (stepP p c).2 (l ++ m)).1, (feedP (stepP p c).2 (l ++ m)).2) = _
    rw [feed_app l m]
    show _ = (((stepP p c).1 ++ (feedP (stepP p c).2 l).1) ++ _, _)
    rw [List.append_assoc]
    rfl
/- how many acts a byte is -/
theorem startU_len (c : UInt8) : (startU c).1.length ≤ 1 := by
  unfold startU
  repeat' split
  all_goals simp
theorem stepU_len (h : List UInt8) (c : UInt8) : (stepU h c).1.length ≤ 2 := by
  have := startU_len c
  unfold stepU
  split
  · omega
  · split
    · rw [List.length_cons]; omega
    · split <;> simp
theorem end_len (p : Pg) : (endP p).length ≤ 1 := by
  unfold endP
  repeat' split
  all_goals simp
theorem actP_len (p : Pg) (k : Nat) (c : UInt8) : (actP p k c).1.length ≤ 2 := by
  have h1 := stepU_len p.half c
  have h2 := end_len p
  unfold actP
  split
  · unfold printP; rw [List.length_map]; exact h1
  · split
    · simp
    · split
      · simp
      · split
        · unfold finishP; simp only; split <;> simp
        · split
          · simp
          · split
            · unfold dispatchP; simp only; split <;> simp
            · split
              · simp
              · split
                · split
                  · simp only; omega
                  · simp
                · simp
theorem step_len (p : Pg) (c : UInt8) : (stepP p c).1.length ≤ 3 := by
  have h1 : (aheadP p c).1.length ≤ 1 := by
    unfold aheadP
    split
    · simp only [List.length_map]; unfold flushU; split <;> simp
    · simp
  have h2 : ∀ q, (bodyP q c).1.length ≤ 2 := by
    intro q
    have := end_len q
    unfold bodyP
    repeat' split
    · simp
    · simp only; omega
    · exact actP_len _ _ _
    · exact actP_len _ _ _
  have := h2 (aheadP p c).2
  unfold stepP
  rw [List.length_append]
  omega
theorem feed_len : ∀ (l : List UInt8) (p : Pg), (feedP p l).1.length ≤ 3 * l.length
  | [], p => by simp [feedP]
  | c :: l, p => by
    have h1 := step_len p c
    have h2 := feed_len l (stepP p c).2
    show ((stepP p c).1 ++ (feedP (stepP p c).2 l).1).length ≤ _
    rw [List.length_append, List.length_cons]
    omega
end Go.Proofs.YtnjgnbdebkckfaaGreatDoor.MP
namespace Go.Proofs.YtnjgnbdebkckfaaGreatDoor.E23
set_option maxRecDepth 100000
open Go.RowKit K1 K3 K5 K11 K12 K14 K20 K21 K22 K25 K30 K31 M0 U2 P3 P6 E2 E3 E4 E5 E6 E7 E8 E9 E10 E11 E12 E13 E14 E15 E16 E17 E18 E19 E20 E21 E22 MP
attribute [local go_sem] cell_pastA froz_pastA
theorem _root_.Go.Proofs.YtnjgnbdebkckfaaGreatDoor.E15.StepsP.ret {b : Nat} {P : Nat → Value} {t : TypeId} {q : Pg} {ac : List Ac} {n : Nat} {xs : List Value} {F : List Res} {e : Ending} {w' : World} (h : StepsP b P t q ac n xs F e w') : e = .returned (.tuple #[]) := by
  obtain ⟨_, _, _, _, _, rfl, _⟩ := h
  rfl
theorem flush_len (h : List UInt8) : (flushU h).length ≤ 1 := by
  unfold flushU
  split
  · exact Nat.zero_le _
  · exact Nat.le_refl _
theorem steps_pre {b : Nat} {P : Nat → Value} {t : TypeId} {q : Pg} {ac : List Ac} {n : Nat} {xs : List Value} {F : List Res} {e : Ending} {w' : World} (l0 : List Int) (h : StepsP b P t q ac (n + l0.length) (xs ++ ((l0).flatMap fun r => actV (acPrint r) (.slice none 0 0))) F e w') : StepsP b P t q (l0.map acPrint ++ ac) n xs F e w' := by
  obtain ⟨iv, nv, tv, ov, l, rfl, hl, hs⟩ := h
  have e1 : n + (l0.map acPrint ++ ac).length = n + l0.length + ac.length := by simp; omega
  have e2 : xs ++ actsV ((l0.map fun r => (acPrint r, (.slice none 0 0))) ++ l) = xs ++ ((l0).flatMap fun r => actV (acPrint r) (.slice none 0 0)) ++ actsV l := by simp [actsV, List.flatMap_map, List.append_assoc]
  have e3 : actsR ((l0.map fun r => (acPrint r, (.slice none 0 0))) ++ l) ++ F = actsR (l0.map fun r => (acPrint r, (.slice none 0 0))) ++ (actsR l ++ F) := by simp [actsR]
  refine ⟨⟨iv, nv, tv, ov, (l0.map fun r => (acPrint r, (.slice none 0 0))) ++ l, rfl, by simp [hl], ?_⟩⟩
  rw [e1, e2, e3]
  exact (nils l0 hs).perm (List.perm_append_comm_assoc _ [_, _, _, _, _] (actsR l ++ F))
theorem begin_sep {w' : World} (b : Nat) (P : Nat → Value) (t : TypeId) (p : Pg) (s : Nat) (ov : Value) (n : Nat) (xs : List Value) (F : List Res) (hs : Sep w' (.blk b (parV P (.int .i64 s) (.string ⟨p.half.toArray⟩) (.slice none 0 0) (.bool false) (.bool true) (.int .i64 0) (.slice none 0 0) (.bool false) (.slice none 0 0) ov) t :: .row ov 118 7 n xs :: F)) : Sep w' (.blk b (parV P (.int .i64 (beginP p s).state) (.string ⟨(beginP p s).half.toArray⟩) (.slice none 0 0) (.bool (beginP p s).wrong) (.bool (beginP p s).first) (.int .i64 (beginP p s).mark) (.slice none 0 0) (.bool (beginP p s).full) (.slice none 0 0) ov) t :: .row (.slice none 0 0) 5 1 (beginP p s).inter.length ((beginP p s).inter.map K14.u8) :: .row (.slice none 0 0) 3 1 (beginP p s).nums.length (ints (beginP p s).nums) :: .row (.slice none 0 0) 5 1 (beginP p s).text.length ((beginP p s).text.map K14.u8) :: .row ov 118 7 n xs :: F) := by
  have h2 := ((hs.nilRow (t := 3) (s := 1)).nilRow (t := 5) (s := 1)).nilRow (t := 5) (s := 1)
  exact h2.end5 (s1 := .blk b (parV P (.int .i64 s) (.string ⟨p.half.toArray⟩) (.slice none 0 0) (.bool false) (.bool true) (.int .i64 0) (.slice none 0 0) (.bool false) (.slice none 0 0) ov) t) (s2 := .row (.slice none 0 0) 5 1 0 []) (s3 := .row (.slice none 0 0) 3 1 0 []) (s4 := .row (.slice none 0 0) 5 1 0 []) (s5 := .row ov 118 7 n xs) K32.rm K32.rm K32.rm K32.rm K32.rm K32.sub
theorem begin_steps {w' : World} (b : Nat) (P : Nat → Value) (t : TypeId) (p : Pg) (s : Nat) (ov : Value) (n : Nat) (xs : List Value) (F : List Res) (hs : Sep w' (.blk b (parV P (.int .i64 s) (.string ⟨p.half.toArray⟩) (.slice none 0 0) (.bool false) (.bool true) (.int .i64 0) (.slice none 0 0) (.bool false) (.slice none 0 0) ov) t :: .row ov 118 7 n xs :: F)) : StepsP b P t (beginP p s) [] n xs F (.returned (.tuple #[])) w' := by
  refine ⟨⟨(.slice none 0 0), (.slice none 0 0), (.slice none 0 0), ov, [], rfl, rfl, ?_⟩⟩
  rw [acts0]
  exact begin_sep b P t p s ov n xs F hs
theorem end_steps {w' : World} {b : Nat} {P : Nat → Value} {t : TypeId} {p : Pg} {n N : Nat} {xs X : List Value} {F : List Res} {e : Ending} (h : StepsP b P t (beginP p 1) [] N X F e w') (hN : (if p.state = 3 ∨ p.state = 4 then (n) + 1 else (n)) = N) (hX : (if p.state = 3 then (xs) ++ actV ⟨5, 0, 0, 0, [], [], p.text⟩ (.slice none 0 0) else if p.state = 4 then (xs) ++ actV ⟨6, 0, 0, 0, [], [], p.text⟩ (.slice none 0 0) else (xs)) = X) : StepsP b P t (beginP p 1) (endP p) n xs F e w' := by
  obtain ⟨iv, nv, tv, ov, l, rfl, hl, hs⟩ := h
  obtain rfl : l = [] := by simpa using hl
  subst hN hX
  have hs := hs.nilRow (t := 3) (s := 1)
  unfold endP
  by_cases h : p.state = 3
  · simp only [if_pos h, h, true_or, if_true] at hs ⊢
    refine ⟨⟨iv, nv, tv, ov, [(⟨5, 0, 0, 0, [], [], p.text⟩, (.slice none 0 0))], rfl, rfl, ?_⟩⟩
    rw [acts0] at hs
    have e : xs ++ actsV [((⟨5, 0, 0, 0, [], [], p.text⟩ : Ac), (.slice none 0 0))] = xs ++ actV ⟨5, 0, 0, 0, [], [], p.text⟩ (.slice none 0 0) := by simp [actsV]
    rw [e]
    exact hs.end6 (s6 := .row (.slice none 0 0) 3 1 0 []) K32.rm K32.rm K32.rm K32.rm K32.rm K32.rm K32.sub
  · by_cases h4 : p.state = 4
    · rw [if_pos (.inr h4), if_neg h, if_pos h4] at hs
      rw [if_neg h, if_pos h4]
      refine ⟨⟨iv, nv, tv, ov, [(⟨6, 0, 0, 0, [], [], p.text⟩, (.slice none 0 0))], rfl, rfl, ?_⟩⟩
      rw [acts0] at hs
      have e : xs ++ actsV [((⟨6, 0, 0, 0, [], [], p.text⟩ : Ac), (.slice none 0 0))] = xs ++ actV ⟨6, 0, 0, 0, [], [], p.text⟩ (.slice none 0 0) := by simp [actsV]
      rw [e]
      exact hs.end6 (s6 := .row (.slice none 0 0) 3 1 0 []) K32.rm K32.rm K32.rm K32.rm K32.rm K32.rm K32.sub
    · rw [if_neg (by omega), if_neg h, if_neg h4] at hs
      rw [if_neg h, if_neg h4]
      exact ⟨⟨iv, nv, tv, ov, [], rfl, rfl, hs.tail⟩⟩
set_option maxHeartbeats 4000000 in
theorem step_24 (b : Nat) (p : Pg) (iv nv tv ov : Value) (t : TypeId) (c : UInt8) (n : Nat) (xs : List Value) (F : List Res) (w : World) (hs : Sep w (.blk b (parV (preO true) (.int .i64 p.state) (.string ⟨p.half.toArray⟩) iv (.bool p.wrong) (.bool p.first) (.int .i64 p.mark) nv (.bool p.full) tv ov) t :: .row iv 5 1 p.inter.length (p.inter.map K14.u8) :: .row nv 3 1 p.nums.length (ints p.nums) :: .row tv 5 1 p.text.length (p.text.map K14.u8) :: .row ov 118 7 n xs :: F)) (ok : PgOk p) (hn : n ≤ 50000) (h0 : p.state ≠ 0) (hc : c.toNat = 24) :
    Calls Tryz.prog 70 #[.pointer (some ⟨b, 0, none⟩), .int .u8 c.toNat] w (StepsP b (preO true) t (beginP p 0) [] n xs F) := by
  obtain ⟨hcR, hzR, hlR⟩ := hs.here (b := b) K32.rm
  have hcR33 := (hcR 33).trans (parV_33 ..)
  clear hcR
  have OK := Lib.hid ok
  have HS := Lib.hid hs
  clear hs ok
  rw [hc]
  have d0 : ((p.state : Int) == 0) = false := by simp; omega
  go_enter Tryz.func70, Tryz.ntmps70
  go_wp2_with (first | (go_at_call 93; have hs := HS.out.end2 (F := F) (s1 := .blk b (parV (preO true) (.int .i64 p.state) (.string ⟨p.half.toArray⟩) iv (.bool p.wrong) (.bool p.first) (.int .i64 p.mark) nv (.bool p.full) tv ov) t) (s2 := .row ov 118 7 (n) (xs)) K32.rm K32.rm K32.sub; refine (begin_any b (preO true) (.int .i64 p.state) (.string ⟨p.half.toArray⟩) iv (.bool p.wrong) (.bool p.first) (.int .i64 p.mark) nv (.bool p.full) tv ov t 0 _ _ _ hs rfl).mono ?_; clear hs; rintro e w2 ⟨rfl, hs⟩; have HB := Lib.hid (begin_steps b (preO true) t p 0 ov _ _ _ hs); clear hs))
  (first | go_end0 | refine bodyPost_ret (results_none rfl _ _ _) rfl ?_)
  exact HB.out
set_option maxHeartbeats 4000000 in
theorem step_26 (b : Nat) (p : Pg) (iv nv tv ov : Value) (t : TypeId) (c : UInt8) (n : Nat) (xs : List Value) (F : List Res) (w : World) (hs : Sep w (.blk b (parV (preO true) (.int .i64 p.state) (.string ⟨p.half.toArray⟩) iv (.bool p.wrong) (.bool p.first) (.int .i64 p.mark) nv (.bool p.full) tv ov) t :: .row iv 5 1 p.inter.length (p.inter.map K14.u8) :: .row nv 3 1 p.nums.length (ints p.nums) :: .row tv 5 1 p.text.length (p.text.map K14.u8) :: .row ov 118 7 n xs :: F)) (ok : PgOk p) (hn : n ≤ 50000) (h0 : p.state ≠ 0) (hc : c.toNat = 26) :
    Calls Tryz.prog 70 #[.pointer (some ⟨b, 0, none⟩), .int .u8 c.toNat] w (StepsP b (preO true) t (beginP p 0) [] n xs F) := by
  obtain ⟨hcR, hzR, hlR⟩ := hs.here (b := b) K32.rm
  have hcR33 := (hcR 33).trans (parV_33 ..)
  clear hcR
  have OK := Lib.hid ok
  have HS := Lib.hid hs
  clear hs ok
  rw [hc]
  have d0 : ((p.state : Int) == 0) = false := by simp; omega
  go_enter Tryz.func70, Tryz.ntmps70
  go_wp2_with (first | (go_at_call 93; have hs := HS.out.end2 (F := F) (s1 := .blk b (parV (preO true) (.int .i64 p.state) (.string ⟨p.half.toArray⟩) iv (.bool p.wrong) (.bool p.first) (.int .i64 p.mark) nv (.bool p.full) tv ov) t) (s2 := .row ov 118 7 (n) (xs)) K32.rm K32.rm K32.sub; refine (begin_any b (preO true) (.int .i64 p.state) (.string ⟨p.half.toArray⟩) iv (.bool p.wrong) (.bool p.first) (.int .i64 p.mark) nv (.bool p.full) tv ov t 0 _ _ _ hs rfl).mono ?_; clear hs; rintro e w2 ⟨rfl, hs⟩; have HB := Lib.hid (begin_steps b (preO true) t p 0 ov _ _ _ hs); clear hs))
  (first | go_end0 | refine bodyPost_ret (results_none rfl _ _ _) rfl ?_)
  exact HB.out
set_option maxHeartbeats 4000000 in
theorem step_27 (b : Nat) (p : Pg) (iv nv tv ov : Value) (t : TypeId) (c : UInt8) (n : Nat) (xs : List Value) (F : List Res) (w : World) (hs : Sep w (.blk b (parV (preO true) (.int .i64 p.state) (.string ⟨p.half.toArray⟩) iv (.bool p.wrong) (.bool p.first) (.int .i64 p.mark) nv (.bool p.full) tv ov) t :: .row iv 5 1 p.inter.length (p.inter.map K14.u8) :: .row nv 3 1 p.nums.length (ints p.nums) :: .row tv 5 1 p.text.length (p.text.map K14.u8) :: .row ov 118 7 n xs :: F)) (ok : PgOk p) (hn : n ≤ 50000) (h0 : p.state ≠ 0) (hc : c.toNat = 27) :
    Calls Tryz.prog 70 #[.pointer (some ⟨b, 0, none⟩), .int .u8 c.toNat] w (StepsP b (preO true) t (beginP p 1) (endP p) n xs F) := by
  obtain ⟨hcR, hzR, hlR⟩ := hs.here (b := b) K32.rm
  have hcR33 := (hcR 33).trans (parV_33 ..)
  clear hcR
  have OK := Lib.hid ok
  have HS := Lib.hid hs
  have HL := Lib.hid (flush_len p.half)
  clear hs ok
  rw [hc]
  have d0 : ((p.state : Int) == 0) = false := by simp; omega
  go_enter Tryz.func70, Tryz.ntmps70
  go_wp2_with (first | (go_at_call 94; have hs := HS.out.pick3 (r1 := .blk b (parV (preO true) (.int .i64 p.state) (.string ⟨p.half.toArray⟩) iv (.bool p.wrong) (.bool p.first) (.int .i64 p.mark) nv (.bool p.full) tv ov) t) (r2 := .row tv 5 1 p.text.length (p.text.map K14.u8)) (r3 := .row ov 118 7 (n) (xs)) K32.rm K32.rm K32.rm; refine (end_any b (preO true) (.int .i64 p.state) (.string ⟨p.half.toArray⟩) iv (.bool p.wrong) (.bool p.first) (.int .i64 p.mark) nv (.bool p.full) tv ov tv ov t p.state p.text (n) (xs) _ _ hs (by have := HL.out; omega)).mono ?_; clear hs; rintro e w1 ⟨⟨ov3, rfl, hs⟩⟩; generalize hN : (if p.state = 3 ∨ p.state = 4 then (n) + 1 else (n)) = N at hs; generalize hX : (if p.state = 3 then (xs) ++ actV ⟨5, 0, 0, 0, [], [], p.text⟩ (.slice none 0 0) else if p.state = 4 then (xs) ++ actV ⟨6, 0, 0, 0, [], [], p.text⟩ (.slice none 0 0) else (xs)) = X at hs; have HN := Lib.hid hN; have HX := Lib.hid hX; clear hN hX; have HS := Lib.hid (hs.end2 (F := F) (s1 := .blk b (parV (preO true) (.int .i64 p.state) (.string ⟨p.half.toArray⟩) iv (.bool p.wrong) (.bool p.first) (.int .i64 p.mark) nv (.bool p.full) tv ov3) t) (s2 := .row ov3 118 7 N X) K32.rm K32.rm K32.sub); clear hs) | (go_at_call 93; refine (begin_any b (preO true) (.int .i64 p.state) (.string ⟨p.half.toArray⟩) iv (.bool p.wrong) (.bool p.first) (.int .i64 p.mark) nv (.bool p.full) tv ov3 t 1 _ _ _ HS.out rfl).mono ?_; rintro e w2 ⟨rfl, hs⟩; have HB := Lib.hid (begin_steps b (preO true) t p 1 ov3 _ _ _ hs); clear hs))
  (first | go_end0 | refine bodyPost_ret (results_none rfl _ _ _) rfl ?_)
  exact end_steps HB.out HN.out HX.out
set_option maxHeartbeats 4000000 in
theorem act9 (b : Nat) (p : Pg) (iv nv tv ov : Value) (t : TypeId) (c : UInt8) (n : Nat) (xs : List Value) (F : List Res) (w : World) (hs : Sep w (.blk b (parV (preO true) (.int .i64 p.state) (.string ⟨p.half.toArray⟩) iv (.bool p.wrong) (.bool p.first) (.int .i64 p.mark) nv (.bool p.full) tv ov) t :: .row iv 5 1 p.inter.length (p.inter.map K14.u8) :: .row nv 3 1 p.nums.length (ints p.nums) :: .row tv 5 1 p.text.length (p.text.map K14.u8) :: .row ov 118 7 n xs :: F)) (ok : PgOk p) (hn : n ≤ 50000) (h128 : 128 ≤ c.toNat) :
    Calls Tryz.prog 95 #[.pointer (some ⟨b, 0, none⟩), .int .i64 9, .int .u8 c.toNat] w (StepsP b (preO true) t (actP (beginP p 0) 1 c).2 (actP (beginP p 0) 1 c).1 n xs F) := by
  have OK := Lib.hid ok
  have HS := Lib.hid hs
  clear hs ok
  have hc5 : classF c = 5 := class_5.2 h128
  have hw1 : whatF (beginP p 0) c = 1 := what_0 rfl h128
  have hA0 : ¬ ((beginP p 0).state = 0 ∧ (c.toNat < 32 ∨ c.toNat = 127)) := by omega
  have h24 : c.toNat ≠ 24 := by omega
  have h26 : c.toNat ≠ 26 := by omega
  have h27 : c.toNat ≠ 27 := by omega
  have hc8 := c.toNat_lt
  go_enter Tryz.func95, Tryz.ntmps95
  go_wp2_with (first | (go_at_call 93; have hs := HS.out.end2 (F := F) (s1 := .blk b (parV (preO true) (.int .i64 p.state) (.string ⟨p.half.toArray⟩) iv (.bool p.wrong) (.bool p.first) (.int .i64 p.mark) nv (.bool p.full) tv ov) t) (s2 := .row ov 118 7 (n) (xs)) K32.rm K32.rm K32.sub; refine (begin_any b (preO true) (.int .i64 p.state) (.string ⟨p.half.toArray⟩) iv (.bool p.wrong) (.bool p.first) (.int .i64 p.mark) nv (.bool p.full) tv ov t 0 _ _ _ hs rfl).mono ?_; clear hs; rintro e w2 ⟨rfl, hs⟩; have HQ := Lib.hid (begin_sep b (preO true) t p 0 ov _ _ _ hs); clear hs) | (go_at_call 70; refine (step_table b (beginP p 0) (.slice none 0 0) (.slice none 0 0) (.slice none 0 0) ov t c 1 5 n xs F _ HQ.out (begin_ok OK.out 0 (by decide)) hn hc5 hw1 (by decide) (by intro h; cases h) hA0 h24 h26 h27).mono ?_; rintro e w5 hst; obtain rfl := hst.ret; have HB := Lib.hid hst; clear hst))
  (first | go_end0 | refine bodyPost_ret (results_none rfl _ _ _) rfl ?_)
  exact HB.out
set_option maxHeartbeats 4000000 in
theorem step_back (b : Nat) (p : Pg) (iv nv tv ov : Value) (t : TypeId) (c : UInt8) (n : Nat) (xs : List Value) (F : List Res) (w : World) (hs : Sep w (.blk b (parV (preO true) (.int .i64 p.state) (.string ⟨p.half.toArray⟩) iv (.bool p.wrong) (.bool p.first) (.int .i64 p.mark) nv (.bool p.full) tv ov) t :: .row iv 5 1 p.inter.length (p.inter.map K14.u8) :: .row nv 3 1 p.nums.length (ints p.nums) :: .row tv 5 1 p.text.length (p.text.map K14.u8) :: .row ov 118 7 n xs :: F)) (ok : PgOk p) (hn : n ≤ 50000) (h0 : p.state ≠ 0) (h128 : 128 ≤ c.toNat) (hk : whatF p c = 9) :
    Calls Tryz.prog 70 #[.pointer (some ⟨b, 0, none⟩), .int .u8 c.toNat] w (StepsP b (preO true) t (actP (beginP p 0) 1 c).2 (actP (beginP p 0) 1 c).1 n xs F) := by
  obtain ⟨cl, hcl⟩ : ∃ cl, classF c = cl := ⟨_, rfl⟩
  have hst := ok.st
  have hc6 := class6 c
  rw [hcl] at hc6
  have HT := Lib.hid (table_at p.state cl (.int .i64 p.state) (.string ⟨p.half.toArray⟩) iv (.bool p.wrong) (.bool p.first) (.int .i64 p.mark) nv (.bool p.full) tv ov hst hc6)
  have e : tableL.getD (p.state * 6 + cl) 0 = 9 := by rw [← hk, ← hcl]; rfl
  rw [e] at HT
  clear e
  have HCL := Lib.hid hcl
  obtain ⟨hcR, hzR, hlR⟩ := hs.here (b := b) K32.rm
  have hcR33 := (hcR 33).trans (parV_33 ..)
  clear hcR
  have OK := Lib.hid ok
  have HS := Lib.hid hs
  clear hs ok hcl hk
  have hc8 := c.toNat_lt
  have d0 : ((p.state : Int) == 0) = false := by simp; omega
  go_enter Tryz.func70, Tryz.ntmps70
  go_wp2_with (first | (refine K32.atW 3 (fun xw hs => ?_); (try clear d0); (try simp only [World.size_alloc, World.size_setCell, parV_set33, parV_set34, parV_set35, parV_set36, parV_set37, parV_set38, parV_set39, parV_set40, parV_set41, parV_set42] at hs); (try clear hcR hzR hlR); obtain ⟨hcR, hzR, hlR⟩ := hs.here (b := b) K32.rm; (try clear hcR33); have hcR33 := (hcR 33).trans (parV_33 ..); have hcR0 := hcR; clear hcR; (try clear hcT); have hcT := (hcR0 (3 + p.state * 6 + cl)).trans HT.out; clear hcR0; have HS := Lib.hid hs; clear hs; refine K32.reg0 (w := xw) [] [] 15 ?_; simp only [numbered, List.take_succ_cons, List.take_zero, List.drop_succ_cons, List.drop_zero, List.take_nil, List.drop_nil, Nat.reduceAdd]; (iterate 15 (refine K32.zc ?_; apply Exists.intro; refine ⟨fun bs hok wx hwx hL => ?_, ?_⟩; (focus ((have hwx : Below _ _ wx := hwx; have hcx := cellA hwx; have hfx := frozA hwx; have hzx := hwx.size; (try simp at hzx)); unfold zAt; (try simp [go_sem, K32.ev, ↓IntWalk.iteOmega, *]); (try simp (disch := omega) only [K32.unw]); (try simp only [zUpon]); (first | (refine ⟨rfl, ?_⟩; go_at_call 96; refine (class_k c cl _ HCL.out).mono ?_; rintro e wy ⟨rfl, hby⟩; exact ⟨_, rfl, rfl, hby⟩) | exact ⟨rfl, Below.refl _ _⟩))); (try go_simp))); refine wz_nil ?_; intro wq hbq hLq; clear hLq ; have hcwq := cellA hbq; have hfwq := frozA hbq; have hzwq := hbq.size; (try simp at hzwq); have hs := HS.out.below hbq; (try clear hcR hzR hlR); obtain ⟨hcR, hzR, hlR⟩ := hs.here (b := b) K32.rm; (try clear hcR33); have hcR33 := (hcR 33).trans (parV_33 ..); have hcR0 := hcR; clear hcR; (try clear hcT); have hcT := (hcR0 (3 + p.state * 6 + cl)).trans HT.out; clear hcR0; have HS := Lib.hid hs; clear hs hcwq hfwq hzwq hbq) | (go_at_call 95; refine (act9 b p iv nv tv ov t c n xs F _ HS.out OK.out hn h128).mono ?_; rintro e w5 hst; obtain rfl := hst.ret; have HB := Lib.hid hst; clear hst))
  (first | go_end0 | refine bodyPost_ret (results_none rfl _ _ _) rfl ?_)
  exact HB.out
set_option maxHeartbeats 4000000 in
theorem flush_24 (b : Nat) (p : Pg) (iv nv tv ov : Value) (t : TypeId) (c : UInt8) (n : Nat) (xs : List Value) (F : List Res) (w : World) (hs : Sep w (.blk b (parV (preO true) (.int .i64 p.state) (.string ⟨p.half.toArray⟩) iv (.bool p.wrong) (.bool p.first) (.int .i64 p.mark) nv (.bool p.full) tv ov) t :: .row iv 5 1 p.inter.length (p.inter.map K14.u8) :: .row nv 3 1 p.nums.length (ints p.nums) :: .row tv 5 1 p.text.length (p.text.map K14.u8) :: .row ov 118 7 n xs :: F)) (ok : PgOk p) (hn : n ≤ 50000) (h0 : p.state = 0) (hc : c.toNat = 24) :
    Calls Tryz.prog 70 #[.pointer (some ⟨b, 0, none⟩), .int .u8 c.toNat] w (StepsP b (preO true) t (beginP ({ p with half := [] } : Pg) 0) ((flushU p.half).map acPrint ++ []) n xs F) := by
  obtain ⟨hcR, hzR, hlR⟩ := hs.here (b := b) K32.rm
  have hcR33 := (hcR 33).trans (parV_33 ..)
  clear hcR
  have OK := Lib.hid ok
  have HS := Lib.hid hs
  have HL := Lib.hid (flush_len p.half)
  clear hs ok
  rw [hc]
  have d0 : ((p.state : Int) == 0) = true := by simp [h0]
  clear h0
  go_enter Tryz.func70, Tryz.ntmps70
  go_wp2_with (first | (go_at_call 92; have hs := HS.out.pick (r1 := .blk b (parV (preO true) (.int .i64 p.state) (.string ⟨p.half.toArray⟩) iv (.bool p.wrong) (.bool p.first) (.int .i64 p.mark) nv (.bool p.full) tv ov) t) K32.rm; refine (flush_any b 34 _ t p.half _ _ hs rfl OK.out.half).mono ?_; clear hs; rintro e w1 ⟨⟨rv, rfl, hs⟩⟩; rw [parV_set34] at hs; have HS := Lib.hid hs; clear hs) | (go_at_call 91; have hs := HS.out.pick3 (r1 := .blk b (parV (preO true) (.int .i64 p.state) (.string ⟨([] : List UInt8).toArray⟩) iv (.bool p.wrong) (.bool p.first) (.int .i64 p.mark) nv (.bool p.full) tv ov) t) (r2 := .row rv 21 1 (flushU p.half).length (rvs (flushU p.half))) (r3 := .row ov 118 7 n xs) K32.rm K32.rm K32.rm; refine (print_any b (preO true) (.int .i64 p.state) (.string ⟨([] : List UInt8).toArray⟩) iv (.bool p.wrong) (.bool p.first) (.int .i64 p.mark) nv (.bool p.full) tv ov rv ov t (flushU p.half) n xs _ _ hs (by have := HL.out; omega)).mono ?_; clear hs; rintro e w2 ⟨⟨ov1, rfl, hs⟩⟩; have hs := hs.end5 (F := F) (s1 := .blk b (parV (preO true) (.int .i64 p.state) (.string ⟨([] : List UInt8).toArray⟩) iv (.bool p.wrong) (.bool p.first) (.int .i64 p.mark) nv (.bool p.full) tv ov1) t) (s2 := .row iv 5 1 p.inter.length (p.inter.map K14.u8)) (s3 := .row nv 3 1 p.nums.length (ints p.nums)) (s4 := .row tv 5 1 p.text.length (p.text.map K14.u8)) (s5 := .row ov1 118 7 (n + (flushU p.half).length) (xs ++ (((flushU p.half)).flatMap fun r => actV (acPrint r) (.slice none 0 0)))) K32.rm K32.rm K32.rm K32.rm K32.rm K32.sub; (try clear hcR hzR hlR); obtain ⟨hcR, hzR, hlR⟩ := hs.here (b := b) K32.rm; (try clear hcR33); have hcR33 := (hcR 33).trans (parV_33 ..); clear hcR; have HS := Lib.hid hs; clear hs) | (go_at_call 93; have hs := HS.out.end2 (F := F) (s1 := .blk b (parV (preO true) (.int .i64 p.state) (.string ⟨([] : List UInt8).toArray⟩) iv (.bool p.wrong) (.bool p.first) (.int .i64 p.mark) nv (.bool p.full) tv ov1) t) (s2 := .row ov1 118 7 (n + (flushU p.half).length) (xs ++ (((flushU p.half)).flatMap fun r => actV (acPrint r) (.slice none 0 0)))) K32.rm K32.rm K32.sub; refine (begin_any b (preO true) (.int .i64 p.state) (.string ⟨([] : List UInt8).toArray⟩) iv (.bool p.wrong) (.bool p.first) (.int .i64 p.mark) nv (.bool p.full) tv ov1 t 0 _ _ _ hs rfl).mono ?_; clear hs; rintro e w2 ⟨rfl, hs⟩; have HB := Lib.hid (begin_steps b (preO true) t ({ p with half := [] } : Pg) 0 ov1 _ _ _ hs); clear hs))
  (first | go_end0 | refine bodyPost_ret (results_none rfl _ _ _) rfl ?_)
  exact steps_pre _ HB.out
set_option maxHeartbeats 4000000 in
theorem flush_26 (b : Nat) (p : Pg) (iv nv tv ov : Value) (t : TypeId) (c : UInt8) (n : Nat) (xs : List Value) (F : List Res) (w : World) (hs : Sep w (.blk b (parV (preO true) (.int .i64 p.state) (.string ⟨p.half.toArray⟩) iv (.bool p.wrong) (.bool p.first) (.int .i64 p.mark) nv (.bool p.full) tv ov) t :: .row iv 5 1 p.inter.length (p.inter.map K14.u8) :: .row nv 3 1 p.nums.length (ints p.nums) :: .row tv 5 1 p.text.length (p.text.map K14.u8) :: .row ov 118 7 n xs :: F)) (ok : PgOk p) (hn : n ≤ 50000) (h0 : p.state = 0) (hc : c.toNat = 26) :
    Calls Tryz.prog 70 #[.pointer (some ⟨b, 0, none⟩), .int .u8 c.toNat] w (StepsP b (preO true) t (beginP ({ p with half := [] } : Pg) 0) ((flushU p.half).map acPrint ++ []) n xs F) := by
  obtain ⟨hcR, hzR, hlR⟩ := hs.here (b := b) K32.rm
  have hcR33 := (hcR 33).trans (parV_33 ..)
  clear hcR
  have OK := Lib.hid ok
  have HS := Lib.hid hs
  have HL := Lib.hid (flush_len p.half)
  clear hs ok
  rw [hc]
  have d0 : ((p.state : Int) == 0) = true := by simp [h0]
  clear h0
  go_enter Tryz.func70, Tryz.ntmps70
  go_wp2_with (first | (go_at_call 92; have hs := HS.out.pick (r1 := .blk b (parV (preO true) (.int .i64 p.state) (.string ⟨p.half.toArray⟩) iv (.bool p.wrong) (.bool p.first) (.int .i64 p.mark) nv (.bool p.full) tv ov) t) K32.rm; refine (flush_any b 34 _ t p.half _ _ hs rfl OK.out.half).mono ?_; clear hs; rintro e w1 ⟨⟨rv, rfl, hs⟩⟩; rw [parV_set34] at hs; have HS := Lib.hid hs; clear hs) | (go_at_call 91; have hs := HS.out.pick3 (r1 := .blk b (parV (preO true) (.int .i64 p.state) (.string ⟨([] : List UInt8).toArray⟩) iv (.bool p.wrong) (.bool p.first) (.int .i64 p.mark) nv (.bool p.full) tv ov) t) (r2 := .row rv 21 1 (flushU p.half).length (rvs (flushU p.half))) (r3 := .row ov 118 7 n xs) K32.rm K32.rm K32.rm; refine (print_any b (preO true) (.int .i64 p.state) (.string ⟨([] : List UInt8).toArray⟩) iv (.bool p.wrong) (.bool p.first) (.int .i64 p.mark) nv (.bool p.full) tv ov rv ov t (flushU p.half) n xs _ _ hs (by have := HL.out; omega)).mono ?_; clear hs; rintro e w2 ⟨⟨ov1, rfl, hs⟩⟩; have hs := hs.end5 (F := F) (s1 := .blk b (parV (preO true) (.int .i64 p.state) (.string ⟨([] : List UInt8).toArray⟩) iv (.bool p.wrong) (.bool p.first) (.int .i64 p.mark) nv (.bool p.full) tv ov1) t) (s2 := .row iv 5 1 p.inter.length (p.inter.map K14.u8)) (s3 := .row nv 3 1 p.nums.length (ints p.nums)) (s4 := .row tv 5 1 p.text.length (p.text.map K14.u8)) (s5 := .row ov1 118 7 (n + (flushU p.half).length) (xs ++ (((flushU p.half)).flatMap fun r => actV (acPrint r) (.slice none 0 0)))) K32.rm K32.rm K32.rm K32.rm K32.rm K32.sub; (try clear hcR hzR hlR); obtain ⟨hcR, hzR, hlR⟩ := hs.here (b := b) K32.rm; (try clear hcR33); have hcR33 := (hcR 33).trans (parV_33 ..); clear hcR; have HS := Lib.hid hs; clear hs) | (go_at_call 93; have hs := HS.out.end2 (F := F) (s1 := .blk b (parV (preO true) (.int .i64 p.state) (.string ⟨([] : List UInt8).toArray⟩) iv (.bool p.wrong) (.bool p.first) (.int .i64 p.mark) nv (.bool p.full) tv ov1) t) (s2 := .row ov1 118 7 (n + (flushU p.half).length) (xs ++ (((flushU p.half)).flatMap fun r => actV (acPrint r) (.slice none 0 0)))) K32.rm K32.rm K32.sub; refine (begin_any b (preO true) (.int .i64 p.state) (.string ⟨([] : List UInt8).toArray⟩) iv (.bool p.wrong) (.bool p.first) (.int .i64 p.mark) nv (.bool p.full) tv ov1 t 0 _ _ _ hs rfl).mono ?_; clear hs; rintro e w2 ⟨rfl, hs⟩; have HB := Lib.hid (begin_steps b (preO true) t ({ p with half := [] } : Pg) 0 ov1 _ _ _ hs); clear hs))
  (first | go_end0 | refine bodyPost_ret (results_none rfl _ _ _) rfl ?_)
  exact steps_pre _ HB.out
set_option maxHeartbeats 4000000 in
theorem flush_27 (b : Nat) (p : Pg) (iv nv tv ov : Value) (t : TypeId) (c : UInt8) (n : Nat) (xs : List Value) (F : List Res) (w : World) (hs : Sep w (.blk b (parV (preO true) (.int .i64 p.state) (.string ⟨p.half.toArray⟩) iv (.bool p.wrong) (.bool p.first) (.int .i64 p.mark) nv (.bool p.full) tv ov) t :: .row iv 5 1 p.inter.length (p.inter.map K14.u8) :: .row nv 3 1 p.nums.length (ints p.nums) :: .row tv 5 1 p.text.length (p.text.map K14.u8) :: .row ov 118 7 n xs :: F)) (ok : PgOk p) (hn : n ≤ 50000) (h0 : p.state = 0) (hc : c.toNat = 27) :
    Calls Tryz.prog 70 #[.pointer (some ⟨b, 0, none⟩), .int .u8 c.toNat] w (StepsP b (preO true) t (beginP ({ p with half := [] } : Pg) 1) ((flushU p.half).map acPrint ++ endP ({ p with half := [] } : Pg)) n xs F) := by
  obtain ⟨hcR, hzR, hlR⟩ := hs.here (b := b) K32.rm
  have hcR33 := (hcR 33).trans (parV_33 ..)
  clear hcR
  have OK := Lib.hid ok
  have HS := Lib.hid hs
  have HL := Lib.hid (flush_len p.half)
  clear hs ok
  rw [hc]
  have d0 : ((p.state : Int) == 0) = true := by simp [h0]
  clear h0
  go_enter Tryz.func70, Tryz.ntmps70
  go_wp2_with (first | (go_at_call 92; have hs := HS.out.pick (r1 := .blk b (parV (preO true) (.int .i64 p.state) (.string ⟨p.half.toArray⟩) iv (.bool p.wrong) (.bool p.first) (.int .i64 p.mark) nv (.bool p.full) tv ov) t) K32.rm; refine (flush_any b 34 _ t p.half _ _ hs rfl OK.out.half).mono ?_; clear hs; rintro e w1 ⟨⟨rv, rfl, hs⟩⟩; rw [parV_set34] at hs; have HS := Lib.hid hs; clear hs) | (go_at_call 91; have hs := HS.out.pick3 (r1 := .blk b (parV (preO true) (.int .i64 p.state) (.string ⟨([] : List UInt8).toArray⟩) iv (.bool p.wrong) (.bool p.first) (.int .i64 p.mark) nv (.bool p.full) tv ov) t) (r2 := .row rv 21 1 (flushU p.half).length (rvs (flushU p.half))) (r3 := .row ov 118 7 n xs) K32.rm K32.rm K32.rm; refine (print_any b (preO true) (.int .i64 p.state) (.string ⟨([] : List UInt8).toArray⟩) iv (.bool p.wrong) (.bool p.first) (.int .i64 p.mark) nv (.bool p.full) tv ov rv ov t (flushU p.half) n xs _ _ hs (by have := HL.out; omega)).mono ?_; clear hs; rintro e w2 ⟨⟨ov1, rfl, hs⟩⟩; have hs := hs.end5 (F := F) (s1 := .blk b (parV (preO true) (.int .i64 p.state) (.string ⟨([] : List UInt8).toArray⟩) iv (.bool p.wrong) (.bool p.first) (.int .i64 p.mark) nv (.bool p.full) tv ov1) t) (s2 := .row iv 5 1 p.inter.length (p.inter.map K14.u8)) (s3 := .row nv 3 1 p.nums.length (ints p.nums)) (s4 := .row tv 5 1 p.text.length (p.text.map K14.u8)) (s5 := .row ov1 118 7 (n + (flushU p.half).length) (xs ++ (((flushU p.half)).flatMap fun r => actV (acPrint r) (.slice none 0 0)))) K32.rm K32.rm K32.rm K32.rm K32.rm K32.sub; (try clear hcR hzR hlR); obtain ⟨hcR, hzR, hlR⟩ := hs.here (b := b) K32.rm; (try clear hcR33); have hcR33 := (hcR 33).trans (parV_33 ..); clear hcR; have HS := Lib.hid hs; clear hs) | (go_at_call 94; have hs := HS.out.pick3 (r1 := .blk b (parV (preO true) (.int .i64 p.state) (.string ⟨([] : List UInt8).toArray⟩) iv (.bool p.wrong) (.bool p.first) (.int .i64 p.mark) nv (.bool p.full) tv ov1) t) (r2 := .row tv 5 1 p.text.length (p.text.map K14.u8)) (r3 := .row ov1 118 7 (n + (flushU p.half).length) (xs ++ (((flushU p.half)).flatMap fun r => actV (acPrint r) (.slice none 0 0)))) K32.rm K32.rm K32.rm; refine (end_any b (preO true) (.int .i64 p.state) (.string ⟨([] : List UInt8).toArray⟩) iv (.bool p.wrong) (.bool p.first) (.int .i64 p.mark) nv (.bool p.full) tv ov1 tv ov1 t p.state p.text (n + (flushU p.half).length) (xs ++ (((flushU p.half)).flatMap fun r => actV (acPrint r) (.slice none 0 0))) _ _ hs (by have := HL.out; omega)).mono ?_; clear hs; rintro e w1 ⟨⟨ov3, rfl, hs⟩⟩; generalize hN : (if p.state = 3 ∨ p.state = 4 then (n + (flushU p.half).length) + 1 else (n + (flushU p.half).length)) = N at hs; generalize hX : (if p.state = 3 then (xs ++ (((flushU p.half)).flatMap fun r => actV (acPrint r) (.slice none 0 0))) ++ actV ⟨5, 0, 0, 0, [], [], p.text⟩ (.slice none 0 0) else if p.state = 4 then (xs ++ (((flushU p.half)).flatMap fun r => actV (acPrint r) (.slice none 0 0))) ++ actV ⟨6, 0, 0, 0, [], [], p.text⟩ (.slice none 0 0) else (xs ++ (((flushU p.half)).flatMap fun r => actV (acPrint r) (.slice none 0 0)))) = X at hs; have HN := Lib.hid hN; have HX := Lib.hid hX; clear hN hX; have HS := Lib.hid (hs.end2 (F := F) (s1 := .blk b (parV (preO true) (.int .i64 p.state) (.string ⟨([] : List UInt8).toArray⟩) iv (.bool p.wrong) (.bool p.first) (.int .i64 p.mark) nv (.bool p.full) tv ov3) t) (s2 := .row ov3 118 7 N X) K32.rm K32.rm K32.sub); clear hs) | (go_at_call 93; refine (begin_any b (preO true) (.int .i64 p.state) (.string ⟨([] : List UInt8).toArray⟩) iv (.bool p.wrong) (.bool p.first) (.int .i64 p.mark) nv (.bool p.full) tv ov3 t 1 _ _ _ HS.out rfl).mono ?_; rintro e w2 ⟨rfl, hs⟩; have HB := Lib.hid (begin_steps b (preO true) t ({ p with half := [] } : Pg) 1 ov3 _ _ _ hs); clear hs))
  (first | go_end0 | refine bodyPost_ret (results_none rfl _ _ _) rfl ?_)
  exact steps_pre _ (end_steps HB.out HN.out HX.out)
end Go.Proofs.YtnjgnbdebkckfaaGreatDoor.E23
