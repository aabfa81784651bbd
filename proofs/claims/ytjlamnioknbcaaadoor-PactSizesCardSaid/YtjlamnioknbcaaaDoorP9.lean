/- Start -/
import Derived.Test.YtjlamnioknbcaaaDoorP8
import Derived.Lib.Hide
namespace Go.Proofs.YtjlamnioknbcaaaDoor.P9
set_option linter.unusedVariables false
set_option linter.unusedSimpArgs false
set_option linter.unnecessarySimpa false
set_option maxRecDepth 100000
open Go.RowKit K1 K3 K5 K11 K12 K14 K20 K21 K22 K25 W0 V1 V3 Y1 Y2 Y3 Y4 P1 P2 P3 P4 P5 P6 P7 P8

attribute [local go_sem] cell_pastA froz_pastA
def asked (p : Pa) : Pa := { p with dn := true, who := 1, us := upS p.us 31 (askF (p.us 31).1 (p.us 31).2 true).1, him := upS p.him 3 (askF (p.him 3).1 (p.him 3).2 true).1 }
def startF (p : Pa) : List UInt8 × Pa := if p.dn = true then ([], p) else
  ((sayF (asked p) 31 (askF (p.us 31).1 (p.us 31).2 true).2 251 252).1 ++ (sayF (sayF (asked p) 31 (askF (p.us 31).1 (p.us 31).2 true).2 251 252).2 3 (askF (p.him 3).1 (p.him 3).2 true).2 253 254).1, (sayF (sayF (asked p) 31 (askF (p.us 31).1 (p.us 31).2 true).2 251 252).2 3 (askF (p.him 3).1 (p.him 3).2 true).2 253 254).2)
def lq (F : List Res) (b g5 g3 : Nat) (a1 a2 : Sd) (q : Pa) : List Res := .blk g5 [.int .i64 a2.1, .bool a2.2] 46 :: .blk g3 [.int .i64 a1.1, .bool a1.2] 46 :: .blk b (pcells q) 68 :: F
structure LqR (b g5 g3 : Nat) (a1 a2 : Sd) (w : World) : Prop where
  q1 : w.cell? ⟨g5, 0, none⟩ = some (.int .i64 a2.1)
  q2 : w.cell? ⟨g5, 1, none⟩ = some (.bool a2.2)
  q3 : w.cell? ⟨g3, 0, none⟩ = some (.int .i64 a1.1)
  q4 : w.cell? ⟨g3, 1, none⟩ = some (.bool a1.2)
  q5 : b < w.heap.size
section
variable {w : World} {F : List Res} {b g5 g3 : Nat} {a1 a2 : Sd} {q : Pa}
theorem lq_r (h : Sep w (lq F b g5 g3 a1 a2 q)) : LqR b g5 g3 a1 a2 w := ⟨(h.cellsAt 0 rfl).1 0, (h.cellsAt 0 rfl).1 1, (h.cellsAt 1 rfl).1 0, (h.cellsAt 1 rfl).1 1, (h.cellsAt 2 rfl).2.2⟩
theorem lq_b (h : Sep w (lq F b g5 g3 a1 a2 q)) : b < w.heap.size ∧ w.cell? ⟨b, 65, none⟩ = some (.int .i64 (q.us 31).1) ∧ w.cell? ⟨b, 66, none⟩ = some (.bool (q.us 31).2) ∧ (w.frozen? ⟨b, 65, none⟩ = false ∧ w.frozen? ⟨b, 66, none⟩ = false) :=
  ⟨(h.cellsAt 2 rfl).2.2, ((h.cellsAt 2 rfl).1 65).trans (us_s q 31 (by omega)), ((h.cellsAt 2 rfl).1 66).trans (us_o q 31 (by omega)), (h.cellsAt 2 rfl).2.1 65, (h.cellsAt 2 rfl).2.1 66⟩
theorem lq_h (h : Sep w (lq F b g5 g3 a1 a2 q)) : b < w.heap.size ∧ w.cell? ⟨b, 521, none⟩ = some (.int .i64 (q.him 3).1) ∧ w.cell? ⟨b, 522, none⟩ = some (.bool (q.him 3).2) ∧ (w.frozen? ⟨b, 521, none⟩ = false ∧ w.frozen? ⟨b, 522, none⟩ = false) :=
  ⟨(h.cellsAt 2 rfl).2.2, ((h.cellsAt 2 rfl).1 521).trans (him_s q 3 (by omega)), ((h.cellsAt 2 rfl).1 522).trans (him_o q 3 (by omega)), (h.cellsAt 2 rfl).2.1 521, (h.cellsAt 2 rfl).2.1 522⟩
theorem set2 {r s : Res} {i : Nat} {cs : List Value} {t : TypeId} {v : Value} (h : Sep w (r :: s :: .blk b cs t :: F)) : Sep (w.setCell ⟨b, i, none⟩ v) (r :: s :: .blk b (cs.set i v) t :: F) := by
  simpa [ins, del] using h.setAt 2 (i := i) (v := v) rfl rfl
theorem lq_us (h : Sep w (lq F b g5 g3 a1 a2 q)) : Sep ((w.setCell ⟨b, 65, none⟩ (.int .i64 a1.1)).setCell ⟨b, 66, none⟩ (.bool a1.2)) (lq F b g5 g3 a1 a2 { q with us := upS q.us 31 a1 }) := by
  unfold lq
  rw [set_us q 31 a1 (by omega)]
  exact set2 (set2 h)
theorem lq_him {s : Sd} (h : Sep w (lq F b g5 g3 a1 a2 q)) : Sep ((w.setCell ⟨b, 521, none⟩ (.int .i64 s.1)).setCell ⟨b, 522, none⟩ (.bool s.2)) (lq F b g5 g3 a1 a2 { q with him := upS q.him 3 s }) := by
  unfold lq
  rw [set_him q 3 s (by omega)]
  exact set2 (set2 h)
end
theorem sayF_sent (p : Pa) (o : Nat) (what : Int) (on off : Nat) : p.sent ≤ (sayF p o what on off).2.sent ∧ (sayF p o what on off).2.sent ≤ p.sent + 1 := by
  unfold sayF; split
  · exact ⟨Int.le_refl _, by show p.sent ≤ p.sent + 1; omega⟩
  · exact ⟨by show p.sent ≤ p.sent + 1; omega, Int.le_refl _⟩
theorem start_no (b : Nat) (p : Pa) (F : List Res) (w : World) (hs : Sep w (.blk b (pcells p) 68 :: F)) (hd : p.dn = true) : Calls Tryd.prog 13 #[.pointer (some ⟨b, 0, none⟩)] w (OutP F b ([], p)) := by
  have HS := Lib.hid hs
  clear hs
  go_enter Tryd.func13, Tryd.ntmps13
  go_wp2_with (go_at_call 23; refine (open_no b p 1 F _ HS.out hd).mono ?_; rintro e w1 ⟨rfl, hb1⟩)
  go_ret
  exact ⟨⟨rfl, HS.out.below hb1⟩⟩
set_option maxHeartbeats 8000000 in
theorem start_yes (b : Nat) (p : Pa) (F : List Res) (w : World) (hs : Sep w (.blk b (pcells p) 68 :: F)) (hd : p.dn = false) (hp0 : 0 ≤ p.sent) (hp1 : p.sent + 1 ≤ 1000000000) : Calls Tryd.prog 13 #[.pointer (some ⟨b, 0, none⟩)] w (OutP F b (startF p)) := by
  have HS := Lib.hid hs
  clear hs
  go_enter Tryd.func13, Tryd.ntmps13
  go_wp2_with (first | (go_at_call 24; refine (ask_any _ _ _ _).mono ?_; rintro e w4 ⟨rfl, hb4⟩; have hs4 := HS3.out.below hb4; have c5 := ((hs4.cellsAt 1 rfl).1 521).trans (him_s _ 3 (by omega)); have c6 := ((hs4.cellsAt 1 rfl).1 522).trans (him_o _ 3 (by omega)); have hl4 := (hs4.cellsAt 1 rfl).2.2; have hs5 := hs4.alloc (cs := #[.int .i64 (askF (p.him 3).1 (p.him 3).2 true).1.1, .bool (askF (p.him 3).1 (p.him 3).2 true).1.2]) (t := 46) (xs := [.int .i64 (askF (p.him 3).1 (p.him 3).2 true).1.1, .bool (askF (p.him 3).1 (p.him 3).2 true).1.2]) rfl rfl; have HS5 := Lib.hid hs5; clear hs4 hs5 hb4) | (go_at_call 24; refine (ask_any _ _ _ _).mono ?_; rintro e w2 ⟨rfl, hb2⟩; have hs2 := HS1.out.below hb2; have c5 := ((hs2.cellsAt 0 rfl).1 521).trans (him_s _ 3 (by omega)); have c6 := ((hs2.cellsAt 0 rfl).1 522).trans (him_o _ 3 (by omega)); have hl2 := (hs2.cellsAt 0 rfl).2.2; have hs3 := hs2.alloc (cs := #[.int .i64 (askF (p.us 31).1 (p.us 31).2 true).1.1, .bool (askF (p.us 31).1 (p.us 31).2 true).1.2]) (t := 46) (xs := [.int .i64 (askF (p.us 31).1 (p.us 31).2 true).1.1, .bool (askF (p.us 31).1 (p.us 31).2 true).1.2]) rfl rfl; have HS3 := Lib.hid hs3; clear hs2 hs3 hb2) | (go_at_call 23; refine (open_yes b p 1 F _ HS.out hd).mono ?_; rintro e w1 ⟨rfl, hs1⟩; have HS1 := Lib.hid hs1; have c1 := ((at_ hs1).1 65).trans (us_s _ 31 (by omega)); have c2 := ((at_ hs1).1 66).trans (us_o _ 31 (by omega)); have hl1 := (at_ hs1).2.2; clear hs1))
  refine wp_name (fun x hx => ?_)
  have hs5 : Sep x (lq F b w4.heap.size w2.heap.size (askF (p.us 31).1 (p.us 31).2 true).1 (askF (p.him 3).1 (p.him 3).2 true).1 { p with dn := true, who := 1 }) := by rw [hx]; exact HS5.out
  clear hx HS5 HS3 HS1 HS c1 c2 c5 c6
  generalize w4.heap.size = g5 at *
  generalize w2.heap.size = g3 at *
  have hlx := (lq_b hs5).1
  obtain ⟨s1, hs1⟩ : ∃ s, s = (askF (p.us 31).1 (p.us 31).2 true) := ⟨_, rfl⟩
  obtain ⟨s2, hs2⟩ : ∃ s, s = (askF (p.him 3).1 (p.him 3).2 true) := ⟨_, rfl⟩
  rw [← hs1, ← hs2] at hs5
  have HA1 := Lib.hid hs1
  have HA2 := Lib.hid hs2
  simp only [← hs1, ← hs2]
  clear hs1 hs2
  have hgr : Grows (C1e 7 (fun x => Sep x (lq F b g5 g3 s1.1 s2.1 { p with dn := true, who := 1 })) (fun x => Sep x (lq F b g5 g3 s1.1 s2.1 { p with dn := true, who := 1, us := upS p.us 31 s1.1 }))) := C1e.grows (fun _ _ h hb => h.below hb) (fun _ _ h hb => h.below hb)
  have hany : ∀ bs wx, C1e 7 (fun x => Sep x (lq F b g5 g3 s1.1 s2.1 { p with dn := true, who := 1 })) (fun x => Sep x (lq F b g5 g3 s1.1 s2.1 { p with dn := true, who := 1, us := upS p.us 31 s1.1 })) bs wx → LqR b g5 g3 s1.1 s2.1 wx := fun bs wx h => C1e.any (D := LqR b g5 g3 s1.1 s2.1) (fun _ h => lq_r h) (fun _ h => lq_r h) bs wx h
  have hget : ∀ (bs : Nat → Bool) wx, bs 7 = false → C1e 7 (fun x => Sep x (lq F b g5 g3 s1.1 s2.1 { p with dn := true, who := 1 })) (fun x => Sep x (lq F b g5 g3 s1.1 s2.1 { p with dn := true, who := 1, us := upS p.us 31 s1.1 })) bs wx → Sep wx (lq F b g5 g3 s1.1 s2.1 { p with dn := true, who := 1 }) := fun bs wx h0 h => by
    unfold C1e at h
    rwa [if_neg (by rw [h0]; simp)] at h
  have hput : ∀ (bs : Nat → Bool) wx, Sep wx (lq F b g5 g3 s1.1 s2.1 { p with dn := true, who := 1, us := upS p.us 31 s1.1 }) → C1e 7 (fun x => Sep x (lq F b g5 g3 s1.1 s2.1 { p with dn := true, who := 1 })) (fun x => Sep x (lq F b g5 g3 s1.1 s2.1 { p with dn := true, who := 1, us := upS p.us 31 s1.1 })) (upd bs 7) wx := fun bs wx h => by
    unfold C1e
    rwa [if_pos (by simp [upd])]
  refine wp_region_plain [b] (C1e 7 (fun x => Sep x (lq F b g5 g3 s1.1 s2.1 { p with dn := true, who := 1 })) (fun x => Sep x (lq F b g5 g3 s1.1 s2.1 { p with dn := true, who := 1, us := upS p.us 31 s1.1 }))) [7] [] [] 11 (by kernel_rfl) (by kernel_rfl) (fun _ _ dx _ _ hx => by cases dx <;> exact hx) C1e.es (by unfold C1e; rw [if_neg (by simp)]; exact hs5.drew) ?_
  simp only [numbered, List.take_succ_cons, List.take_zero, List.drop_succ_cons, List.drop_zero, List.take_nil, List.drop_nil, Nat.reduceAdd]
  (refine wz_do (by decide) (by decide) C1e.es hgr ?_ ?_; (focus (first | rfl | (go_simp; done))); apply Exists.intro; refine ⟨fun bs hok wx hwx hL => ?_, ?_⟩; (focus (obtain ⟨q1, q2, q3, q4, q5⟩ := hany bs wx hwx; unfold zAt; (try simp [go_sem, BigFrame.eval_const, BigFrame.eval_global, BigFrame.eval_func, ↓IntWalk.iteOmega, *]); (try simp only [zUpon]); exact ⟨rfl, Below.refl _ _⟩)); (try go_simp))
  (refine wz_do (by decide) (by decide) C1e.es hgr ?_ ?_; (focus (first | rfl | (go_simp; done))); apply Exists.intro; refine ⟨fun bs hok wx hwx hL => ?_, ?_⟩; (focus (obtain ⟨q1, q2, q3, q4, q5⟩ := hany bs wx hwx; unfold zAt; (try simp [go_sem, BigFrame.eval_const, BigFrame.eval_global, BigFrame.eval_func, ↓IntWalk.iteOmega, *]); (try simp only [zUpon]); exact ⟨rfl, Below.refl _ _⟩)); (try go_simp))
  (refine wz_do (by decide) (by decide) C1e.es hgr ?_ ?_; (focus (first | rfl | (go_simp; done))); apply Exists.intro; refine ⟨fun bs hok wx hwx hL => ?_, ?_⟩; (focus (obtain ⟨q1, q2, q3, q4, q5⟩ := hany bs wx hwx; unfold zAt; (try simp [go_sem, BigFrame.eval_const, BigFrame.eval_global, BigFrame.eval_func, ↓IntWalk.iteOmega, *]); (try simp only [zUpon]); exact ⟨rfl, Below.refl _ _⟩)); (try go_simp))
  (refine wz_do (by decide) (by decide) C1e.es hgr ?_ ?_; (focus (first | rfl | (go_simp; done))); apply Exists.intro; refine ⟨fun bs hok wx hwx hL => ?_, ?_⟩; (focus (obtain ⟨q1, q2, q3, q4, q5⟩ := hany bs wx hwx; unfold zAt; (try simp [go_sem, BigFrame.eval_const, BigFrame.eval_global, BigFrame.eval_func, ↓IntWalk.iteOmega, *]); (try simp only [zUpon]); exact ⟨rfl, Below.refl _ _⟩)); (try go_simp))
  (refine wz_do (by decide) (by decide) C1e.es hgr ?_ ?_; (focus (first | rfl | (go_simp; done))); apply Exists.intro; refine ⟨fun bs hok wx hwx hL => ?_, ?_⟩; (focus (obtain ⟨q1, q2, q3, q4, q5⟩ := hany bs wx hwx; unfold zAt; (try simp [go_sem, BigFrame.eval_const, BigFrame.eval_global, BigFrame.eval_func, ↓IntWalk.iteOmega, *]); (try simp only [zUpon]); exact ⟨rfl, Below.refl _ _⟩)); (try go_simp))
  (refine wz_do (by decide) (by decide) C1e.es hgr ?_ ?_; (focus (first | rfl | (go_simp; done))); apply Exists.intro; refine ⟨fun bs hok wx hwx hL => ?_, ?_⟩; (focus (obtain ⟨q1, q2, q3, q4, q5⟩ := hany bs wx hwx; unfold zAt; (try simp [go_sem, BigFrame.eval_const, BigFrame.eval_global, BigFrame.eval_func, ↓IntWalk.iteOmega, *]); (try simp only [zUpon]); exact ⟨rfl, Below.refl _ _⟩)); (try go_simp))
  (refine wz_do (by decide) (by decide) C1e.es hgr ?_ ?_; (focus (first | rfl | (go_simp; done))); apply Exists.intro; refine ⟨fun bs hok wx hwx hL => ?_, ?_⟩; (focus (obtain ⟨q1, q2, q3, q4, q5⟩ := hany bs wx hwx; unfold zAt; (try simp [go_sem, BigFrame.eval_const, BigFrame.eval_global, BigFrame.eval_func, ↓IntWalk.iteOmega, *]); (try simp only [zUpon]); exact ⟨rfl, Below.refl _ _⟩)); (try go_simp))
  (refine wz_eff (by decide) ?_ ?_; (focus (first | rfl | (go_simp; done))); apply Exists.intro; refine ⟨fun bs hok wx hwx hL => ?_, ?_⟩; (focus (obtain ⟨q1, q2, q3, q4, q5⟩ := hany bs wx hwx; have hd0 := hget bs wx hok.self hwx; obtain ⟨r1, r2, r3, r4⟩ := lq_b hd0; unfold zAt; (try simp [go_sem, BigFrame.eval_const, BigFrame.eval_global, BigFrame.eval_func, ↓IntWalk.iteOmega, *]); (try simp only [zUpon]); exact ⟨rfl, hput bs _ (lq_us hd0), ((Fr.refl _ _ _).setCell (.inl (by simp)) _).setCell (.inl (by simp)) _⟩)); (try go_simp))
  (refine wz_do (by decide) (by decide) C1e.es hgr ?_ ?_; (focus (first | rfl | (go_simp; done))); apply Exists.intro; refine ⟨fun bs hok wx hwx hL => ?_, ?_⟩; (focus (obtain ⟨q1, q2, q3, q4, q5⟩ := hany bs wx hwx; unfold zAt; (try simp [go_sem, BigFrame.eval_const, BigFrame.eval_global, BigFrame.eval_func, ↓IntWalk.iteOmega, *]); (try simp only [zUpon]); exact ⟨rfl, Below.refl _ _⟩)); (try go_simp))
  (refine wz_do (by decide) (by decide) C1e.es hgr ?_ ?_; (focus (first | rfl | (go_simp; done))); apply Exists.intro; refine ⟨fun bs hok wx hwx hL => ?_, ?_⟩; (focus (obtain ⟨q1, q2, q3, q4, q5⟩ := hany bs wx hwx; unfold zAt; (try simp [go_sem, BigFrame.eval_const, BigFrame.eval_global, BigFrame.eval_func, ↓IntWalk.iteOmega, *]); (try simp only [zUpon]); exact ⟨rfl, Below.refl _ _⟩)); (try go_simp))
  (refine wz_do (by decide) (by decide) C1e.es hgr ?_ ?_; (focus (first | rfl | (go_simp; done))); apply Exists.intro; refine ⟨fun bs hok wx hwx hL => ?_, ?_⟩; (focus (obtain ⟨q1, q2, q3, q4, q5⟩ := hany bs wx hwx; unfold zAt; (try simp [go_sem, BigFrame.eval_const, BigFrame.eval_global, BigFrame.eval_func, ↓IntWalk.iteOmega, *]); (try simp only [zUpon]); exact ⟨rfl, Below.refl _ _⟩)); (try go_simp))
  refine wz_nil ?_
  intro wq hwq hLq
  have hd1 : Sep wq (lq F b g5 g3 s1.1 s2.1 { p with dn := true, who := 1, us := upS p.us 31 s1.1 }) := by
    unfold C1e at hwq
    rwa [if_pos (by decide)] at hwq
  obtain ⟨r1, r2, r3, r4⟩ := lq_h hd1
  have hs7 := lq_him (s := s2.1) hd1
  have HS7 := Lib.hid (show Sep _ (.blk b (pcells { p with dn := true, who := 1, us := upS p.us 31 s1.1, him := upS p.him 3 s2.1 }) 68 :: F) from hs7.tail.tail)
  clear hs7 hd1 hwq hLq hgr hany hget hput hs5
  obtain ⟨l8, hl8⟩ : ∃ l, l = (sayF { p with dn := true, who := 1, us := upS p.us 31 s1.1, him := upS p.him 3 s2.1 } 31 s1.2 251 252).1 := ⟨_, rfl⟩
  obtain ⟨l9, hl9⟩ : ∃ l, l = (sayF (sayF { p with dn := true, who := 1, us := upS p.us 31 s1.1, him := upS p.him 3 s2.1 } 31 s1.2 251 252).2 3 s2.2 253 254).1 := ⟨_, rfl⟩
  have hn8 : l8.length ≤ 3 := by rw [hl8]; exact sayF_len _ _ _ _ _
  have hn9 : l9.length ≤ 3 := by rw [hl9]; exact sayF_len _ _ _ _ _
  have hp2 := Int.le_trans (show 0 ≤ p.sent from hp0) (sayF_sent { p with dn := true, who := 1, us := upS p.us 31 s1.1, him := upS p.him 3 s2.1 } 31 s1.2 251 252).1
  have hp3 := Int.le_trans (sayF_sent { p with dn := true, who := 1, us := upS p.us 31 s1.1, him := upS p.him 3 s2.1 } 31 s1.2 251 252).2 (show p.sent + 1 ≤ _ from hp1)
  have HL8 := Lib.hid hl8
  have HL9 := Lib.hid hl9
  clear hl8 hl9
  go_wp2_with (first | (go_at_call 25; refine (say_any b _ 3 _ 253 254 _ _ HS8.out (by decide) (by decide) (by decide) (by decide) (by decide) hp2 hp3).mono ?_; rintro e w9 ⟨⟨he9, hs9⟩⟩; have he9 : e = .returned (.string ⟨l9.toArray⟩) := he9.trans (ret1 HL9.out.symm); subst he9; have HS9 := Lib.hid hs9; clear hs9) | (go_at_call 25; refine (say_any b _ 31 _ 251 252 _ _ HS7.out (by decide) (by decide) (by decide) (by decide) (by decide) hp0 (by show p.sent ≤ _; omega)).mono ?_; rintro e w8 ⟨⟨he8, hs8⟩⟩; have he8 : e = .returned (.string ⟨l8.toArray⟩) := he8.trans (ret1 HL8.out.symm); subst he8; have HS8 := Lib.hid hs8; clear hs8))
  go_ret
  unfold startF asked
  rw [if_neg (by rw [hd]; simp)]
  rw [← HA1.out, ← HA2.out]
  exact ⟨⟨ret2 HL8.out HL9.out, HS9.out⟩⟩
end Go.Proofs.YtjlamnioknbcaaaDoor.P9
