/- T21 -/
import Derived.Test.YtnjgnbdebkckfaaGreatDoorA2
import Derived.Test.YtnjgnbdebkckfaaGreatDoorA16
import Derived.Test.YtnjgnbdebkckfaaGreatDoorA29
import Derived.Lib.Hide
set_option linter.unusedVariables false
set_option linter.unusedSimpArgs false
set_option linter.unnecessarySimpa false
namespace Go.Proofs.YtnjgnbdebkckfaaGreatDoor.T21
set_option maxRecDepth 100000
open Go.RowKit K1 K3 K5 K11 K12 K14 K20 K21 K22 K25 K30 K31 M0 C1 G1 G2 G3 G4 G5 G6 G7 G8 G9 G10 E3 E12 E14 E25 ME MF S3 S4 T1 T2 T3 T4 T5 T6 T7 T8 T9 T10 T11 T12 T13 T14 T15 T16 E2 E15 K7 K9 T17 T18 T19 T20 U1 MP
attribute [local go_sem] cell_pastA froz_pastA
structure TmAt (b : Nat) (m : Tm) (F : List Res) (w : World) : Prop where
  out : ∃ (pb : Nat) (o : Bool) (iv nv tv : Value), TeAt b (.pointer (some ⟨pb, 0, none⟩)) (.slice none 0 0) m.t (pL pb o 102 m.p iv nv tv F) w
structure TmOk (m : Tm) : Prop where
  t : TeOk m.t
  p : PgI m.p
theorem newT_ok (w h : Int) : TmOk (newT w h) := ⟨new_ok w h, zero_I⟩
theorem feedT_ok {m : Tm} (ok : TmOk m) (s : List UInt8) : TmOk (feedT m s).2 := ⟨acts_ok _ ok.t (feed_ok s ok.p).2, (feed_ok s ok.p).1⟩
theorem newT_any (x y : Int) (F : List Res) (w : World) (hs : Sep w F) : Calls Tryz.prog 22 #[.int .i64 x, .int .i64 y] w fun e w' => ∃ b, e = .returned (.pointer (some ⟨b, 0, none⟩)) ∧ TmAt b (newT x y) F w' := by
  refine (newE_any x y F w hs).mono ?_
  rintro e w' ⟨⟨b, pb, rfl, h⟩⟩
  exact ⟨b, rfl, ⟨⟨pb, false, _, _, _, h⟩⟩⟩
theorem TmAt.below {b : Nat} {m : Tm} {F : List Res} {w w' : World} (h : TmAt b m F w) (hb : Below w.heap.size w w') : TmAt b m F w' := by
  obtain ⟨pb, o, iv, nv, tv, sb, cb, gb, gc, xb, hb', hc, pm, po, h1, h2, h3⟩ := h
  exact ⟨⟨pb, o, iv, nv, tv, ⟨⟨sb, cb, gb, gc, xb, hb', hc, pm, po, h1, h2, h3.below hb⟩⟩⟩⟩
theorem TmAt.perm {b : Nat} {m : Tm} {F F' : List Res} {w : World} (h : TmAt b m F w) (hp : F.Perm F') : TmAt b m F' w := by
  obtain ⟨pb, o, iv, nv, tv, h⟩ := h
  exact ⟨⟨pb, o, iv, nv, tv, TeAt.perm h (by unfold pL; exact List.Perm.append_left [_, _, _, _] hp)⟩⟩
theorem TmAt.rest {b : Nat} {m : Tm} {F : List Res} {w : World} (h : TmAt b m F w) : Sep w F := by
  obtain ⟨pb, o, iv, nv, tv, sb, cb, gb, gc, xb, hb', hc, pm, po, h1, h2, h3⟩ := h
  unfold teL pL at h3
  exact h3.sub K32.sub
/-- the list of a terminal's parts, the parser first -/
theorem tm_swap {b sb cb gb gc xb hb hc pb : Nat} {pv av iv nv tv : Value} {pm po : Option Addr} {o : Bool} {t : Te} {p : Pg} (F : List Res) : (teL b pv av pm po sb cb gb gc xb hb hc t (pL pb o 102 p iv nv tv F)).Perm (pL pb o 102 p iv nv tv (teL b pv av pm po sb cb gb gc xb hb hc t F)) := by
  unfold teL pL
  exact List.perm_append_comm_assoc [_, _, _, _, _, _] [_, _, _, _] F
theorem tm_back {b sb cb gb gc xb hb hc pb : Nat} {pv av iv nv tv : Value} {pm po : Option Addr} {o : Bool} {t : Te} {p : Pg} (A F : List Res) : (pL pb o 102 p iv nv tv (A ++ teL b pv av pm po sb cb gb gc xb hb hc t F)).Perm (teL b pv av pm po sb cb gb gc xb hb hc t (A ++ pL pb o 102 p iv nv tv F)) := by
  unfold teL pL
  have h1 := List.perm_append_comm_assoc A [.blk b (emQ t.m pv pm po (.pointer (some ⟨sb, 0, none⟩)) av) 108, .blk cb (gcells t.cg gb gc) 121, .row (.slice (some ⟨gb, 0, none⟩) t.cg.c.length gc) 58 6 t.cg.c.length (t.cg.c.flatMap ceV), .blk xb (gcells t.og hb hc) 121, .row (.slice (some ⟨hb, 0, none⟩) t.og.c.length hc) 58 6 t.og.c.length (t.og.c.flatMap ceV), .blk sb (scells t.s) 126] F
  refine (List.Perm.append_left [_, _, _, _] h1).trans ?_
  refine (List.perm_append_comm_assoc [_, _, _, _] [_, _, _, _, _, _] (A ++ F)).trans (List.Perm.append_left [_, _, _, _, _, _] ?_)
  exact List.perm_append_comm_assoc [_, _, _, _] A F
structure FdP (b : Nat) (r : List UInt8 × Tm) (F : List Res) (e : Ending) (w' : World) : Prop where
  out : e = .returned (.string ⟨r.1.toArray⟩) ∧ TmAt b r.2 F w'
theorem act_in (b pb : Nat) (iv nv tv va : Value) {sb cb gb gc xb hb hc : Nat} {pm po : Option Addr} {F : List Res} (t : Te) (p : Pg) (l : List (Ac × Value)) (ac : List Ac) (w : World) (hl : l.map (·.1) = ac) (hs : Sep w (pL pb true 102 p iv nv tv (.row va 118 7 l.length (actsV l) :: (actsR l ++ teL b (.pointer (some ⟨pb, 0, none⟩)) (.slice none 0 0) pm po sb cb gb gc xb hb hc t F)))) (hcur : (if t.m.alt = true then po else pm) = some ⟨cb, 0, none⟩) (hoth : (if t.m.alt = true then pm else po) = some ⟨xb, 0, none⟩) (ok : TeOk t) (hk : ∀ a ∈ ac, AcOk a) (hn : ac.length ≤ 100000) :
    Calls Tryz.prog 49 #[.pointer (some ⟨b, 0, none⟩), va] w fun e w' => e = .returned (.string ⟨(actsE t ac).1.toArray⟩) ∧ TeAt b (.pointer (some ⟨pb, 0, none⟩)) (.slice none 0 0) (actsE t ac).2 (pL pb true 102 p iv nv tv F) w' := by
  subst hl
  have h1 := hs.perm (tm_back (.row va 118 7 l.length (actsV l) :: actsR l) F)
  refine (Act_any b (some ⟨pb, 0, none⟩) t va l (pL pb true 102 p iv nv tv F) w ⟨⟨sb, cb, gb, gc, xb, hb, hc, pm, po, hcur, hoth, h1⟩⟩ ok (fun q hq => hk q.1 (List.mem_map.2 ⟨q, hq, rfl⟩)) (by rw [List.length_map] at hn; exact hn)).mono ?_
  rintro e w' ⟨⟨rfl, h⟩⟩
  exact ⟨rfl, h⟩
set_option maxHeartbeats 4000000 in
theorem feed_m (b : Nat) (m : Tm) (v : Value) (L : List (List UInt8)) (F : List Res) (w : World) (h : TmAt b m F w) (ok : TmOk m) (hr : ∀ w, Sep w F → Rd 1 strE w v L) (hL : L.flatten.length ≤ 10000) (hL2 : L.length ≤ 10000) :
    Calls Tryz.prog 24 #[.pointer (some ⟨b, 0, none⟩), v] w (FdP b (feedT m L.flatten) F) := by
  obtain ⟨pb, o, iv, nv, tv, sb, cb, gb, gc, xb, hb, hc, pm, po, h1, h2, h3⟩ := h
  obtain ⟨g, hg⟩ := main_some h1 h2
  have hs := h3
  unfold teL at hs
  obtain ⟨hcE, hzE, hlE⟩ := hs.here (b := b) K32.rm
  have hcE22 := (hcE 22).trans (emV_22 ..); have hcE23 := (hcE 23).trans (emV_23 ..)
  rw [hg] at hcE23
  obtain ⟨ad, cp, hv, -⟩ := K25.Rd.len (hr w (h3.sub (by unfold teL pL; repeat (first | exact List.Sublist.refl _ | apply List.Sublist.cons))))
  have HS := Lib.hid h3
  have H1 := Lib.hid h1
  have H2 := Lib.hid h2
  have OK := Lib.hid ok
  have HR := Lib.hid hr
  have HV := Lib.hid hv
  clear hs h1 h2 h3 hg ok hr hcE hv
  go_enter Tryz.func24, Tryz.ntmps24
  go_wp2_with (first | (go_at_call 48; refine (none_any b none g _ hcE23).mono ?_; rintro e w1 ⟨rfl, hbw⟩; have hs := (HS.out.below hbw).perm (tm_swap F); have hq := HS.out.below hbw; unfold teL at hq; (try clear hcE22 hcE23 hcE hzE hlE); obtain ⟨hcE, hzE, hlE⟩ := hq.here (b := b) K32.rm; have hcE22 := (hcE 22).trans (emV_22 ..); clear hcE hq; have HS1 := Lib.hid hs; clear hs hbw) | (go_at_call 50; refine (feed_p pb o 102 m.p iv nv tv v L _ _ HS1.out OK.out.p (fun w' hw' => HR.out w' (hw'.sub (by unfold teL; repeat (first | exact List.Sublist.refl _ | apply List.Sublist.cons)))) hL hL2).mono ?_; rintro e w2 ⟨⟨va, iv2, nv2, tv2, l, rfl, hl, hs⟩⟩; have HL := Lib.hid hl; have HS2 := Lib.hid hs; clear hl hs) | (go_at_call 49; refine (act_in b pb iv2 nv2 tv2 va m.t (feedP m.p L.flatten).2 l (feedP m.p L.flatten).1 _ HL.out HS2.out H1.out H2.out OK.out.t (fun a ha => (feed_ok L.flatten OK.out.p).2 a ha) (by have := feed_len L.flatten m.p; omega)).mono ?_; rintro e w3 ⟨rfl, ht⟩))
  go_ret
  exact ⟨⟨rfl, ⟨⟨pb, true, iv2, nv2, tv2, ht⟩⟩⟩⟩
end Go.Proofs.YtnjgnbdebkckfaaGreatDoor.T21
