/- Y1 -/
import Derived.Test.YtnjgnbdebkckfaaGreatDoorA2
import Derived.Test.YtnjgnbdebkckfaaGreatDoorA32
import Derived.Test.YtnjgnbdebkckfaaGreatDoorA33
import Derived.Lib.Hide
set_option linter.unusedVariables false
set_option linter.unusedSimpArgs false
set_option linter.unnecessarySimpa false
namespace Go.Proofs.YtnjgnbdebkckfaaGreatDoor.Y1
set_option maxRecDepth 100000
open Go.RowKit K1 K3 K5 K11 K12 K14 K20 K21 K22 K25 K30 K31 M0 M0 ME T21 T22 T23 T24 U3 MP Y0
attribute [local go_sem] cell_pastA froz_pastA
inductive RmL : List Res → List Res → List Res → Prop
  | here {A F : List Res} : RmL (A ++ F) A F
  | past {A B F F' : List Res} : RmL F A F' → RmL (B ++ F) A (B ++ F')
  | there {r : Res} {A F F' : List Res} : RmL F A F' → RmL (r :: F) A (r :: F')
theorem RmL.perm {L A F : List Res} (h : RmL L A F) : L.Perm (A ++ F) := by
  induction h with
  | here => exact List.Perm.refl _
  | @past A B F F' _ ih => exact (List.Perm.append_left B ih).trans (by simpa using List.perm_append_comm_assoc B A F')
  | @there r A F F' _ ih => exact (ih.cons r).trans List.perm_middle.symm
theorem Rm_past {B L L' : List Res} {r : Res} (h : Rm L r L') : Rm (B ++ L) r (B ++ L') := by
  induction B with
  | nil => exact h
  | cons s B ih => exact .there ih
theorem sbl {p : Prop} (h : p := by (repeat (first | exact List.Sublist.refl _ | (with_reducible apply List.Sublist.append_left) | apply List.Sublist.cons))) : p := h
/-- the world's parts at an end -/
theorem se {p : Prop} (h : p := by ((with_reducible apply K30.sep_end); exact K32.fnd; intro hs; exact hs.sub sbl)) : p := h
theorem rma {p : Prop} (h : p := by (repeat (first | exact K30.Rm.here | (with_reducible apply K30.Rm.there) | (with_reducible apply Rm_past)))) : p := h
variable {w : World} {L LA F F2 : List Res} {b k n : Nat} {m m' : Tm} {cs : List Value}
theorem tml_at (hs : Sep w L) (hA : TmL b m LA) (h : RmL L LA F) : TmAt b m F w := tm_shut hA (hs.perm h.perm)
theorem rdn (sl : List ByteArray) (hc : cs = sl.map .string) (hn : n = sl.length) (h1 : Rm L (.blk k cs 9) F) (hs : Sep w L) : Rd 1 strE w (.slice (some ⟨k, 0, none⟩) n n) (sl.map fun s => s.data.toList) := by
  subst hc hn
  obtain ⟨h1, _, h3⟩ := hs.here h1
  refine ⟨_, sl.length, by simp, by simp, .inr ⟨k, 0, rfl, h3, fun j x hx i u hu => ?_⟩⟩
  rw [List.getElem?_map] at hx
  obtain ⟨s, hs, rfl⟩ := Option.map_eq_some_iff.1 hx
  obtain rfl : i = 0 := by have := (List.getElem?_eq_some_iff.1 hu).1; simpa [strE] using this
  obtain rfl : Value.string s = u := by simpa [strE] using hu
  rw [Nat.mul_one, Nat.zero_add, Nat.add_zero, h1 j, List.getElem?_map, hs]
  rfl
theorem newL (x y : Int) (hs : Sep w L) : Calls Tryz.prog 22 #[.int .i64 x, .int .i64 y] w fun e w' => ∃ b LA, e = .returned (.pointer (some ⟨b, 0, none⟩)) ∧ TmL b (newT x y) LA ∧ Sep w' (LA ++ L) := by
  refine (newT_any x y L w hs).mono ?_
  rintro e w' ⟨b, rfl, h⟩
  obtain ⟨LA, h1, h2⟩ := tm_open h
  exact ⟨b, LA, rfl, h1, h2⟩
theorem feedL (sl : List ByteArray) (q : List UInt8) {r : List UInt8} {z : ByteArray} (hs : Sep w L) (hA : TmL b m LA) (ok : TmOk m) (hf : feedT m q = (r, m')) (hq : sl.flatMap (fun s => s.data.toList) = q) (hl : q.length ≤ 10000) (hz : z = ⟨r.toArray⟩)
    (h1 : Rm L (.blk k cs 9) F := by (repeat (first | (with_reducible exact K30.Rm.here) | (with_reducible apply K30.Rm.there) | (with_reducible apply Rm_past)))) (h2 : RmL F LA F2 := by (repeat (first | (with_reducible exact RmL.here) | (with_reducible apply RmL.past) | (with_reducible apply RmL.there)))) (hc : cs = sl.map .string := by rfl) (hn : n = sl.length := by rfl) (hl2 : sl.length ≤ 10000 := by simp) :
    Calls Tryz.prog 24 #[.pointer (some ⟨b, 0, none⟩), .slice (some ⟨k, 0, none⟩) n n] w fun e w' => ∃ LA', e = .returned (.string z) ∧ TmL b m' LA' ∧ Sep w' (LA' ++ F2) := by
  subst hz
  have e : (sl.map fun s => s.data.toList).flatten = q := by rw [← hq, List.flatMap_def]
  have hp : L.Perm (LA ++ (.blk k cs 9 :: F2)) := (h1.perm.trans (h2.perm.cons _)).trans List.perm_middle.symm
  refine (feed_r b m _ (sl.map fun s => s.data.toList) (.blk k cs 9 :: F2) w (r, m') (tm_shut hA (hs.perm hp)) ok (fun w' hw' => rdn sl hc hn .here hw') (by rw [e]; exact hl) (by rw [List.length_map]; exact hl2) (by rw [e]; exact hf)).mono ?_
  rintro e w' ⟨⟨rfl, ht⟩⟩
  obtain ⟨LA', h3, h4⟩ := tm_open (tm_sub ht (List.sublist_cons_self _ _))
  exact ⟨LA', rfl, h3, h4⟩
theorem screenL (V : Nat → Nat → Value) (hs : Sep w L) (hA : TmL b m LA) (ok : TmOk m) (hV : ∀ k c, scrV m.t k c = V k c) (h2 : RmL L LA F := by (repeat (first | (with_reducible exact RmL.here) | (with_reducible apply RmL.past) | (with_reducible apply RmL.there)))) :
    Calls Tryz.prog 34 #[.pointer (some ⟨b, 0, none⟩)] w fun e w' => ∃ k c LA', e = .returned (V k c) ∧ TmL b m LA' ∧ Sep w' (LA' ++ (.row (.slice (some ⟨k, 0, none⟩) m.t.cg.c.length c) 58 6 m.t.cg.c.length (m.t.cg.c.flatMap ceV) :: F)) := by
  refine (screen_m b m F w (tml_at hs hA h2) ok).mono ?_
  rintro e w' ⟨⟨k, c, rfl, ht⟩⟩
  obtain ⟨LA', h3, h4⟩ := tm_open ht
  exact ⟨k, c, LA', by rw [hV], h3, h4⟩
theorem textL (hs : Sep w L) (hA : TmL b m LA) (ok : TmOk m) (h2 : RmL L LA F := by (repeat (first | (with_reducible exact RmL.here) | (with_reducible apply RmL.past) | (with_reducible apply RmL.there)))) :
    Calls Tryz.prog 25 #[.pointer (some ⟨b, 0, none⟩)] w fun e w' => ∃ v LA', e = .returned v ∧ TmL b m LA' ∧ Sep w' (LA' ++ (.row v 9 1 (textE m.t).length ((textE m.t).map strW) :: F)) := by
  refine (text_m b m F w (tml_at hs hA h2) ok).mono ?_
  rintro e w' ⟨⟨v, rfl, ht⟩⟩
  obtain ⟨LA', h3, h4⟩ := tm_open ht
  exact ⟨v, LA', rfl, h3, h4⟩
theorem digits_i (v : Int) (D : ByteArray) (hD : D = ⟨(digF v).toArray⟩) (h0 : 0 ≤ v) (h1 : v ≤ 100000000) : Calls Tryz.prog 27 #[.int .i64 v] w fun e w' => e = .returned (.string D) ∧ Below w.heap.size w w' := by
  subst hD
  obtain ⟨n, rfl⟩ := Int.eq_ofNat_of_zero_le h0
  exact digits_any n w (by omega)
end Go.Proofs.YtnjgnbdebkckfaaGreatDoor.Y1
