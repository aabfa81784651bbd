/- P3, P4, P5, P6 -/
import Derived.Test.YtnjgnbdebkckfaaGreatDoorA2
import Derived.Test.YtnjgnbdebkckfaaGreatDoorA6
import Derived.Lib.Hide
set_option linter.unusedVariables false
set_option linter.unusedSimpArgs false
set_option linter.unnecessarySimpa false
namespace Go.Proofs.YtnjgnbdebkckfaaGreatDoor.P3
set_option maxRecDepth 100000
open Go.RowKit K1 K3 K5 K11 K12 K14 K20 K21 K22 K25 K30 K31 M0 U1 U2 P1 P2
attribute [local go_sem] cell_pastA froz_pastA
theorem width_w (c : UInt8) (W : Nat) (w : World) (hW : widthF c = W) : Calls Tryz.prog 164 #[.int .u8 c.toNat] w fun e w' => e = .returned (.int .i64 W) ∧ Below w.heap.size w w' := by subst hW; exact width_any c w
theorem set_same {l : List Value} {i : Nat} {v : Value} (h : l[i]? = some v) : l.set i v = l := by
  obtain ⟨hi, rfl⟩ := List.getElem?_eq_some_iff.1 h
  exact List.set_getElem_self hi
theorem conv1 (c : UInt8) (W : World) (g : Nat) (hg : W.heap[g]? = some (.cells #[.int .u8 c.toNat] 5 (0, 0))) : (convert 36 9 (.slice (some ⟨g, 0, none⟩) 1 1)).run Tryz.prog W = .ok (.string ⟨#[c]⟩) W := by
  refine run_convert_bytes_back W 36 9 5 _ 1 [c] Tryz.underlying36 Tryz.underlying5 Tryz.underlying9 fun j hj => ?_
  obtain rfl : j = 0 := by simpa using hj
  have ha : (⟨g, 0, none⟩ : Addr).add 0 = ⟨g, 0, none⟩ := by simp [Addr.add]
  rw [ha, cell_blk hg 0]
  rfl
theorem conv1a (c : UInt8) (W : World) : (convert 36 9 (.slice (some ⟨W.heap.size, 0, none⟩) 1 1)).run Tryz.prog (W.alloc (.cells #[.int .u8 c.toNat] 5)) = .ok (.string ⟨#[c]⟩) (W.alloc (.cells #[.int .u8 c.toNat] 5)) := conv1 c _ _ (blk_new rfl)
structure StepP (b off : Nat) (cs : List Value) (t : TypeId) (n : Nat) (xs : List Value) (F : List Res) (r : List Int × List UInt8) (e : Ending) (w' : World) : Prop where
  out : ∃ v, e = .returned v ∧ Sep w' (.blk b (cs.set off (.string ⟨r.2.toArray⟩)) t :: .row v 21 1 (n + r.1.length) (xs ++ rvs r.1) :: F)
set_option maxHeartbeats 4000000 in
theorem step0 (b off : Nat) (cs : List Value) (t : TypeId) (v : Value) (n : Nat) (xs : List Value) (c : UInt8) (F : List Res) (w : World) (hs : Sep w (.blk b cs t :: .row v 21 1 n xs :: F)) (h0 : cs[off]? = some (.string ⟨#[]⟩)) (hn : n ≤ 100000) :
    Calls Tryz.prog 149 #[.pointer (some ⟨b, off, none⟩), v, .int .u8 c.toNat] w (StepP b off cs t n xs F (startU c)) := by
  have hc8 := c.toNat_lt
  obtain ⟨hcR, hzR, hlR⟩ := hs.here (b := b) K32.rm
  have hcO := (hcR off).trans h0
  clear hcR
  have H0 := Lib.hid h0
  have HS := Lib.hid hs
  obtain ⟨i0, ih, ia, ib, ic⟩ := info_parts infoR
  have iI := Lib.hid ih
  clear ih
  have HCV := Lib.hid (conv1 c)
  clear hs h0
  obtain ⟨W, hW⟩ : ∃ W, widthF c = W := ⟨_, rfl⟩
  have HW := Lib.hid hW
  unfold startU
  rw [hW]
  clear hW
  by_cases w0 : W = 0
  · subst w0
    rw [if_pos rfl]
    go_enter Tryz.func149, Tryz.ntmps149
    go_wp2_with (first | (go_at_call 164; (with_reducible refine (width_w c 0 _ HW.out).mono ?_); rintro e w1 ⟨rfl, hb⟩; have hs := HS.out.below hb; clear hb; (try clear hcR hzR hlR); obtain ⟨hcR, hzR, hlR⟩ := hs.here (b := b) K32.rm; (try clear hcO); have hcO := (hcR off).trans H0.out; clear hcR; have HS := Lib.hid hs; clear hs) | (refine K30.atOp (d := 20) ?_; at_builtin; (with_reducible apply K30.list_at); exact K32.fnd; intro xw hs; (try simp only [World.size_alloc, World.size_setCell] at hs); have hnw := news_of1 (hs.here (cs := [.int .i32 (65533)]) (t := 21) K32.rm).1; have hs := hs.pick (r1 := .row v 21 1 n xs) K32.rm; refine wpList_appS rfl (.tmp 18) (.tmp 19) 111 rfl 21 i0 (.int .i32 0) 1 4 Tryz.underlying111 iI.out ia ib ic rfl (by decide) v n xs _ rfl hs ⟨_, 0, none⟩ 1 _ [.int .i32 (65533)] rfl rfl hnw (by intro u hu; simp at hu; subst hu; rfl) (by omega) (by omega) (by decide) ?_; intro g2 cap2 w2 hs2 hz2; clear hs; (try clear hcR hzR hlR); obtain ⟨hcR, hzR, hlR⟩ := hs2.here (b := b) K32.rm; (try clear hcO); have hcO := (hcR off).trans H0.out; clear hcR; have HS := Lib.hid hs2; clear hs2))
    go_ret
    refine ⟨⟨_, rfl, ?_⟩⟩
    rw [set_same H0.out]
    exact HS.out.end2 K32.rm .here K32.sub
  · rw [if_neg w0]
    by_cases w1 : W = 1
    · subst w1
      rw [if_pos rfl]
      go_enter Tryz.func149, Tryz.ntmps149
      go_wp2_with (first | (go_at_call 164; (with_reducible refine (width_w c 1 _ HW.out).mono ?_); rintro e w1 ⟨rfl, hb⟩; have hs := HS.out.below hb; clear hb; (try clear hcR hzR hlR); obtain ⟨hcR, hzR, hlR⟩ := hs.here (b := b) K32.rm; (try clear hcO); have hcO := (hcR off).trans H0.out; clear hcR; have HS := Lib.hid hs; clear hs) | (refine K30.atOp (d := 27) ?_; at_builtin; (with_reducible apply K30.list_at); exact K32.fnd; intro xw hs; (try simp only [World.size_alloc, World.size_setCell] at hs); have hnw := news_of1 (hs.here (cs := [.int .i32 ((c.toNat : Int))]) (t := 21) K32.rm).1; have hs := hs.pick (r1 := .row v 21 1 n xs) K32.rm; refine wpList_appS rfl (.tmp 23) (.tmp 26) 111 rfl 21 i0 (.int .i32 0) 1 4 Tryz.underlying111 iI.out ia ib ic rfl (by decide) v n xs _ rfl hs ⟨_, 0, none⟩ 1 _ [.int .i32 ((c.toNat : Int))] rfl rfl hnw (by intro u hu; simp at hu; subst hu; rfl) (by omega) (by omega) (by decide) ?_; intro g2 cap2 w2 hs2 hz2; clear hs; (try clear hcR hzR hlR); obtain ⟨hcR, hzR, hlR⟩ := hs2.here (b := b) K32.rm; (try clear hcO); have hcO := (hcR off).trans H0.out; clear hcR; have HS := Lib.hid hs2; clear hs2))
      go_ret
      refine ⟨⟨_, rfl, ?_⟩⟩
      rw [set_same H0.out]
      exact HS.out.end2 K32.rm .here K32.sub
    · rw [if_neg w1]
      have d0 : ((W : Int) == 0) = false := by simpa using w0
      have d1 : ((W : Int) == 1) = false := by simp; omega
      clear w0 w1
      have hcv := conv1a c
      go_enter Tryz.func149, Tryz.ntmps149
      go_wp2_with (first | (go_at_call 164; (with_reducible refine (width_w c W _ HW.out).mono ?_); rintro e w1 ⟨rfl, hb⟩; have hs := HS.out.below hb; clear hb; (try clear hcR hzR hlR); obtain ⟨hcR, hzR, hlR⟩ := hs.here (b := b) K32.rm; (try clear hcO); have hcO := (hcR off).trans H0.out; clear hcR; have HS := Lib.hid hs; clear hs))
      go_ret
      refine ⟨⟨_, rfl, ?_⟩⟩
      (with_reducible apply K30.sep_end)
      exact K32.fnd
      intro hs
      have hs2 := hs.end2 (F := F) (s1 := .blk b (cs.set off (.string ⟨#[c]⟩)) t) (s2 := .row v 21 1 n xs) K32.rm K32.rm K32.sub
      simpa [rvs] using hs2
theorem app_arr (a b : List UInt8) : (⟨a.toArray⟩ : ByteArray) ++ ⟨b.toArray⟩ = ⟨(a ++ b).toArray⟩ := by
  apply ByteArray.ext
  show (ByteArray.append ⟨a.toArray⟩ ⟨b.toArray⟩).data = _
  simp [ByteArray.append, ByteArray.copySlice, ByteArray.size]
theorem flush_any (b off : Nat) : True := trivial
end Go.Proofs.YtnjgnbdebkckfaaGreatDoor.P3
namespace Go.Proofs.YtnjgnbdebkckfaaGreatDoor.P4
set_option maxRecDepth 100000
open Go.RowKit K1 K3 K5 K11 K12 K14 K20 K21 K22 K25 K30 K31 M0 U1 U2 P1 P2 P3
attribute [local go_sem] cell_pastA froz_pastA
theorem may_w (x : UInt8) (l : List UInt8) (c : UInt8) (m : Bool) (w : World) (hm : mayF (x :: l) c = m) (hl2 : l.length ≤ 10) : Calls Tryz.prog 165 #[.string ⟨(x :: l).toArray⟩, .int .u8 c.toNat] w fun e w' => e = .returned (.bool m) ∧ Below w.heap.size w w' := by subst hm; exact may_any x l c w hl2
theorem app2 (x c : UInt8) (l : List UInt8) : (⟨(x :: l).toArray⟩ : ByteArray) ++ ⟨#[c]⟩ = ⟨(x :: (l ++ [c])).toArray⟩ := by
  apply ByteArray.ext
  simp
set_option maxHeartbeats 4000000 in
theorem step_bad (b off : Nat) (cs : List Value) (t : TypeId) (v : Value) (n : Nat) (xs : List Value) (x : UInt8) (l : List UInt8) (c : UInt8) (F : List Res) (w : World) (hs : Sep w (.blk b cs t :: .row v 21 1 n xs :: F)) (h0 : cs[off]? = some (.string ⟨(x :: l).toArray⟩)) (hn : n ≤ 10000) (hl10 : l.length ≤ 10) (hm : mayF (x :: l) c = false) :
    Calls Tryz.prog 149 #[.pointer (some ⟨b, off, none⟩), v, .int .u8 c.toNat] w (StepP b off cs t n xs F (0xfffd :: (startU c).1, (startU c).2)) := by
  have hc8 := c.toNat_lt
  obtain ⟨hcR, hzR, hlR⟩ := hs.here (b := b) K32.rm
  have hcO := (hcR off).trans h0
  clear hcR
  have hoff : off < cs.length := (List.getElem?_eq_some_iff.1 h0).1
  have HE : Hid ((cs.set off (.string ⟨#[]⟩))[off]? = some (.string ⟨#[]⟩)) := Lib.hid (List.getElem?_set_self hoff)
  have H0 := Lib.hid h0
  have HS := Lib.hid hs
  have HM := Lib.hid hm
  obtain ⟨i0, ih, ia, ib, ic⟩ := info_parts infoR
  have iI := Lib.hid ih
  clear ih
  clear hs h0 hm
  go_enter Tryz.func149, Tryz.ntmps149
  go_wp2_with (first | (go_at_call 165; (with_reducible refine (may_w x l c false _ HM.out hl10).mono ?_); rintro e w1 ⟨rfl, hb⟩; have hs := HS.out.below hb; clear hb; (try clear hcR hzR hlR); obtain ⟨hcR, hzR, hlR⟩ := hs.here (b := b) K32.rm; (try clear hcO); have hcO := (hcR off).trans H0.out; clear hcR; have HS := Lib.hid hs; clear hs) | (refine K30.atOp (d := 48) ?_; at_builtin; (with_reducible apply K30.list_at); exact K32.fnd; intro xw hs; (try simp only [World.size_alloc, World.size_setCell] at hs); have hnw := news_of1 (hs.here (cs := [.int .i32 (65533)]) (t := 21) K32.rm).1; have hs := hs.pick (r1 := .row v 21 1 n xs) K32.rm; refine wpList_appS rfl (.tmp 46) (.tmp 47) 111 rfl 21 i0 (.int .i32 0) 1 4 Tryz.underlying111 iI.out ia ib ic rfl (by decide) v n xs _ rfl hs ⟨_, 0, none⟩ 1 _ [.int .i32 (65533)] rfl rfl hnw (by intro u hu; simp at hu; subst hu; rfl) (by omega) (by omega) (by decide) ?_; intro g2 cap2 w2 hs2 hz2; clear hs; skip; have HS := Lib.hid hs2; clear hs2) | (go_at_call 149; refine K32.ca (fun xw hs => ?_); (try simp only [World.size_alloc, World.size_setCell] at hs); have hs := hs.pick2 (r1 := .blk b (cs.set off (.string ⟨#[]⟩)) t) (r2 := .row _ 21 1 (n + 1) (xs ++ [.int .i32 65533])) K32.rm K32.rm; refine (step0 b off _ t _ _ _ c _ _ hs HE.out (by omega)).mono ?_; clear hs; rintro e w3 ⟨⟨v3, rfl, hs⟩⟩; have HS := Lib.hid hs; clear hs))
  go_ret
  refine ⟨⟨_, rfl, ?_⟩⟩
  have h2 := HS.out
  rw [List.set_set] at h2
  have e1 : n + 1 + (startU c).1.length = n + (0xfffd :: (startU c).1).length := by rw [List.length_cons]; omega
  have e2 : xs ++ [.int .i32 65533] ++ rvs (startU c).1 = xs ++ rvs (0xfffd :: (startU c).1) := by simp [rvs]
  rw [e1, e2] at h2
  exact h2.end2 .here .here K32.sub
end Go.Proofs.YtnjgnbdebkckfaaGreatDoor.P4
namespace Go.Proofs.YtnjgnbdebkckfaaGreatDoor.P5
set_option maxRecDepth 100000
open Go.RowKit K1 K3 K5 K11 K12 K14 K20 K21 K22 K25 K30 K31 M0 U1 U2 P1 P2 P3 P4
attribute [local go_sem] cell_pastA froz_pastA
theorem whole_w (s : List UInt8) (V : Int) (w : World) (hV : wholeF s = V) (hs : 2 ≤ s.length ∧ s.length ≤ 4) : Calls Tryz.prog 166 #[.string ⟨s.toArray⟩] w fun e w' => e = .returned (.int .i32 V) ∧ Below w.heap.size w w' := by
  subst hV
  match s, hs with
  | [a, b], _ => exact whole2 a b w
  | [a, b, c], _ => exact whole3 a b c w
  | [a, b, c, d], _ => exact whole4 a b c d w
  | [], h => exact absurd h.1 (by simp)
  | [_], h => exact absurd h.1 (by simp)
  | _ :: _ :: _ :: _ :: _ :: _, h => exact absurd h.2 (by simp)
set_option maxHeartbeats 4000000 in
theorem step_good (b off : Nat) (cs : List Value) (t : TypeId) (v : Value) (n : Nat) (xs : List Value) (x : UInt8) (l : List UInt8) (c : UInt8) (F : List Res) (w : World) (hs : Sep w (.blk b cs t :: .row v 21 1 n xs :: F)) (h0 : cs[off]? = some (.string ⟨(x :: l).toArray⟩)) (hn : n ≤ 10000) (hl2 : l.length ≤ 2) (hm : mayF (x :: l) c = true) :
    Calls Tryz.prog 149 #[.pointer (some ⟨b, off, none⟩), v, .int .u8 c.toNat] w (StepP b off cs t n xs F (if l.length + 2 < widthF x then ([], x :: (l ++ [c])) else ([wholeF (x :: (l ++ [c]))], []))) := by
  have hc8 := c.toNat_lt
  have hl10 : l.length ≤ 10 := by omega
  obtain ⟨hcR, hzR, hlR⟩ := hs.here (b := b) K32.rm
  have hcO := (hcR off).trans h0
  clear hcR
  have hoff : off < cs.length := (List.getElem?_eq_some_iff.1 h0).1
  have H2 := Lib.hid (List.getElem?_set_self hoff : (cs.set off (.string ⟨(x :: (l ++ [c])).toArray⟩))[off]? = some (.string ⟨(x :: (l ++ [c])).toArray⟩))
  have H0 := Lib.hid h0
  have HS := Lib.hid hs
  have HM := Lib.hid hm
  have HCV := Lib.hid (conv1 c)
  obtain ⟨WX, hWX⟩ : ∃ W, widthF x = W := ⟨_, rfl⟩
  have HWX := Lib.hid hWX
  obtain ⟨V, hV⟩ : ∃ V, wholeF (x :: (l ++ [c])) = V := ⟨_, rfl⟩
  rw [hWX, hV]
  have HV := Lib.hid (And.intro hV (by simp; omega : 2 ≤ (x :: (l ++ [c])).length ∧ (x :: (l ++ [c])).length ≤ 4))
  obtain ⟨i0, ih, ia, ib, ic⟩ := info_parts infoR
  have iI := Lib.hid ih
  clear ih
  clear hs h0 hm hWX hV
  by_cases hw : l.length + 2 < WX
  · rw [if_pos hw]
    go_enter Tryz.func149, Tryz.ntmps149
    go_wp2_with (first | (go_at_call 165; (with_reducible refine (may_w x l c true _ HM.out hl10).mono ?_); rintro e w1 ⟨rfl, hb⟩; have hs := HS.out.below hb; clear hb; (try clear hcR hzR hlR); obtain ⟨hcR, hzR, hlR⟩ := hs.here (b := b) K32.rm; (try clear hcO); have hcO := (hcR off).trans H0.out; clear hcR; have HS := Lib.hid hs; clear hs) | (refine K32.atW 13 (fun xw hs => ?_); (try simp only [World.size_alloc, World.size_setCell] at hs); (try clear hcR hzR hlR); obtain ⟨hcR, hzR, hlR⟩ := hs.here (b := b) K32.rm; (try clear hcO); have hcO := (hcR off).trans H0.out; clear hcR; have HS := Lib.hid hs; clear hs; refine K32.reg0 (w := xw) [5] [] 10 ?_; simp only [numbered, List.take_succ_cons, List.take_zero, List.drop_succ_cons, List.drop_zero, List.take_nil, List.drop_nil, Nat.reduceAdd]; (iterate 5 (refine K32.zd ?_; (try go_simp))); (refine wz_new (fun b => .slice (some ⟨b, 0, none⟩) 1 1) _ _ (by decide) (by decide) (by decide) C0e.es (growsB (by simp)) (by first | rfl | (go_simp; done)) (by intro b b' h; simp at h; omega) (by simp) (fun _ _ h => Below.size h) (fun bs hok wx hwx hL => by (have hwx : Below _ _ wx := hwx; have hcx := cellA hwx; have hfx := frozA hwx; have hzx := hwx.size; (try simp at hzx)); (try simp [go_sem, K32.ev, ↓IntWalk.iteOmega, *]); first | done | rfl) ?_; intro b5 hb5 F5 hF5; (try simp at hb5); (try go_simp)); (refine K32.zc ?_; apply Exists.intro; refine ⟨fun bs hok wx hwx hL => ?_, ?_⟩; (focus ((have hwx : Below _ _ wx := hwx; have hcx := cellA hwx; have hfx := frozA hwx; have hzx := hwx.size; (try simp at hzx)); (try (have hm5 := hF5 _ (hL (5, F5) (by simp) (by kernel_rfl)); have hk5 := cell_blk hm5)); have hcv := HCV.out wx b5 hm5; unfold zAt; (try simp [go_sem, K32.ev, ↓IntWalk.iteOmega, *]); (try simp (disch := omega) only [K32.unw]); (try simp only [zUpon]); (first | fail | exact ⟨rfl, Below.refl _ _⟩))); (try go_simp)); (iterate 3 (refine K32.zc ?_; apply Exists.intro; refine ⟨fun bs hok wx hwx hL => ?_, ?_⟩; (focus ((have hwx : Below _ _ wx := hwx; have hcx := cellA hwx; have hfx := frozA hwx; have hzx := hwx.size; (try simp at hzx)); (try (have hm5 := hF5 _ (hL (5, F5) (by simp) (by kernel_rfl)); have hk5 := cell_blk hm5)); unfold zAt; (try simp [go_sem, K32.ev, ↓IntWalk.iteOmega, *]); (try simp (disch := omega) only [K32.unw]); (try simp only [zUpon]); (first | fail | exact ⟨rfl, Below.refl _ _⟩))); (try go_simp))); refine wz_nil ?_; intro wq hbq hLq; have hm5 := hF5 _ (hLq.get 5 (by simp)); obtain ⟨hk5, hx5, hg5, hy5, hl5⟩ := blk hm5; clear hLq hF5; have hcwq := cellA hbq; have hfwq := frozA hbq; have hzwq := hbq.size; (try simp at hzwq); have hs := HS.out.addBlk hbq hm5 (by simpa using hb5) rfl; have hcO := (hs.here (b := b) K32.rm).1 off |>.trans H0.out; have hzO := (hs.here (b := b) K32.rm).2.1 off; have hlO := (hs.here (b := b) K32.rm).2.2; have HS := Lib.hid hs; clear hs hcwq hfwq hk5 hx5 hg5 hy5 hm5 hbq hb5 hzwq hl5))
    go_wp2_with (first | (go_at_call 165; (with_reducible refine (may_w x l c true _ HM.out hl10).mono ?_); rintro e w1 ⟨rfl, hb⟩; have hs := HS.out.below hb; clear hb; (try clear hcR hzR hlR); obtain ⟨hcR, hzR, hlR⟩ := hs.here (b := b) K32.rm; (try clear hcO); have hcO := (hcR off).trans H0.out; clear hcR; have HS := Lib.hid hs; clear hs) | (refine K32.atW 13 (fun xw hs => ?_); (try simp only [World.size_alloc, World.size_setCell] at hs); (try clear hcR hzR hlR); obtain ⟨hcR, hzR, hlR⟩ := hs.here (b := b) K32.rm; (try clear hcO); have hcO := (hcR off).trans H0.out; clear hcR; have HS := Lib.hid hs; clear hs; refine K32.reg0 (w := xw) [5] [] 10 ?_; simp only [numbered, List.take_succ_cons, List.take_zero, List.drop_succ_cons, List.drop_zero, List.take_nil, List.drop_nil, Nat.reduceAdd]; (iterate 5 (refine K32.zd ?_; (try go_simp))); (refine wz_new (fun b => .slice (some ⟨b, 0, none⟩) 1 1) _ _ (by decide) (by decide) (by decide) C0e.es (growsB (by simp)) (by first | rfl | (go_simp; done)) (by intro b b' h; simp at h; omega) (by simp) (fun _ _ h => Below.size h) (fun bs hok wx hwx hL => by (have hwx : Below _ _ wx := hwx; have hcx := cellA hwx; have hfx := frozA hwx; have hzx := hwx.size; (try simp at hzx)); (try simp [go_sem, K32.ev, ↓IntWalk.iteOmega, *]); first | done | rfl) ?_; intro b5 hb5 F5 hF5; (try simp at hb5); (try go_simp)); (refine K32.zc ?_; apply Exists.intro; refine ⟨fun bs hok wx hwx hL => ?_, ?_⟩; (focus ((have hwx : Below _ _ wx := hwx; have hcx := cellA hwx; have hfx := frozA hwx; have hzx := hwx.size; (try simp at hzx)); (try (have hm5 := hF5 _ (hL (5, F5) (by simp) (by kernel_rfl)); have hk5 := cell_blk hm5)); have hcv := HCV.out wx b5 hm5; unfold zAt; (try simp [go_sem, K32.ev, ↓IntWalk.iteOmega, *]); (try simp (disch := omega) only [K32.unw]); (try simp only [zUpon]); (first | fail | exact ⟨rfl, Below.refl _ _⟩))); (try go_simp)); (iterate 3 (refine K32.zc ?_; apply Exists.intro; refine ⟨fun bs hok wx hwx hL => ?_, ?_⟩; (focus ((have hwx : Below _ _ wx := hwx; have hcx := cellA hwx; have hfx := frozA hwx; have hzx := hwx.size; (try simp at hzx)); (try (have hm5 := hF5 _ (hL (5, F5) (by simp) (by kernel_rfl)); have hk5 := cell_blk hm5)); unfold zAt; (try simp [go_sem, K32.ev, ↓IntWalk.iteOmega, *]); (try simp (disch := omega) only [K32.unw]); (try simp only [zUpon]); (first | fail | exact ⟨rfl, Below.refl _ _⟩))); (try go_simp))); refine wz_nil ?_; intro wq hbq hLq; have hm5 := hF5 _ (hLq.get 5 (by simp)); obtain ⟨hk5, hx5, hg5, hy5, hl5⟩ := blk hm5; clear hLq hF5; have hcwq := cellA hbq; have hfwq := frozA hbq; have hzwq := hbq.size; (try simp at hzwq); have hs := HS.out.addBlk hbq hm5 (by simpa using hb5) rfl; have hcO := (hs.here (b := b) K32.rm).1 off |>.trans H0.out; have hzO := (hs.here (b := b) K32.rm).2.1 off; have hlO := (hs.here (b := b) K32.rm).2.2; have HS := Lib.hid hs; clear hs hcwq hfwq hk5 hx5 hg5 hy5 hm5 hbq hb5 hzwq hl5) | (refine K32.atW 14 (fun xw hs => ?_); (try simp only [World.size_alloc, World.size_setCell, app2] at hs); (try clear hcR hzR hlR); obtain ⟨hcR, hzR, hlR⟩ := hs.here (b := b) K32.rm; (try clear hcO); have hcO := (hcR off).trans H2.out; clear hcR; have HS := Lib.hid hs; clear hs; refine K32.reg0 (w := xw) [] [] 12 ?_; simp only [numbered, List.take_succ_cons, List.take_zero, List.drop_succ_cons, List.drop_zero, List.take_nil, List.drop_nil, Nat.reduceAdd]; (iterate 12 (refine K32.zc ?_; apply Exists.intro; refine ⟨fun bs hok wx hwx hL => ?_, ?_⟩; (focus ((have hwx : Below _ _ wx := hwx; have hcx := cellA hwx; have hfx := frozA hwx; have hzx := hwx.size; (try simp at hzx)); unfold zAt; (try simp [go_sem, K32.ev, ↓IntWalk.iteOmega, *]); (try simp (disch := omega) only [K32.unw]); (try simp only [zUpon]); (first | (rw [dif_pos (by omega)]; exact ⟨(rfl : Value.int IntKind.u8 (x.toNat : Int) = _), Below.refl _ _⟩) | (refine ⟨rfl, ?_⟩; go_at_call 164; refine (width_w x WX _ HWX.out).mono ?_; rintro e wy ⟨rfl, hby⟩; exact ⟨_, rfl, rfl, hby⟩) | exact ⟨rfl, Below.refl _ _⟩))); (try go_simp))); refine wz_nil ?_; intro wq hbq hLq; clear hLq ; have hcwq := cellA hbq; have hfwq := frozA hbq; have hzwq := hbq.size; (try simp at hzwq); have hs := HS.out.below hbq; (try clear hcR hzR hlR); obtain ⟨hcR, hzR, hlR⟩ := hs.here (b := b) K32.rm; (try clear hcO); have hcO := (hcR off).trans H2.out; clear hcR; have HS := Lib.hid hs; clear hs hcwq hfwq hzwq hbq))
    go_ret
    refine ⟨⟨_, rfl, ?_⟩⟩
    have h2 := HS.out.end2 (F := F) (s1 := .blk b (cs.set off (.string ⟨(x :: (l ++ [c])).toArray⟩)) t) (s2 := .row v 21 1 n xs) K32.rm K32.rm K32.sub
    simpa [rvs] using h2
  · rw [if_neg hw]
    go_enter Tryz.func149, Tryz.ntmps149
    go_wp2_with (first | (go_at_call 165; (with_reducible refine (may_w x l c true _ HM.out hl10).mono ?_); rintro e w1 ⟨rfl, hb⟩; have hs := HS.out.below hb; clear hb; (try clear hcR hzR hlR); obtain ⟨hcR, hzR, hlR⟩ := hs.here (b := b) K32.rm; (try clear hcO); have hcO := (hcR off).trans H0.out; clear hcR; have HS := Lib.hid hs; clear hs) | (refine K32.atW 13 (fun xw hs => ?_); (try simp only [World.size_alloc, World.size_setCell] at hs); (try clear hcR hzR hlR); obtain ⟨hcR, hzR, hlR⟩ := hs.here (b := b) K32.rm; (try clear hcO); have hcO := (hcR off).trans H0.out; clear hcR; have HS := Lib.hid hs; clear hs; refine K32.reg0 (w := xw) [5] [] 10 ?_; simp only [numbered, List.take_succ_cons, List.take_zero, List.drop_succ_cons, List.drop_zero, List.take_nil, List.drop_nil, Nat.reduceAdd]; (iterate 5 (refine K32.zd ?_; (try go_simp))); (refine wz_new (fun b => .slice (some ⟨b, 0, none⟩) 1 1) _ _ (by decide) (by decide) (by decide) C0e.es (growsB (by simp)) (by first | rfl | (go_simp; done)) (by intro b b' h; simp at h; omega) (by simp) (fun _ _ h => Below.size h) (fun bs hok wx hwx hL => by (have hwx : Below _ _ wx := hwx; have hcx := cellA hwx; have hfx := frozA hwx; have hzx := hwx.size; (try simp at hzx)); (try simp [go_sem, K32.ev, ↓IntWalk.iteOmega, *]); first | done | rfl) ?_; intro b5 hb5 F5 hF5; (try simp at hb5); (try go_simp)); (refine K32.zc ?_; apply Exists.intro; refine ⟨fun bs hok wx hwx hL => ?_, ?_⟩; (focus ((have hwx : Below _ _ wx := hwx; have hcx := cellA hwx; have hfx := frozA hwx; have hzx := hwx.size; (try simp at hzx)); (try (have hm5 := hF5 _ (hL (5, F5) (by simp) (by kernel_rfl)); have hk5 := cell_blk hm5)); have hcv := HCV.out wx b5 hm5; unfold zAt; (try simp [go_sem, K32.ev, ↓IntWalk.iteOmega, *]); (try simp (disch := omega) only [K32.unw]); (try simp only [zUpon]); (first | fail | exact ⟨rfl, Below.refl _ _⟩))); (try go_simp)); (iterate 3 (refine K32.zc ?_; apply Exists.intro; refine ⟨fun bs hok wx hwx hL => ?_, ?_⟩; (focus ((have hwx : Below _ _ wx := hwx; have hcx := cellA hwx; have hfx := frozA hwx; have hzx := hwx.size; (try simp at hzx)); (try (have hm5 := hF5 _ (hL (5, F5) (by simp) (by kernel_rfl)); have hk5 := cell_blk hm5)); unfold zAt; (try simp [go_sem, K32.ev, ↓IntWalk.iteOmega, *]); (try simp (disch := omega) only [K32.unw]); (try simp only [zUpon]); (first | fail | exact ⟨rfl, Below.refl _ _⟩))); (try go_simp))); refine wz_nil ?_; intro wq hbq hLq; have hm5 := hF5 _ (hLq.get 5 (by simp)); obtain ⟨hk5, hx5, hg5, hy5, hl5⟩ := blk hm5; clear hLq hF5; have hcwq := cellA hbq; have hfwq := frozA hbq; have hzwq := hbq.size; (try simp at hzwq); have hs := HS.out.addBlk hbq hm5 (by simpa using hb5) rfl; have hcO := (hs.here (b := b) K32.rm).1 off |>.trans H0.out; have hzO := (hs.here (b := b) K32.rm).2.1 off; have hlO := (hs.here (b := b) K32.rm).2.2; have HS := Lib.hid hs; clear hs hcwq hfwq hk5 hx5 hg5 hy5 hm5 hbq hb5 hzwq hl5) | (refine K32.atW 14 (fun xw hs => ?_); (try simp only [World.size_alloc, World.size_setCell, app2] at hs); (try clear hcR hzR hlR); obtain ⟨hcR, hzR, hlR⟩ := hs.here (b := b) K32.rm; (try clear hcO); have hcO := (hcR off).trans H2.out; clear hcR; have HS := Lib.hid hs; clear hs; refine K32.reg0 (w := xw) [] [] 12 ?_; simp only [numbered, List.take_succ_cons, List.take_zero, List.drop_succ_cons, List.drop_zero, List.take_nil, List.drop_nil, Nat.reduceAdd]; (iterate 12 (refine K32.zc ?_; apply Exists.intro; refine ⟨fun bs hok wx hwx hL => ?_, ?_⟩; (focus ((have hwx : Below _ _ wx := hwx; have hcx := cellA hwx; have hfx := frozA hwx; have hzx := hwx.size; (try simp at hzx)); unfold zAt; (try simp [go_sem, K32.ev, ↓IntWalk.iteOmega, *]); (try simp (disch := omega) only [K32.unw]); (try simp only [zUpon]); (first | (rw [dif_pos (by omega)]; exact ⟨(rfl : Value.int IntKind.u8 (x.toNat : Int) = _), Below.refl _ _⟩) | (refine ⟨rfl, ?_⟩; go_at_call 164; refine (width_w x WX _ HWX.out).mono ?_; rintro e wy ⟨rfl, hby⟩; exact ⟨_, rfl, rfl, hby⟩) | exact ⟨rfl, Below.refl _ _⟩))); (try go_simp))); refine wz_nil ?_; intro wq hbq hLq; clear hLq ; have hcwq := cellA hbq; have hfwq := frozA hbq; have hzwq := hbq.size; (try simp at hzwq); have hs := HS.out.below hbq; (try clear hcR hzR hlR); obtain ⟨hcR, hzR, hlR⟩ := hs.here (b := b) K32.rm; (try clear hcO); have hcO := (hcR off).trans H2.out; clear hcR; have HS := Lib.hid hs; clear hs hcwq hfwq hzwq hbq) | (go_at_call 166; (with_reducible refine (whole_w (x :: (l ++ [c])) V _ HV.out.1 HV.out.2).mono ?_); rintro e w1 ⟨rfl, hb⟩; have hs := HS.out.below hb; clear hb; (try clear hcR hzR hlR); obtain ⟨hcR, hzR, hlR⟩ := hs.here (b := b) K32.rm; (try clear hcO); have hcO := (hcR off).trans H2.out; clear hcR; have HS := Lib.hid hs; clear hs) | (refine K30.atOp (d := 81) ?_; at_builtin; (with_reducible apply K30.list_at); exact K32.fnd; intro xw hs; (try simp only [World.size_alloc, World.size_setCell, app2] at hs); have hnw := news_of1 (hs.here (cs := [.int .i32 ((V : Int))]) (t := 21) K32.rm).1; have hs := hs.pick (r1 := .row v 21 1 n xs) K32.rm; refine wpList_appS rfl (.tmp 74) (.tmp 80) 111 rfl 21 i0 (.int .i32 0) 1 4 Tryz.underlying111 iI.out ia ib ic rfl (by decide) v n xs _ rfl hs ⟨_, 0, none⟩ 1 _ [.int .i32 ((V : Int))] rfl rfl hnw (by intro u hu; simp at hu; subst hu; rfl) (by omega) (by omega) (by decide) ?_; intro g2 cap2 w2 hs2 hz2; clear hs; (try clear hcR hzR hlR); obtain ⟨hcR, hzR, hlR⟩ := hs2.here (b := b) K32.rm; (try clear hcO); have hcO := (hcR off).trans H2.out; clear hcR; have HS := Lib.hid hs2; clear hs2))
    go_ret
    refine ⟨⟨_, rfl, ?_⟩⟩
    (with_reducible apply K30.sep_end)
    exact K32.fnd
    intro hs
    rw [List.set_set] at hs
    exact hs.end2 K32.rm .here K32.sub
end Go.Proofs.YtnjgnbdebkckfaaGreatDoor.P5
namespace Go.Proofs.YtnjgnbdebkckfaaGreatDoor.P6
set_option maxRecDepth 100000
open Go.RowKit K1 K3 K5 K11 K12 K14 K20 K21 K22 K25 K30 K31 M0 U1 U2 P1 P2 P3 P4 P5
attribute [local go_sem] cell_pastA froz_pastA
/-- the half of a rune: what a reader may hold -/
def HalfOk : List UInt8 → Prop
  | [] => True
  | x :: l => l.length + 1 < widthF x
theorem width4 (x : UInt8) : widthF x ≤ 4 := by unfold widthF; split <;> (try split) <;> (try split) <;> (try split) <;> omega
theorem HalfOk.len {h : List UInt8} (k : HalfOk h) : h.length ≤ 3 := by
  cases h with
  | nil => simp
  | cons x l => have := width4 x; unfold HalfOk at k; simp; omega
theorem start_ok (c : UInt8) : HalfOk (startU c).2 := by
  unfold startU
  split
  · exact trivial
  · split
    · exact trivial
    · show (0 + 1 : Nat) < widthF c
      omega
theorem stepU_ok (h : List UInt8) (c : UInt8) (k : HalfOk h) : HalfOk (stepU h c).2 := by
  cases h with
  | nil => exact start_ok c
  | cons x l =>
    unfold stepU
    rw [if_neg (by simp)]
    split
    · exact start_ok c
    · split
      · rename_i h2
        simp at h2
        show (l ++ [c]).length + 1 < widthF x
        simp
        omega
      · exact trivial
theorem step_any (b off : Nat) (cs : List Value) (t : TypeId) (v : Value) (n : Nat) (xs : List Value) (h : List UInt8) (c : UInt8) (F : List Res) (w : World) (hs : Sep w (.blk b cs t :: .row v 21 1 n xs :: F)) (h0 : cs[off]? = some (.string ⟨h.toArray⟩)) (ok : HalfOk h) (hn : n ≤ 10000) :
    Calls Tryz.prog 149 #[.pointer (some ⟨b, off, none⟩), v, .int .u8 c.toNat] w (StepP b off cs t n xs F (stepU h c)) := by
  cases h with
  | nil => exact step0 b off cs t v n xs c F w hs h0 (by omega)
  | cons x l =>
    have hl := ok.len
    rw [List.length_cons] at hl
    unfold stepU
    rw [if_neg (by simp)]
    by_cases hm : mayF (x :: l) c = false
    · rw [if_pos hm]
      exact step_bad b off cs t v n xs x l c F w hs h0 hn (by omega) hm
    · rw [if_neg hm]
      have e := step_good b off cs t v n xs x l c F w hs h0 hn (by omega) (by simpa using hm)
      have e1 : ((x :: l) ++ [c]).length = l.length + 2 := by simp
      rw [e1]
      exact e
theorem half_any (b off : Nat) (h : List UInt8) (w : World) (hc : w.cell? ⟨b, off, none⟩ = some (.string ⟨h.toArray⟩)) (hb : b < w.heap.size) (h3 : h.length ≤ 3) :
    Calls Tryz.prog 130 #[.pointer (some ⟨b, off, none⟩)] w fun e w' => e = .returned (.int .i64 h.length) ∧ Below w.heap.size w w' := by
  go_enter Tryz.func130, Tryz.ntmps130
  go_wp2_with fail
  go_ret
  refine ⟨by go_num, ?_⟩
  repeat' (first | with_reducible assumption | with_reducible exact Below.refl _ _ | with_reducible apply Below.alloc | with_reducible apply Below.setCell | with_reducible apply Below.drew | (refine Below.trans ?_ (Below.mono (by with_reducible assumption) ?_)) | omega | (simp; omega) | (simp; done))
structure FlushP (b off : Nat) (cs : List Value) (t : TypeId) (F : List Res) (h : List UInt8) (e : Ending) (w' : World) : Prop where
  out : ∃ v, e = .returned v ∧ Sep w' (.blk b (cs.set off (.string ⟨#[]⟩)) t :: .row v 21 1 (flushU h).length (rvs (flushU h)) :: F)
set_option maxHeartbeats 4000000 in
theorem flush_any (b off : Nat) (cs : List Value) (t : TypeId) (h : List UInt8) (F : List Res) (w : World) (hs : Sep w (.blk b cs t :: F)) (h0 : cs[off]? = some (.string ⟨h.toArray⟩)) (ok : HalfOk h) :
    Calls Tryz.prog 92 #[.pointer (some ⟨b, off, none⟩)] w (FlushP b off cs t F h) := by
  have h3 := ok.len
  obtain ⟨hcR, hzO, hlO⟩ := hs.here (b := b) K32.rm
  have hcO := (hcR off).trans h0
  have hzO := hzO off
  clear hcR
  have H0 := Lib.hid h0
  have HS := Lib.hid hs
  clear hs h0
  by_cases hh : h = []
  · subst hh
    go_enter Tryz.func92, Tryz.ntmps92
    go_wp2_with (first | (go_at_call 130; (with_reducible refine (half_any b off _ _ hcO hlO h3).mono ?_); rintro e w1 ⟨rfl, hb⟩; have hs := HS.out.below hb; clear hb; (try clear hcR hzR hlR); obtain ⟨hcR, hzR, hlR⟩ := hs.here (b := b) K32.rm; (try clear hcO); have hcO := (hcR off).trans H0.out; clear hcR; have HS := Lib.hid hs; clear hs))
    go_ret
    refine ⟨⟨_, rfl, ?_⟩⟩
    rw [set_same H0.out]
    exact (HS.out.nilRow (t := 21) (s := 1)).end2 K32.rm K32.rm K32.sub
  · have hl : h.length ≠ 0 := by simpa using hh
    go_enter Tryz.func92, Tryz.ntmps92
    go_wp2_with (first | (go_at_call 130; (with_reducible refine (half_any b off _ _ hcO hlO h3).mono ?_); rintro e w1 ⟨rfl, hb⟩; have hs := HS.out.below hb; clear hb; (try clear hcR hzR hlR); obtain ⟨hcR, hzR, hlR⟩ := hs.here (b := b) K32.rm; (try clear hcO); have hcO := (hcR off).trans H0.out; clear hcR; have HS := Lib.hid hs; clear hs))
    go_ret
    refine ⟨⟨_, rfl, ?_⟩⟩
    have e1 : flushU h = [65533] := by unfold flushU; rw [if_neg hh]
    rw [e1]
    (with_reducible apply K30.sep_end)
    exact K32.fnd
    intro hs
    (try simp only [World.size_alloc, World.size_setCell] at hs)
    have hs := hs.asRow (n := 1) (c := 1) (s := 1) (xs := [.int .i32 65533]) rfl (by decide) (by decide) rfl
    exact hs.end2 (.there .here) .here K32.sub
structure FeedI (b off g : Nat) (cs : List Value) (t : TypeId) (F : List Res) (h : List UInt8) (c : UInt8) (v i : Value) (w' : World) : Prop where
  out : (i = .int .i64 0 ∧ v = .slice none 0 0 ∧ Sep w' (.blk g [.string ⟨#[c]⟩] 9 :: .blk b cs t :: F)) ∨ (i = .int .i64 1 ∧ Sep w' (.blk b (cs.set off (.string ⟨(stepU h c).2.toArray⟩)) t :: .row v 21 1 (stepU h c).1.length (rvs (stepU h c).1) :: F))
set_option maxHeartbeats 4000000 in
theorem feed_any (b off g : Nat) (cs : List Value) (t : TypeId) (h : List UInt8) (c : UInt8) (F : List Res) (w : World) (hs : Sep w (.blk g [.string ⟨#[c]⟩] 9 :: .blk b cs t :: F)) (h0 : cs[off]? = some (.string ⟨h.toArray⟩)) (ok : HalfOk h) :
    Calls Tryz.prog 131 #[.pointer (some ⟨b, off, none⟩), .slice (some ⟨g, 0, none⟩) 1 1] w (StepP b off cs t 0 [] F (stepU h c)) := by
  have H0 := Lib.hid h0
  have HS := Lib.hid hs
  have ok := Lib.hid ok
  clear hs h0
  have e0 : (0 : Nat) + (stepU h c).1.length = (stepU h c).1.length := Nat.zero_add _
  go_enter Tryz.func131, Tryz.ntmps131
  go_wp2_with fail
  go_loopw [5, 13] (fun v i wr => FeedI b off g cs t F h c v i wr) (fun _ i _ => 1 - (intOf i).toNat)
  case atStart => exact ⟨.inl ⟨rfl, rfl, HS.out⟩⟩
  case round =>
    clear HS
    obtain ⟨⟨rfl, rfl, hs⟩ | ⟨rfl, hs⟩⟩ := hrel
    · obtain ⟨hcG, hzG, hlG⟩ := hs.here (b := g) K32.rm
      have hcG := hcG 0
      have HS := Lib.hid hs
      clear hs
      go_wp2_with fail
      go_loopw [5, 19] (fun v i wr => FeedI b off g cs t F h c v i wr) (fun _ i _ => 1 - (intOf i).toNat)
      case atStart => exact ⟨.inl ⟨rfl, rfl, HS.out⟩⟩
      case round =>
        clear HS
        obtain ⟨⟨rfl, rfl, hs⟩ | ⟨rfl, hs⟩⟩ := hrel
        · have HS := Lib.hid (hs.nilRow (t := 21) (s := 1))
          clear hs
          have v : Value := .slice none 0 0
          go_wp2_with (first | (go_at_call 149; have hs := HS.out.pick2 (r1 := .blk b cs t) (r2 := .row (.slice none 0 0) 21 1 0 []) K32.rm K32.rm; refine (step_any b off cs t (.slice none 0 0) 0 [] h c _ _ hs H0.out ok.out (by omega)).mono ?_; clear hs; rintro e w3 ⟨⟨v3, rfl, hs⟩⟩; have HS := Lib.hid hs; clear hs))
          go_roundw
          case rel =>
            have h2 := HS.out
            rw [e0, List.nil_append] at h2
            exact ⟨.inr ⟨by go_num, h2.end2 K32.rm K32.rm K32.sub⟩⟩
          case measure => simp [intOf]
        · have HS := Lib.hid hs
          clear hs
          go_wp2_with fail
          go_roundw
          case rel => exact ⟨.inr ⟨by go_num, HS.out⟩⟩
          case measure => simp [intOf]
    · have HS := Lib.hid hs
      clear hs
      go_wp2_with fail
      go_ret
      refine ⟨⟨_, rfl, ?_⟩⟩
      rw [e0]
      exact HS.out
end Go.Proofs.YtnjgnbdebkckfaaGreatDoor.P6
