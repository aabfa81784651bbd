/- the document's Reader: All, Plain -/
import Derived.Test.YtemdhbjcdibpfaaDoorW3
namespace Go.Proofs.YtemdhbjcdibpfaaDoor.W4
set_option linter.unusedVariables false
set_option linter.unusedSimpArgs false
set_option linter.unnecessarySimpa false
set_option maxRecDepth 100000
open Go.RowKit K1 K3 K5 K11 K12 K14 K20 K21 K22 W0 W1 W2 W3 N0 N1 N2

attribute [local go_sem] cell_pastA froz_pastA
/-- a token more -/
def mrg (m : List Tok) (t : Tok) : List Tok :=
  match m.getLast? with
  | some q => if t.kind = 0 ∧ q.kind = 0 then m.dropLast ++ [{ q with text := q.text ++ t.text }] else m ++ [t]
  | none => m ++ [t]
theorem mrg_join (m : List Tok) (q t : Tok) (h1 : t.kind = 0) (h2 : q.kind = 0) : mrg (m ++ [q]) t = m ++ [{ q with text := q.text ++ t.text }] := by
  unfold mrg
  simp [h1, h2]
theorem mrg_apart (m : List Tok) (q t : Tok) (h : ¬(t.kind = 0 ∧ q.kind = 0)) : mrg (m ++ [q]) t = m ++ [q] ++ [t] := by
  unfold mrg
  simp [h]
theorem mrg_len (m : List Tok) (t : Tok) : (mrg m t).length ≤ m.length + 1 := by
  rcases List.eq_nil_or_concat m with rfl | ⟨m0, q, rfl⟩
  · simp [mrg]
  · rw [List.concat_eq_append]
    by_cases h : t.kind = 0 ∧ q.kind = 0
    · rw [mrg_join _ _ _ h.1 h.2]; simp
    · rw [mrg_apart _ _ _ h]; simp
def tbytes (l : List Tok) : Nat := (l.map fun t => t.text.length).sum
theorem mrg_bytes (m : List Tok) (t : Tok) : tbytes (mrg m t) = tbytes m + t.text.length := by
  rcases List.eq_nil_or_concat m with rfl | ⟨m0, q, rfl⟩
  · simp [mrg, tbytes]
  · rw [List.concat_eq_append]
    by_cases h : t.kind = 0 ∧ q.kind = 0
    · rw [mrg_join _ _ _ h.1 h.2]; simp [tbytes]; omega
    · rw [mrg_apart _ _ _ h]; simp [tbytes]; omega
theorem mrg_other (m : List Tok) (t : Tok) (h : t.kind ≠ 0) : mrg m t = m ++ [t] := by
  rcases List.eq_nil_or_concat m with rfl | ⟨m0, q, rfl⟩
  · rfl
  · rw [List.concat_eq_append]
    exact mrg_apart _ _ _ (fun hh => h hh.1)
/-- Data's tbytes -/
def dtx (l : List Tok) : List UInt8 := l.flatMap fun t => if t.kind = 0 then t.text else []
theorem dtx_app (a b : List Tok) : dtx (a ++ b) = dtx a ++ dtx b := List.flatMap_append
theorem mrg_dtx (m : List Tok) (t : Tok) : dtx (mrg m t) = dtx m ++ dtx [t] := by
  rcases List.eq_nil_or_concat m with rfl | ⟨m0, q, rfl⟩
  · simp [mrg, dtx]
  · rw [List.concat_eq_append]
    by_cases h : t.kind = 0 ∧ q.kind = 0
    · rw [mrg_join _ _ _ h.1 h.2]; simp [dtx, h.1, h.2]
    · rw [mrg_apart _ _ _ h, dtx_app]
theorem bytes_mem {t : Tok} : ∀ {l : List Tok}, t ∈ l → t.text.length ≤ tbytes l
  | x :: l, h => by
    rw [List.mem_cons] at h
    rcases h with rfl | h
    · simp [tbytes]
    · have := bytes_mem h; simp [tbytes] at this ⊢; omega
theorem app_arr (a b : List UInt8) : (⟨(a ++ b).toArray⟩ : ByteArray) = ⟨a.toArray⟩ ++ ⟨b.toArray⟩ := by
  apply ByteArray.ext
  simp
theorem tok_len (m : List Tok) : (m.flatMap tokCells).length = m.length * 4 := by
  induction m with
  | nil => rfl
  | cons t m ih => simp only [List.flatMap_cons, List.length_append, ih, List.length_cons]; simp [tokCells]; omega
theorem set_text (m : List Tok) (q : Tok) (x : List UInt8) : (((m ++ [q]).flatMap tokCells).set (m.length * 4 + 3) (.string ⟨x.toArray⟩)) = (m ++ [{ q with text := x }]).flatMap tokCells := by
  have hl := tok_len m
  rw [List.flatMap_append, List.flatMap_append, List.set_append_right _ _ (by omega), hl]
  simp [tokCells]
theorem tok_last (m : List Tok) (q : Tok) : ((m ++ [q]).flatMap tokCells)[m.length * 4]? = some (.int .i64 q.kind) ∧ ((m ++ [q]).flatMap tokCells)[m.length * 4 + 3]? = some (.string ⟨q.text.toArray⟩) := by
  have hl := tok_len m
  rw [List.flatMap_append]
  exact ⟨by rw [List.getElem?_append_right (by omega), hl]; simp [tokCells], by rw [List.getElem?_append_right (by omega), hl]; simp [tokCells]⟩
/-- all tokens of tbytes -/
def allF (x : Dr × List Tok) (c : UInt8) : Dr × List Tok := ((dfeed x.1 c).1, (dfeed x.1 c).2.foldl mrg x.2)
structure Ok (k : Nat) (x : Dr × List Tok) : Prop where
  body : x.1.body.length ≤ 40
  len : x.2.length ≤ k
  bytes : tbytes x.2 ≤ 40 * k
theorem Ok.step {k : Nat} {x : Dr × List Tok} (h : Ok k x) (c : UInt8) : Ok (k + 1) (allF x c) := by
  obtain ⟨h1, h2, h3⟩ := dfeed_ok x.1 c h.body
  have hm := h.len
  have hb := h.bytes
  unfold allF
  generalize (dfeed x.1 c).1 = d at *
  generalize (dfeed x.1 c).2 = ts at *
  rcases ts with _ | ⟨t, _ | ⟨t', ts⟩⟩
  · exact ⟨h1, by simp; omega, by simp; omega⟩
  · have := mrg_len x.2 t
    have := mrg_bytes x.2 t
    have := h3 t (by simp)
    exact ⟨h1, by simp; omega, by simp; omega⟩
  · simp at h2
theorem take_snoc' (s : ByteArray) (k : Nat) (h : k < s.size) : s.data.toList.take (k + 1) = s.data.toList.take k ++ [s[k]] := by
  rw [List.take_succ_eq_append_getElem (by simpa using h)]; rfl
structure AllP (F : List Res) (b : Nat) (x : Dr × List Tok) (e : Ending) (w' : World) : Prop where
  out : ∃ v cv bv, e = .returned v ∧ Sep w' (.row v 61 4 x.2.length (x.2.flatMap tokCells) :: (drL b cv bv x.1 ++ F))
theorem Sep.row_froz {w : World} {L : List Res} (h : Sep w L) (n : Nat) {g m c s : Nat} {t : TypeId} {xs : List Value} (hr : L[n]? = some (.row (.slice (some ⟨g, 0, none⟩) m c) t s m xs)) : ∀ j, w.frozen? ⟨g, j, none⟩ = false := by
  rcases (h.rowAt n hr).2 with ⟨hh, _⟩ | ⟨g', cap, cur, hh, hb, hg, hnc, hcm, hcs, ht⟩
  · cases hh
  · simp only [Value.slice.injEq, Option.some.injEq, Addr.mk.injEq, and_true, true_and] at hh
    obtain ⟨rfl, rfl⟩ := hh
    exact froz_blk hg
set_option maxHeartbeats 16000000 in
theorem all_sep (b : Nat) (cv bv : Value) (d0 : Dr) (s : ByteArray) (F : List Res) (w : World) (h : Sep w (drL b cv bv d0 ++ F)) (hb40 : d0.body.length ≤ 40) (hs : s.size ≤ 100000) : Calls Tryd.prog 24 #[.pointer (some ⟨b, 0, none⟩), .string s] w (AllP F b (s.data.toList.foldl allF (d0, []))) := by
  have HS0 := Lib.hid (h.nilRow (t := 61) (s := 4))
  clear h
  obtain ⟨i0, ih, ia, ib, ic⟩ := info_parts infoT
  have iI := Lib.hid ih
  clear ih
  go_enter Tryd.func24, Tryd.ntmps24
  go_wp2_with fail
  go_loopw [5, 6] (fun o i wr => ∃ k : Nat, k ≤ s.size ∧ i = .int .i64 k ∧ ∃ cv bv d m, (d, m) = (s.data.toList.take k).foldl allF (d0, []) ∧ Ok k (d, m) ∧ Sep wr (.row o 61 4 m.length (m.flatMap tokCells) :: (drL b cv bv d ++ F))) (fun _ i _ => s.size - (intOf i).toNat)
  case atStart => exact ⟨0, by omega, rfl, cv, bv, d0, [], rfl, ⟨hb40, by simp, by simp [tbytes]⟩, HS0.out⟩
  case round =>
    obtain ⟨k, hk, rfl, cv, bv, d, m, hdm, hok, hS⟩ := hrel
    have hb40 := hok.body
    have hml := hok.len
    have hmb := hok.bytes
    simp only at hb40 hml hmb
    have HS := Lib.hid hS
    have HDM := Lib.hid hdm
    have HOK := Lib.hid hok
    obtain ⟨oa, oc, rfl, -⟩ := own_slice (hS.rowAt 0 rfl)
    clear hS hdm hok HS0
    by_cases hlt : k < s.size
    · have HST := Lib.hid (take_snoc' s k hlt)
      have HDF := Lib.hid (And.intro (dfeed_ok d s[k] hb40) (HOK.out.step s[k]))
      have HB3 := Lib.hid (show Sep wr (drL b cv bv d ++ (.row (.slice oa m.length oc) 61 4 m.length (m.flatMap tokCells) :: F)) by have h := HS.out.back 3; simpa [drL, ins] using h)
      go_wp2_with (go_at_call 36; refine (feed_sep b cv bv d s[k] _ _ HB3.out hb40).mono ?_; rintro e w1 hs1; obtain ⟨⟨v1, cv1, bv1, rfl, hs1⟩⟩ := hs1; have HS1 := Lib.hid hs1; clear hs1)
      have hs1 := HS1.out
      obtain ⟨ts, hts⟩ : ∃ ts, ts = (dfeed d s[k]).2 := ⟨_, rfl⟩
      obtain ⟨d1, hd1⟩ : ∃ d1, d1 = (dfeed d s[k]).1 := ⟨_, rfl⟩
      have hdf := HDF.out
      have hal : allF (d, m) s[k] = (d1, ts.foldl mrg m) := by rw [hts, hd1]; rfl
      rw [← hts, ← hd1, hal] at hdf
      rw [← hts, ← hd1] at hs1
      obtain ⟨⟨h1, hts1, hts2⟩, hok1⟩ := hdf
      obtain ⟨va, vc, rfl, -⟩ := own_slice (hs1.rowAt 0 rfl)
      have HS2 := Lib.hid (hs1.front 4 rfl)
      have HOK1 := Lib.hid hok1
      have HAL := Lib.hid hal
      have HT2 := Lib.hid hts2
      clear hs1 HS1 HS hok1 hal hts hd1 HDF hts2 h1
      go_loopw [5, 8] (fun o i wx => ∃ j : Nat, j ≤ ts.length ∧ i = .int .i64 j ∧ Sep wx (.row o 61 4 ((ts.take j).foldl mrg m).length (((ts.take j).foldl mrg m).flatMap tokCells) :: .row (.slice va ts.length vc) 61 4 ts.length (ts.flatMap tokCells) :: (drL b cv1 bv1 d1 ++ F))) (fun _ i _ => ts.length - (intOf i).toNat)
      case atStart => exact ⟨0, by omega, rfl, HS2.out⟩
      case round =>
        obtain ⟨j, hj, rfl, hX⟩ := hrel
        have HX := Lib.hid hX
        clear hX HS2
        by_cases hjl : j < ts.length
        · obtain rfl : j = 0 := by omega
          obtain ⟨t, rfl⟩ : ∃ t, ts = [t] := by
            rcases ts with _ | ⟨t, _ | ⟨t', ts⟩⟩
            · simp at hjl
            · exact ⟨t, rfl⟩
            · simp at hts1
          obtain ⟨g1, cp1, hf1, -, hg1⟩ := (HX.out.rowAt 1 rfl).form (by simp)
          simp only [Value.slice.injEq, true_and] at hf1
          obtain ⟨rfl, rfl⟩ := hf1
          have a0 := own_at (HX.out.rowAt 1 rfl) (j := 0) (u := .int .i64 t.kind) rfl
          have a1 := own_at (HX.out.rowAt 1 rfl) (j := 1) (u := .int .i64 t.cmd) rfl
          have a2 := own_at (HX.out.rowAt 1 rfl) (j := 2) (u := .int .i64 t.opt) rfl
          have a3 := own_at (HX.out.rowAt 1 rfl) (j := 3) (u := .string ⟨t.text.toArray⟩) rfl
          have htl := HT2.out t (by simp)
          have hX := HX.out
          simp only [List.take_zero, List.foldl_nil] at hX
          obtain ⟨ob, od, rfl, -⟩ := own_slice (hX.rowAt 0 rfl)
          have HX := Lib.hid hX
          clear hX
          by_cases htk : t.kind = 0
          · have hb0 : ((t.kind : Int) == 0) = true := by simp [htk]
            rcases List.eq_nil_or_concat m with hm0 | ⟨m0, q, hmq⟩
            · have hmr : mrg m t = m ++ [t] := by rw [hm0]; rfl
              have HMR := Lib.hid hmr
              have hneg : (m.length : Int) - 1 = -1 := by rw [hm0]; rfl
              clear hmr hm0
              go_wp2_with (at_builtin; refine wpList_appS rfl (.tmp 63) (.tmp 68) 55 rfl 61 i0 (.agg #[.int .i64 0, .int .i64 0, .int .i64 0, .string ByteArray.empty]) 4 40 Tryd.underlying55 iI.out ia ib ic rfl (by decide) _ _ _ _ rfl (Sep.alloc0 HX.out) ⟨_, 0, none⟩ 1 _ _ rfl (by rfl) (newsB _ _ _ _ (by first | rfl | simp)) (by simp [Value.oneCell']) (by first | decide | omega) (by first | omega | (simp; done) | (simp; omega)) (by decide) ?_; intro g2 cap2 w2 hs2 hz2; have HS2 := Lib.hid hs2; clear hs2)
              go_roundw
              case rel => exact ⟨1, by simp, by go_num, by simpa [HMR.out, tokCells, htk] using HS2.out⟩
              case measure => simp [intOf]
            · rw [List.concat_eq_append] at hmq
              subst hmq
              obtain ⟨g2, cp2, hf2, -, hg2⟩ := (HX.out.rowAt 0 rfl).form (by simp)
              simp only [Value.slice.injEq, true_and] at hf2
              obtain ⟨rfl, rfl⟩ := hf2
              obtain ⟨q0, q3⟩ := tok_last m0 q
              have e0 := own_at (HX.out.rowAt 0 rfl) q0
              have e3 := own_at (HX.out.rowAt 0 rfl) q3
              have hmm : (m0 ++ [q]).length = m0.length + 1 := by simp
              have hqm : q.text.length ≤ 4000000 := by
                have := bytes_mem (show q ∈ m0 ++ [q] by simp); omega
              clear q0 q3
              by_cases hqk : q.kind = 0
              · have hb1 : ((q.kind : Int) == 0) = true := by simp [hqk]
                have hfz := Sep.row_froz HX.out 0 rfl
                have HMR := Lib.hid (mrg_join m0 q t htk hqk)
                go_wp2_with fail
                refine wp_region_quiet0 (w := _) [] [] 15 (by kernel_rfl) (by kernel_rfl) (fun _ _ dx _ _ hx => by cases dx <;> exact hx) ?_
                simp only [numbered, List.take_succ_cons, List.take_zero, List.drop_succ_cons, List.drop_zero, List.take_nil, List.drop_nil, Nat.reduceAdd]
                (refine wz_do (by decide) (by decide) C0e.es (growsB (by simp)) ?_ ?_; (focus (first | rfl | (go_simp; done))); apply Exists.intro; refine ⟨fun bs hok wx hwx hL => ?_, ?_⟩; (focus ((have hwx : Below _ _ wx := hwx; have hcx := cellA hwx; have hfx := frozA hwx; have hzx := hwx.size; (try simp at hzx)); unfold zAt; (try simp [go_sem, BigFrame.eval_const, BigFrame.eval_global, BigFrame.eval_func, ↓IntWalk.iteOmega, *]); (try simp only [zUpon]); (first | exact ⟨rfl, Below.refl _ _⟩ | fail))); (try go_simp))
                (refine wz_do (by decide) (by decide) C0e.es (growsB (by simp)) ?_ ?_; (focus (first | rfl | (go_simp; done))); apply Exists.intro; refine ⟨fun bs hok wx hwx hL => ?_, ?_⟩; (focus ((have hwx : Below _ _ wx := hwx; have hcx := cellA hwx; have hfx := frozA hwx; have hzx := hwx.size; (try simp at hzx)); unfold zAt; (try simp [go_sem, BigFrame.eval_const, BigFrame.eval_global, BigFrame.eval_func, ↓IntWalk.iteOmega, *]); (try simp only [zUpon]); (first | exact ⟨rfl, Below.refl _ _⟩ | fail))); (try go_simp))
                (refine wz_do (by decide) (by decide) C0e.es (growsB (by simp)) ?_ ?_; (focus (first | rfl | (go_simp; done))); apply Exists.intro; refine ⟨fun bs hok wx hwx hL => ?_, ?_⟩; (focus ((have hwx : Below _ _ wx := hwx; have hcx := cellA hwx; have hfx := frozA hwx; have hzx := hwx.size; (try simp at hzx)); unfold zAt; (try simp [go_sem, BigFrame.eval_const, BigFrame.eval_global, BigFrame.eval_func, ↓IntWalk.iteOmega, *]); (try simp only [zUpon]); (first | exact ⟨rfl, Below.refl _ _⟩ | fail))); (try go_simp))
                (refine wz_do (by decide) (by decide) C0e.es (growsB (by simp)) ?_ ?_; (focus (first | rfl | (go_simp; done))); apply Exists.intro; refine ⟨fun bs hok wx hwx hL => ?_, ?_⟩; (focus ((have hwx : Below _ _ wx := hwx; have hcx := cellA hwx; have hfx := frozA hwx; have hzx := hwx.size; (try simp at hzx)); unfold zAt; (try simp [go_sem, BigFrame.eval_const, BigFrame.eval_global, BigFrame.eval_func, ↓IntWalk.iteOmega, *]); (try simp only [zUpon]); (first | exact ⟨rfl, Below.refl _ _⟩ | fail))); (try go_simp))
                (refine wz_do (by decide) (by decide) C0e.es (growsB (by simp)) ?_ ?_; (focus (first | rfl | (go_simp; done))); apply Exists.intro; refine ⟨fun bs hok wx hwx hL => ?_, ?_⟩; (focus ((have hwx : Below _ _ wx := hwx; have hcx := cellA hwx; have hfx := frozA hwx; have hzx := hwx.size; (try simp at hzx)); unfold zAt; (try simp [go_sem, BigFrame.eval_const, BigFrame.eval_global, BigFrame.eval_func, ↓IntWalk.iteOmega, *]); (try simp only [zUpon]); (first | exact ⟨rfl, Below.refl _ _⟩ | fail))); (try go_simp))
                (refine wz_do (by decide) (by decide) C0e.es (growsB (by simp)) ?_ ?_; (focus (first | rfl | (go_simp; done))); apply Exists.intro; refine ⟨fun bs hok wx hwx hL => ?_, ?_⟩; (focus ((have hwx : Below _ _ wx := hwx; have hcx := cellA hwx; have hfx := frozA hwx; have hzx := hwx.size; (try simp at hzx)); unfold zAt; (try simp [go_sem, BigFrame.eval_const, BigFrame.eval_global, BigFrame.eval_func, ↓IntWalk.iteOmega, *]); (try simp only [zUpon]); (first | exact ⟨rfl, Below.refl _ _⟩ | fail))); (try go_simp))
                (refine wz_do (by decide) (by decide) C0e.es (growsB (by simp)) ?_ ?_; (focus (first | rfl | (go_simp; done))); apply Exists.intro; refine ⟨fun bs hok wx hwx hL => ?_, ?_⟩; (focus ((have hwx : Below _ _ wx := hwx; have hcx := cellA hwx; have hfx := frozA hwx; have hzx := hwx.size; (try simp at hzx)); unfold zAt; (try simp [go_sem, BigFrame.eval_const, BigFrame.eval_global, BigFrame.eval_func, ↓IntWalk.iteOmega, *]); (try simp only [zUpon]); (first | exact ⟨rfl, Below.refl _ _⟩ | fail))); (try go_simp))
                (refine wz_do (by decide) (by decide) C0e.es (growsB (by simp)) ?_ ?_; (focus (first | rfl | (go_simp; done))); apply Exists.intro; refine ⟨fun bs hok wx hwx hL => ?_, ?_⟩; (focus ((have hwx : Below _ _ wx := hwx; have hcx := cellA hwx; have hfx := frozA hwx; have hzx := hwx.size; (try simp at hzx)); unfold zAt; (try simp [go_sem, BigFrame.eval_const, BigFrame.eval_global, BigFrame.eval_func, ↓IntWalk.iteOmega, *]); (try simp only [zUpon]); (first | exact ⟨rfl, Below.refl _ _⟩ | fail))); (try go_simp))
                (refine wz_do (by decide) (by decide) C0e.es (growsB (by simp)) ?_ ?_; (focus (first | rfl | (go_simp; done))); apply Exists.intro; refine ⟨fun bs hok wx hwx hL => ?_, ?_⟩; (focus ((have hwx : Below _ _ wx := hwx; have hcx := cellA hwx; have hfx := frozA hwx; have hzx := hwx.size; (try simp at hzx)); unfold zAt; (try simp [go_sem, BigFrame.eval_const, BigFrame.eval_global, BigFrame.eval_func, ↓IntWalk.iteOmega, *]); (try simp only [zUpon]); (first | exact ⟨rfl, Below.refl _ _⟩ | fail))); (try go_simp))
                (refine wz_do (by decide) (by decide) C0e.es (growsB (by simp)) ?_ ?_; (focus (first | rfl | (go_simp; done))); apply Exists.intro; refine ⟨fun bs hok wx hwx hL => ?_, ?_⟩; (focus ((have hwx : Below _ _ wx := hwx; have hcx := cellA hwx; have hfx := frozA hwx; have hzx := hwx.size; (try simp at hzx)); unfold zAt; (try simp [go_sem, BigFrame.eval_const, BigFrame.eval_global, BigFrame.eval_func, ↓IntWalk.iteOmega, *]); (try simp only [zUpon]); (first | exact ⟨rfl, Below.refl _ _⟩ | fail))); (try go_simp))
                (refine wz_do (by decide) (by decide) C0e.es (growsB (by simp)) ?_ ?_; (focus (first | rfl | (go_simp; done))); apply Exists.intro; refine ⟨fun bs hok wx hwx hL => ?_, ?_⟩; (focus ((have hwx : Below _ _ wx := hwx; have hcx := cellA hwx; have hfx := frozA hwx; have hzx := hwx.size; (try simp at hzx)); unfold zAt; (try simp [go_sem, BigFrame.eval_const, BigFrame.eval_global, BigFrame.eval_func, ↓IntWalk.iteOmega, *]); (try simp only [zUpon]); (first | exact ⟨rfl, Below.refl _ _⟩ | fail))); (try go_simp))
                (refine wz_do (by decide) (by decide) C0e.es (growsB (by simp)) ?_ ?_; (focus (first | rfl | (go_simp; done))); apply Exists.intro; refine ⟨fun bs hok wx hwx hL => ?_, ?_⟩; (focus ((have hwx : Below _ _ wx := hwx; have hcx := cellA hwx; have hfx := frozA hwx; have hzx := hwx.size; (try simp at hzx)); unfold zAt; (try simp [go_sem, BigFrame.eval_const, BigFrame.eval_global, BigFrame.eval_func, ↓IntWalk.iteOmega, *]); (try simp only [zUpon]); (first | exact ⟨rfl, Below.refl _ _⟩ | fail))); (try go_simp))
                (refine wz_do (by decide) (by decide) C0e.es (growsB (by simp)) ?_ ?_; (focus (first | rfl | (go_simp; done))); apply Exists.intro; refine ⟨fun bs hok wx hwx hL => ?_, ?_⟩; (focus ((have hwx : Below _ _ wx := hwx; have hcx := cellA hwx; have hfx := frozA hwx; have hzx := hwx.size; (try simp at hzx)); unfold zAt; (try simp [go_sem, BigFrame.eval_const, BigFrame.eval_global, BigFrame.eval_func, ↓IntWalk.iteOmega, *]); (try simp only [zUpon]); (first | exact ⟨rfl, Below.refl _ _⟩ | fail))); (try go_simp))
                (refine wz_do (by decide) (by decide) C0e.es (growsB (by simp)) ?_ ?_; (focus (first | rfl | (go_simp; done))); apply Exists.intro; refine ⟨fun bs hok wx hwx hL => ?_, ?_⟩; (focus ((have hwx : Below _ _ wx := hwx; have hcx := cellA hwx; have hfx := frozA hwx; have hzx := hwx.size; (try simp at hzx)); unfold zAt; (try simp [go_sem, BigFrame.eval_const, BigFrame.eval_global, BigFrame.eval_func, ↓IntWalk.iteOmega, *]); (try simp only [zUpon]); (first | exact ⟨rfl, Below.refl _ _⟩ | fail))); (try go_simp))
                (refine wz_do (by decide) (by decide) C0e.es (growsB (by simp)) ?_ ?_; (focus (first | rfl | (go_simp; done))); apply Exists.intro; refine ⟨fun bs hok wx hwx hL => ?_, ?_⟩; (focus ((have hwx : Below _ _ wx := hwx; have hcx := cellA hwx; have hfx := frozA hwx; have hzx := hwx.size; (try simp at hzx)); unfold zAt; (try simp [go_sem, BigFrame.eval_const, BigFrame.eval_global, BigFrame.eval_func, ↓IntWalk.iteOmega, *]); (try simp only [zUpon]); (first | exact ⟨rfl, Below.refl _ _⟩ | fail))); (try go_simp))
                refine wz_nil ?_
                intro wq hbq hLq
                clear hLq 
                have hcwq := cellA hbq
                have hfwq := frozA hbq
                have hzwq := hbq.size
                try simp at hzwq
                go_wp2_with fail
                refine ⟨?relx, ?measure⟩
                case relx =>
                  repeat apply Exists.intro
                  refine ⟨?_, rfl⟩
                  refine ⟨1, by simp, by go_num, ?_⟩
                  have h1 := Sep.setRow (i := m0.length * 4 + 3) (v := .string ⟨(q.text ++ t.text).toArray⟩) (HX.out.below hbq) (by rw [hmm]; omega) rfl
                  rw [set_text] at h1
                  simpa [HMR.out, app_arr] using h1
                case measure => simp [intOf]
              · have hb1 : ((q.kind : Int) == 0) = false := by simp [hqk]
                have HMR := Lib.hid (mrg_apart m0 q t (fun hh => hqk hh.2))
                go_wp2_with (at_builtin; refine wpList_appS rfl (.tmp 63) (.tmp 68) 55 rfl 61 i0 (.agg #[.int .i64 0, .int .i64 0, .int .i64 0, .string ByteArray.empty]) 4 40 Tryd.underlying55 iI.out ia ib ic rfl (by decide) _ _ _ _ rfl (Sep.alloc0 HX.out) ⟨_, 0, none⟩ 1 _ _ rfl (by rfl) (newsB _ _ _ _ (by first | rfl | simp)) (by simp [Value.oneCell']) (by first | decide | omega) (by first | omega | (simp; done) | (simp; omega)) (by decide) ?_; intro g2 cap2 w2 hs2 hz2; have HS2 := Lib.hid hs2; clear hs2)
                go_roundw
                case rel => exact ⟨1, by simp, by go_num, by simpa [HMR.out, tokCells, htk] using HS2.out⟩
                case measure => simp [intOf]
          · have hb0 : ((t.kind : Int) == 0) = false := by simp [htk]
            have HMR := Lib.hid (mrg_other m t htk)
            go_wp2_with (at_builtin; refine wpList_appS rfl (.tmp 63) (.tmp 68) 55 rfl 61 i0 (.agg #[.int .i64 0, .int .i64 0, .int .i64 0, .string ByteArray.empty]) 4 40 Tryd.underlying55 iI.out ia ib ic rfl (by decide) _ _ _ _ rfl (Sep.alloc0 HX.out) ⟨_, 0, none⟩ 1 _ _ rfl (by rfl) (newsB _ _ _ _ (by first | rfl | simp)) (by simp [Value.oneCell']) (by first | decide | omega) (by first | omega | (simp; done) | (simp; omega)) (by decide) ?_; intro g2 cap2 w2 hs2 hz2; have HS2 := Lib.hid hs2; clear hs2)
            go_roundw
            case rel => exact ⟨1, by simp, by go_num, by simpa [HMR.out, tokCells, htk] using HS2.out⟩
            case measure => simp [intOf]
        · obtain rfl : j = ts.length := by omega
          go_wp2_with fail
          go_roundw
          case rel =>
            have h1 := HX.out.drop 1
            rw [List.take_length] at h1
            exact ⟨k + 1, by omega, by go_num, cv1, bv1, d1, _, by rw [HST.out, List.foldl_append, ← HDM.out]; exact HAL.out.symm, HOK1.out, h1⟩
          case measure => simp [intOf]; omega
    · obtain rfl : k = s.size := by omega
      go_wp2_with fail
      go_ret
      have h1 := HDM.out
      rw [List.take_of_length_le (by simp)] at h1
      rw [← h1]
      exact ⟨⟨_, _, _, rfl, HS.out⟩⟩
end Go.Proofs.YtemdhbjcdibpfaaDoor.W4
