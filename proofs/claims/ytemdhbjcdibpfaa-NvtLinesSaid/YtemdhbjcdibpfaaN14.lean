/- tokens, Data of several together -/
import Derived.Test.YtemdhbjcdibpfaaN13
namespace Go.Proofs.Ytemdhbjcdibpfaa.N14
set_option linter.unusedVariables false
set_option linter.unusedSimpArgs false
set_option linter.unnecessarySimpa false
open Go.RowKit K1 K3 K5 K11 K12 K14 N0 N1 N2 N8 N10 N11 N13
attribute [local go_sem] cell_pastA froz_pastA
/-- a token more -/
def mrg (m : List Tok) (t : Tok) : List Tok :=
  match m.getLast? with
  | some q => if t.kind = 0 ∧ q.kind = 0 then m.dropLast ++ [{ q with text := q.text ++ t.text }] else m ++ [t]
  | none => m ++ [t]
def plainF (l : List Tok) : List Tok := l.foldl mrg []
theorem mrg_join (m : List Tok) (q t : Tok) (h1 : t.kind = 0) (h2 : q.kind = 0) : mrg (m ++ [q]) t = m ++ [{ q with text := q.text ++ t.text }] := by
  unfold mrg
  simp [h1, h2]
theorem mrg_apart (m : List Tok) (q t : Tok) (h : ¬(t.kind = 0 ∧ q.kind = 0)) : mrg (m ++ [q]) t = m ++ [q] ++ [t] := by
  unfold mrg
  simp [h]
theorem mrg_len (m : List Tok) (t : Tok) : (mrg m t).length ≤ m.length + 1 := by
  rcases List.eq_nil_or_concat m with rfl | ⟨m0, q, rfl⟩
  · simp [mrg]
  · rw [List.concat_eq_append]
    by_cases h : t.kind = 0 ∧ q.kind = 0
    · rw [mrg_join _ _ _ h.1 h.2]; simp
    · rw [mrg_apart _ _ _ h]; simp
theorem plain_snoc (l : List Tok) (k : Nat) (h : k < l.length) : plainF (l.take (k + 1)) = mrg (plainF (l.take k)) l[k] := by
  unfold plainF
  rw [List.take_succ_eq_append_getElem h, List.foldl_append]; rfl
theorem plain_len (l : List Tok) : (plainF l).length ≤ l.length := by
  unfold plainF
  have : ∀ (l m : List Tok), (l.foldl mrg m).length ≤ m.length + l.length := by
    intro l
    induction l with
    | nil => intro m; simp
    | cons t l ih => intro m; have := ih (mrg m t); have := mrg_len m t; simp; omega
  simpa using this l []
/-- how many bytes -/
def bytes (l : List Tok) : Nat := (l.map fun t => t.text.length).sum
theorem mrg_bytes (m : List Tok) (t : Tok) : bytes (mrg m t) = bytes m + t.text.length := by
  rcases List.eq_nil_or_concat m with rfl | ⟨m0, q, rfl⟩
  · simp [mrg, bytes]
  · rw [List.concat_eq_append]
    by_cases h : t.kind = 0 ∧ q.kind = 0
    · rw [mrg_join _ _ _ h.1 h.2]; simp [bytes]; omega
    · rw [mrg_apart _ _ _ h]; simp [bytes]; omega
theorem plain_bytes (l : List Tok) : bytes (plainF l) = bytes l := by
  unfold plainF
  have : ∀ (l m : List Tok), bytes (l.foldl mrg m) = bytes m + bytes l := by
    intro l
    induction l with
    | nil => intro m; simp [bytes]
    | cons t l ih => intro m; have h1 := ih (mrg m t); have h2 := mrg_bytes m t; simp only [List.foldl_cons]; rw [h1, h2]; simp [bytes]; omega
  simpa [bytes] using this l []
theorem mrg_other (m : List Tok) (t : Tok) (h : t.kind ≠ 0) : mrg m t = m ++ [t] := by
  rcases List.eq_nil_or_concat m with rfl | ⟨m0, q, rfl⟩
  · rfl
  · rw [List.concat_eq_append]
    exact mrg_apart _ _ _ (fun hh => h hh.1)
theorem bytes_take (l : List Tok) (k : Nat) : bytes (l.take k) ≤ bytes l := by
  have h := congrArg bytes (List.take_append_drop k l)
  simp only [bytes, List.map_append, List.sum_append] at h ⊢
  omega
theorem bytes_mem {t : Tok} : ∀ {l : List Tok}, t ∈ l → t.text.length ≤ bytes l
  | x :: l, h => by
    rw [List.mem_cons] at h
    rcases h with rfl | h
    · simp [bytes]
    · have := bytes_mem h; simp [bytes] at this ⊢; omega
theorem app_arr (a b : List UInt8) : (⟨(a ++ b).toArray⟩ : ByteArray) = ⟨a.toArray⟩ ++ ⟨b.toArray⟩ := by
  apply ByteArray.ext
  simp
theorem own_setc {w : World} {base g n c s j : Nat} {e : TypeId} {xs : List Value} {u : Value} (h : w.ownsRow base e s (.slice (some ⟨g, 0, none⟩) n c) n xs) (hj : j < xs.length) : (w.setCell ⟨g, j, none⟩ u).ownsRow base e s (.slice (some ⟨g, 0, none⟩) n c) n (xs.set j u) := by
  obtain ⟨h1, h2⟩ := h
  refine ⟨by simpa using h1, ?_⟩
  rcases h2 with ⟨hh, _⟩ | ⟨g', cap, cur, hh, hb, hg, hnc, hcm, hcs, ht⟩
  · cases hh
  · simp only [Value.slice.injEq, Option.some.injEq, Addr.mk.injEq, and_true, true_and] at hh
    obtain ⟨rfl, rfl⟩ := hh
    refine .inr ⟨g, c, cur.setIfInBounds j u, rfl, hb, blk_set hg, hnc, hcm, by simpa using hcs, ?_⟩
    rw [← ht, Array.toList_setIfInBounds, List.take_set]
theorem set_text (m : List Tok) (q : Tok) (x : List UInt8) : (((m ++ [q]).flatMap tokCells).set (m.length * 4 + 3) (.string ⟨x.toArray⟩)) = (m ++ [{ q with text := x }]).flatMap tokCells := by
  have hl : (m.flatMap tokCells).length = m.length * 4 := by induction m with
    | nil => rfl
    | cons t m ih => simp [tokCells, ih]; omega
  rw [List.flatMap_append, List.flatMap_append, List.set_append_right _ _ (by omega), hl]
  simp [tokCells]
theorem own_froz {w : World} {base g n c s : Nat} {e : TypeId} {xs : List Value} (h : w.ownsRow base e s (.slice (some ⟨g, 0, none⟩) n c) n xs) : ∀ j, w.frozen? ⟨g, j, none⟩ = false := by
  rcases h.2 with ⟨hh, _⟩ | ⟨g', cap, cur, hh, hb, hg, hnc, hcm, hcs, ht⟩
  · cases hh
  · simp only [Value.slice.injEq, Option.some.injEq, Addr.mk.injEq, and_true, true_and] at hh
    obtain ⟨rfl, rfl⟩ := hh
    exact froz_blk hg
set_option maxHeartbeats 8000000 in
theorem plain_any (v : Value) (l : List Tok) (w : World) (hv : w.ownsRow 0 45 4 v l.length (l.flatMap tokCells)) (hl : l.length ≤ 1099511627776) (hby : bytes l ≤ 1099511627776) :
    Calls Try.prog 14 #[v] w fun e w' => ∃ u, e = .returned u ∧ w'.ownsRow w.heap.size 45 4 u (plainF l).length ((plainF l).flatMap tokCells) ∧ Below w.heap.size w w' := by
  obtain ⟨va, vc, rfl, -⟩ := own_slice hv
  have HV := Lib.hid hv
  obtain ⟨i0, hi, hz0, hz1, hz2⟩ := info_parts info45
  have HI := Lib.hid hi
  have HBY := Lib.hid hby
  clear hv hi hby
  go_enter Try.func14, Try.ntmps14
  go_wp2_with fail
  go_loopw [3, 4] (fun o i wr => ∃ k : Nat, k ≤ l.length ∧ i = .int .i64 k ∧ wr.ownsRow w.heap.size 45 4 o (plainF (l.take k)).length ((plainF (l.take k)).flatMap tokCells) ∧ Below w.heap.size w wr) (fun _ i _ => l.length - (intOf i).toNat)
  case atStart => exact ⟨0, by omega, rfl, World.ownsRow_nil _ _ _ _, Below.refl _ _⟩
  case round =>
    obtain ⟨k, hk, rfl, hown, hbr⟩ := hrel
    obtain ⟨m, hm⟩ : ∃ m, m = plainF (l.take k) := ⟨_, rfl⟩
    rw [← hm] at hown
    have hmk : m.length ≤ k := by have := plain_len (l.take k); rw [← hm] at this; simp at this; omega
    have hmb : bytes m ≤ 1099511627776 := by
      have h1 := plain_bytes (l.take k)
      have h2 := bytes_take l k
      have h3 := HBY.out
      rw [← hm] at h1
      omega
    obtain ⟨oa, oc, rfl, hoa⟩ := own_slice hown
    have HOW := Lib.hid hown
    have HBR := Lib.hid hbr
    have HM := Lib.hid hm
    have hwr := hbr.size
    clear hown hbr hm hoa
    by_cases hlt : k < l.length
    · obtain ⟨g1, cp1, hf1, -, hg1⟩ := HV.out.form (by omega)
      simp only [Value.slice.injEq, true_and] at hf1
      obtain ⟨rfl, rfl⟩ := hf1
      obtain ⟨t0, t1, t2, t3⟩ := tok_at l k hlt
      have hbr := HBR.out
      have a0 := (hbr.cell (p := ⟨g1, k * 4, none⟩) hg1).trans (own_at HV.out t0)
      have a1 := (hbr.cell (p := ⟨g1, k * 4 + 1, none⟩) hg1).trans (own_at HV.out t1)
      have a2 := (hbr.cell (p := ⟨g1, k * 4 + 2, none⟩) hg1).trans (own_at HV.out t2)
      have a3 := (hbr.cell (p := ⟨g1, k * 4 + 3, none⟩) hg1).trans (own_at HV.out t3)
      obtain ⟨t, ht⟩ : ∃ t, t = l[k] := ⟨_, rfl⟩
      have HP := Lib.hid (plain_snoc l k hlt)
      rw [← ht] at a0 a1 a2 a3
      have HT := Lib.hid ht
      clear hbr t0 t1 t2 t3 ht
      have hgt : t.text.length ≤ 1099511627776 := by
        have h1 := HBY.out
        have h2 : t ∈ l := by rw [HT.out]; exact List.getElem_mem _
        have h3 := bytes_mem h2
        omega
      by_cases htk : t.kind = 0
      · have hb0 : ((t.kind : Int) == 0) = true := by simp [htk]
        rcases List.eq_nil_or_concat m with rfl | ⟨m0, q, hmq⟩
        · have hmr : mrg [] t = [] ++ [t] := rfl
          have HMR := Lib.hid hmr
          clear hmr
          go_wp2_with (at_builtin; refine wpList_append_lies _ rfl (.tmp 48) (.tmp 53) 40 rfl w.heap.size 45 i0 _ 4 40 Try.underlying40 HI.out hz0 hz1 hz2 rfl (by decide) _ _ _ rfl (own_keep HOW.out (fun k hk => Below.heap_alloc _ _ _ (own_lt HOW.out k hk))) ⟨_, 0, none⟩ 1 1 _ rfl (by rfl) (newsB _ _ _ _ (by first | rfl | simp)) (by simp [Value.oneCell']) (by omega) (by unfold maxLen; first | omega | (simp; omega)) (by first | omega | (simp; omega)) (by simp; omega) _ rfl ?_; intro g cap w1 hown' hgrow hat hlg; have HOW2 := Lib.hid hown'; have HGR := Lib.hid hgrow; clear hown' hgrow)
          go_roundw
          case rel =>
            refine ⟨k + 1, by omega, by go_num, ?_, (HBR.out.alloc hwr _).grown HGR.out (by simp; omega) (fun q hq => (HOW.out.lt q hq).1)⟩
            have := HOW2.out
            rw [HP.out, ← HM.out, ← HT.out, HMR.out]
            simpa [tokCells, htk, Nat.add_assoc] using this
          case measure => simp [intOf]; omega
        · rw [List.concat_eq_append] at hmq
          subst hmq
          obtain ⟨g2, cp2, hf2, -, hg2⟩ := HOW.out.form (by simp)
          simp only [Value.slice.injEq, true_and] at hf2
          obtain ⟨rfl, rfl⟩ := hf2
          obtain ⟨q0, q1, q2, q3⟩ := tok_at (m0 ++ [q]) m0.length (by simp)
          have hqe : (m0 ++ [q])[m0.length]'(by simp) = q := by simp
          rw [hqe] at q0 q1 q2 q3
          have d0 := own_at (own_base HOW.out) q0
          have d3 := own_at (own_base HOW.out) q3
          have hml : (m0 ++ [q]).length = m0.length + 1 := by simp
          have hqm : q.text.length ≤ 1099511627776 := by
            have := bytes_mem (show q ∈ m0 ++ [q] by simp); omega
          clear q0 q1 q2 q3 hqe
          by_cases hqk : q.kind = 0
          · have hb1 : ((q.kind : Int) == 0) = true := by simp [hqk]
            have hfz := own_froz HOW.out
            have HMR := Lib.hid (mrg_join m0 q t htk hqk)
            go_wp2_with fail
            refine wp_region_quiet0 (w := _) [] [] 15 (by kernel_rfl) (by kernel_rfl) (fun _ _ dx _ _ hx => by cases dx <;> exact hx) ?_
            simp only [numbered, List.take_succ_cons, List.take_zero, List.drop_succ_cons, List.drop_zero, List.take_nil, List.drop_nil, Nat.reduceAdd]
            (refine wz_do (by decide) (by decide) C0e.es (growsB (by simp)) ?_ ?_; (focus (first | rfl | (go_simp; done))); apply Exists.intro; refine ⟨fun bs hok wx hwx hL => ?_, ?_⟩; (focus ((have hwx : Below _ _ wx := hwx; have hcx := cellA hwx; have hfx := frozA hwx; have hzx := hwx.size; (try simp at hzx)); unfold zAt; (try simp [go_sem, BigFrame.eval_const, BigFrame.eval_global, BigFrame.eval_func, ↓IntWalk.iteOmega, *]); (try simp only [zUpon]); (first | exact ⟨rfl, Below.refl _ _⟩ | fail))); (try go_simp))
            (refine wz_do (by decide) (by decide) C0e.es (growsB (by simp)) ?_ ?_; (focus (first | rfl | (go_simp; done))); apply Exists.intro; refine ⟨fun bs hok wx hwx hL => ?_, ?_⟩; (focus ((have hwx : Below _ _ wx := hwx; have hcx := cellA hwx; have hfx := frozA hwx; have hzx := hwx.size; (try simp at hzx)); unfold zAt; (try simp [go_sem, BigFrame.eval_const, BigFrame.eval_global, BigFrame.eval_func, ↓IntWalk.iteOmega, *]); (try simp only [zUpon]); (first | exact ⟨rfl, Below.refl _ _⟩ | fail))); (try go_simp))
            (refine wz_do (by decide) (by decide) C0e.es (growsB (by simp)) ?_ ?_; (focus (first | rfl | (go_simp; done))); apply Exists.intro; refine ⟨fun bs hok wx hwx hL => ?_, ?_⟩; (focus ((have hwx : Below _ _ wx := hwx; have hcx := cellA hwx; have hfx := frozA hwx; have hzx := hwx.size; (try simp at hzx)); unfold zAt; (try simp [go_sem, BigFrame.eval_const, BigFrame.eval_global, BigFrame.eval_func, ↓IntWalk.iteOmega, *]); (try simp only [zUpon]); (first | exact ⟨rfl, Below.refl _ _⟩ | fail))); (try go_simp))
            (refine wz_do (by decide) (by decide) C0e.es (growsB (by simp)) ?_ ?_; (focus (first | rfl | (go_simp; done))); apply Exists.intro; refine ⟨fun bs hok wx hwx hL => ?_, ?_⟩; (focus ((have hwx : Below _ _ wx := hwx; have hcx := cellA hwx; have hfx := frozA hwx; have hzx := hwx.size; (try simp at hzx)); unfold zAt; (try simp [go_sem, BigFrame.eval_const, BigFrame.eval_global, BigFrame.eval_func, ↓IntWalk.iteOmega, *]); (try simp only [zUpon]); (first | exact ⟨rfl, Below.refl _ _⟩ | fail))); (try go_simp))
            (refine wz_do (by decide) (by decide) C0e.es (growsB (by simp)) ?_ ?_; (focus (first | rfl | (go_simp; done))); apply Exists.intro; refine ⟨fun bs hok wx hwx hL => ?_, ?_⟩; (focus ((have hwx : Below _ _ wx := hwx; have hcx := cellA hwx; have hfx := frozA hwx; have hzx := hwx.size; (try simp at hzx)); unfold zAt; (try simp [go_sem, BigFrame.eval_const, BigFrame.eval_global, BigFrame.eval_func, ↓IntWalk.iteOmega, *]); (try simp only [zUpon]); (first | exact ⟨rfl, Below.refl _ _⟩ | fail))); (try go_simp))
            (refine wz_do (by decide) (by decide) C0e.es (growsB (by simp)) ?_ ?_; (focus (first | rfl | (go_simp; done))); apply Exists.intro; refine ⟨fun bs hok wx hwx hL => ?_, ?_⟩; (focus ((have hwx : Below _ _ wx := hwx; have hcx := cellA hwx; have hfx := frozA hwx; have hzx := hwx.size; (try simp at hzx)); unfold zAt; (try simp [go_sem, BigFrame.eval_const, BigFrame.eval_global, BigFrame.eval_func, ↓IntWalk.iteOmega, *]); (try simp only [zUpon]); (first | exact ⟨rfl, Below.refl _ _⟩ | fail))); (try go_simp))
            (refine wz_do (by decide) (by decide) C0e.es (growsB (by simp)) ?_ ?_; (focus (first | rfl | (go_simp; done))); apply Exists.intro; refine ⟨fun bs hok wx hwx hL => ?_, ?_⟩; (focus ((have hwx : Below _ _ wx := hwx; have hcx := cellA hwx; have hfx := frozA hwx; have hzx := hwx.size; (try simp at hzx)); unfold zAt; (try simp [go_sem, BigFrame.eval_const, BigFrame.eval_global, BigFrame.eval_func, ↓IntWalk.iteOmega, *]); (try simp only [zUpon]); (first | exact ⟨rfl, Below.refl _ _⟩ | fail))); (try go_simp))
            (refine wz_do (by decide) (by decide) C0e.es (growsB (by simp)) ?_ ?_; (focus (first | rfl | (go_simp; done))); apply Exists.intro; refine ⟨fun bs hok wx hwx hL => ?_, ?_⟩; (focus ((have hwx : Below _ _ wx := hwx; have hcx := cellA hwx; have hfx := frozA hwx; have hzx := hwx.size; (try simp at hzx)); unfold zAt; (try simp [go_sem, BigFrame.eval_const, BigFrame.eval_global, BigFrame.eval_func, ↓IntWalk.iteOmega, *]); (try simp only [zUpon]); (first | exact ⟨rfl, Below.refl _ _⟩ | fail))); (try go_simp))
            (refine wz_do (by decide) (by decide) C0e.es (growsB (by simp)) ?_ ?_; (focus (first | rfl | (go_simp; done))); apply Exists.intro; refine ⟨fun bs hok wx hwx hL => ?_, ?_⟩; (focus ((have hwx : Below _ _ wx := hwx; have hcx := cellA hwx; have hfx := frozA hwx; have hzx := hwx.size; (try simp at hzx)); unfold zAt; (try simp [go_sem, BigFrame.eval_const, BigFrame.eval_global, BigFrame.eval_func, ↓IntWalk.iteOmega, *]); (try simp only [zUpon]); (first | exact ⟨rfl, Below.refl _ _⟩ | fail))); (try go_simp))
            (refine wz_do (by decide) (by decide) C0e.es (growsB (by simp)) ?_ ?_; (focus (first | rfl | (go_simp; done))); apply Exists.intro; refine ⟨fun bs hok wx hwx hL => ?_, ?_⟩; (focus ((have hwx : Below _ _ wx := hwx; have hcx := cellA hwx; have hfx := frozA hwx; have hzx := hwx.size; (try simp at hzx)); unfold zAt; (try simp [go_sem, BigFrame.eval_const, BigFrame.eval_global, BigFrame.eval_func, ↓IntWalk.iteOmega, *]); (try simp only [zUpon]); (first | exact ⟨rfl, Below.refl _ _⟩ | fail))); (try go_simp))
            (refine wz_do (by decide) (by decide) C0e.es (growsB (by simp)) ?_ ?_; (focus (first | rfl | (go_simp; done))); apply Exists.intro; refine ⟨fun bs hok wx hwx hL => ?_, ?_⟩; (focus ((have hwx : Below _ _ wx := hwx; have hcx := cellA hwx; have hfx := frozA hwx; have hzx := hwx.size; (try simp at hzx)); unfold zAt; (try simp [go_sem, BigFrame.eval_const, BigFrame.eval_global, BigFrame.eval_func, ↓IntWalk.iteOmega, *]); (try simp only [zUpon]); (first | exact ⟨rfl, Below.refl _ _⟩ | fail))); (try go_simp))
            (refine wz_do (by decide) (by decide) C0e.es (growsB (by simp)) ?_ ?_; (focus (first | rfl | (go_simp; done))); apply Exists.intro; refine ⟨fun bs hok wx hwx hL => ?_, ?_⟩; (focus ((have hwx : Below _ _ wx := hwx; have hcx := cellA hwx; have hfx := frozA hwx; have hzx := hwx.size; (try simp at hzx)); unfold zAt; (try simp [go_sem, BigFrame.eval_const, BigFrame.eval_global, BigFrame.eval_func, ↓IntWalk.iteOmega, *]); (try simp only [zUpon]); (first | exact ⟨rfl, Below.refl _ _⟩ | fail))); (try go_simp))
            (refine wz_do (by decide) (by decide) C0e.es (growsB (by simp)) ?_ ?_; (focus (first | rfl | (go_simp; done))); apply Exists.intro; refine ⟨fun bs hok wx hwx hL => ?_, ?_⟩; (focus ((have hwx : Below _ _ wx := hwx; have hcx := cellA hwx; have hfx := frozA hwx; have hzx := hwx.size; (try simp at hzx)); unfold zAt; (try simp [go_sem, BigFrame.eval_const, BigFrame.eval_global, BigFrame.eval_func, ↓IntWalk.iteOmega, *]); (try simp only [zUpon]); (first | exact ⟨rfl, Below.refl _ _⟩ | fail))); (try go_simp))
            (refine wz_do (by decide) (by decide) C0e.es (growsB (by simp)) ?_ ?_; (focus (first | rfl | (go_simp; done))); apply Exists.intro; refine ⟨fun bs hok wx hwx hL => ?_, ?_⟩; (focus ((have hwx : Below _ _ wx := hwx; have hcx := cellA hwx; have hfx := frozA hwx; have hzx := hwx.size; (try simp at hzx)); unfold zAt; (try simp [go_sem, BigFrame.eval_const, BigFrame.eval_global, BigFrame.eval_func, ↓IntWalk.iteOmega, *]); (try simp only [zUpon]); (first | exact ⟨rfl, Below.refl _ _⟩ | fail))); (try go_simp))
            (refine wz_do (by decide) (by decide) C0e.es (growsB (by simp)) ?_ ?_; (focus (first | rfl | (go_simp; done))); apply Exists.intro; refine ⟨fun bs hok wx hwx hL => ?_, ?_⟩; (focus ((have hwx : Below _ _ wx := hwx; have hcx := cellA hwx; have hfx := frozA hwx; have hzx := hwx.size; (try simp at hzx)); unfold zAt; (try simp [go_sem, BigFrame.eval_const, BigFrame.eval_global, BigFrame.eval_func, ↓IntWalk.iteOmega, *]); (try simp only [zUpon]); (first | exact ⟨rfl, Below.refl _ _⟩ | fail))); (try go_simp))
            refine wz_nil ?_
            intro wq hbq hLq
            clear hLq 
            have hcwq := cellA hbq
            have hfwq := frozA hbq
            have hzwq := hbq.size
            try simp at hzwq
            go_wp2_with fail
            go_roundw
            case rel =>
              have hbb : w.heap.size ≤ g2 := by
                rcases HOW.out.2 with ⟨hh, _⟩ | ⟨g', cap, cur, hh, hb, _⟩
                · cases hh
                · simp only [Value.slice.injEq, Option.some.injEq, Addr.mk.injEq, and_true, true_and] at hh
                  omega
              refine ⟨k + 1, by omega, by go_num, ?_, (HBR.out.trans (hbq.mono hwr)).setCell (by simpa using hbb) _⟩
              have h1 := own_setc (j := m0.length * 4 + 3) (u := .string ⟨(q.text ++ t.text).toArray⟩) (own_keep HOW.out (fun j hj => hbq.block j (own_lt HOW.out j hj))) (by
                have := HOW.out.1
                rw [this]; simp; omega)
              rw [set_text] at h1
              rw [HP.out, ← HM.out, ← HT.out, HMR.out, ← app_arr]
              simpa using h1
            case measure => simp [intOf]; omega
          · have hb1 : ((q.kind : Int) == 0) = false := by simp [hqk]
            have hmr : mrg (m0 ++ [q]) t = (m0 ++ [q]) ++ [t] := mrg_apart m0 q t (fun hh => hqk hh.2)
            have HMR := Lib.hid hmr
            clear hmr
            go_wp2_with (at_builtin; refine wpList_append_lies _ rfl (.tmp 48) (.tmp 53) 40 rfl w.heap.size 45 i0 _ 4 40 Try.underlying40 HI.out hz0 hz1 hz2 rfl (by decide) _ _ _ rfl (own_keep HOW.out (fun k hk => Below.heap_alloc _ _ _ (own_lt HOW.out k hk))) ⟨_, 0, none⟩ 1 1 _ rfl (by rfl) (newsB _ _ _ _ (by first | rfl | simp)) (by simp [Value.oneCell']) (by omega) (by unfold maxLen; first | omega | (simp; omega)) (by first | omega | (simp; omega)) (by simp; omega) _ rfl ?_; intro g cap w1 hown' hgrow hat hlg; have HOW2 := Lib.hid hown'; have HGR := Lib.hid hgrow; clear hown' hgrow)
            go_roundw
            case rel =>
              refine ⟨k + 1, by omega, by go_num, ?_, (HBR.out.alloc hwr _).grown HGR.out (by simp; omega) (fun q hq => (HOW.out.lt q hq).1)⟩
              have := HOW2.out
              rw [HP.out, ← HM.out, ← HT.out, HMR.out]
              simpa [tokCells, htk, Nat.add_assoc] using this
            case measure => simp [intOf]; omega
      · have hb0 : ((t.kind : Int) == 0) = false := by simp [htk]
        have HMR := Lib.hid (mrg_other m t htk)
        go_wp2_with (at_builtin; refine wpList_append_lies _ rfl (.tmp 48) (.tmp 53) 40 rfl w.heap.size 45 i0 _ 4 40 Try.underlying40 HI.out hz0 hz1 hz2 rfl (by decide) _ _ _ rfl (own_keep HOW.out (fun k hk => Below.heap_alloc _ _ _ (own_lt HOW.out k hk))) ⟨_, 0, none⟩ 1 1 _ rfl (by rfl) (newsB _ _ _ _ (by first | rfl | simp)) (by simp [Value.oneCell']) (by omega) (by unfold maxLen; first | omega | (simp; omega)) (by first | omega | (simp; omega)) (by simp; omega) _ rfl ?_; intro g cap w1 hown' hgrow hat hlg; have HOW2 := Lib.hid hown'; have HGR := Lib.hid hgrow; clear hown' hgrow)
        go_roundw
        case rel =>
          refine ⟨k + 1, by omega, by go_num, ?_, (HBR.out.alloc hwr _).grown HGR.out (by simp; omega) (fun q hq => (HOW.out.lt q hq).1)⟩
          have := HOW2.out
          rw [HP.out, ← HM.out, ← HT.out, HMR.out]
          simpa [tokCells, htk, Nat.add_assoc] using this
        case measure => simp [intOf]; omega
    · obtain rfl : k = l.length := by omega
      go_wp2_with fail
      go_ret
      refine ⟨_, rfl, ?_, HBR.out⟩
      have e : plainF l = m := by rw [HM.out, List.take_of_length_le (Nat.le_refl _)]
      rw [e]
      exact HOW.out
end Go.Proofs.Ytemdhbjcdibpfaa.N14
