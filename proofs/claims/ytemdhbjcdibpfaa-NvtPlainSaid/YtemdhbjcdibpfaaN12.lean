/- NvtPlain -/
import Derived.Test.YtemdhbjcdibpfaaN10
import Derived.Test.YtemdhbjcdibpfaaN11
namespace Go.Proofs.Ytemdhbjcdibpfaa.N12
set_option linter.unusedVariables false
set_option linter.unusedSimpArgs false
set_option linter.unnecessarySimpa false
open Go.RowKit K1 K3 K5 K11 K12 K14 N0 N1 N2 N3 N4 N5 N6 N7 N8 N9 N10 N11
attribute [local go_sem] cell_pastA froz_pastA
/-- bytes that are Data as they are -/
def Plain (bin : Bool) (c : UInt8) : Prop := c.toNat ≠ 255 ∧ (bin = true ∨ c.toNat ≠ 13)
structure Grd (bin : Bool) (q : Rd) : Prop where
  isBin : q.bin = bin
  st : q.st = 0
  data : q.data = []
  out : q.out = []
  sub : q.sub = []
  after : bin = false → q.after = false
theorem plain_step (q : Rd) (c : UInt8) (bin : Bool) (hb : q.bin = bin) (hs : q.st = 0) (ha : bin = false → q.after = false) (hc : Plain bin c) : stepF q c = { q with st := 0, after := decide (c.toNat = 13), data := q.data ++ [c] } := by
  have hk : tab q.st (cls c) = 1 := by
    rw [hs]
    unfold cls
    rw [if_neg hc.1]
    (repeat' split) <;> rfl
  unfold stepF
  rw [hk, if_neg (by decide)]
  show byteF { q with st := 0 } c = _
  unfold byteF
  rw [if_neg]
  rintro ⟨h1, h2, h3⟩
  simp only at h1 h3
  rw [hb] at h3
  rw [ha h3] at h1
  cases h1
theorem plain_fed : ∀ (p : List UInt8) (q : Rd) (bin : Bool), q.bin = bin → q.st = 0 → (bin = false → q.after = false) → (∀ c ∈ p, Plain bin c) → ∃ a, fedS q p = { q with after := a, data := q.data ++ p } ∧ (bin = false → a = false)
  | [], q, bin, _, _, ha, _ => ⟨q.after, by simp [fedS], ha⟩
  | c :: p, q, bin, hb, hs, ha, hc => by
    have h1 := plain_step q c bin hb hs ha (hc c (by simp))
    have hcc := hc c (by simp)
    obtain ⟨a, h2, h3⟩ := plain_fed p { q with st := 0, after := decide (c.toNat = 13), data := q.data ++ [c] } bin hb rfl (fun h => by rcases hcc.2 with h' | h'; rw [h] at h'; cases h'; simp [h']) (fun x hx => hc x (by simp [hx]))
    refine ⟨a, ?_, h3⟩
    show fedS (stepF q c) p = _
    rw [h1, h2]
    simp [hs]
theorem plain_feed (q : Rd) (bin : Bool) (p : List UInt8) (hq : Grd bin q) (hp : ∀ c ∈ p, Plain bin c) :
    (flushF (fedS q p)).out = (if p = [] then [] else [⟨0, 0, 0, p⟩]) ∧ Grd bin { flushF (fedS q p) with out := [] } := by
  obtain ⟨a, h1, h2⟩ := plain_fed p q bin hq.isBin hq.st hq.after hp
  rw [h1]
  unfold flushF
  simp only [hq.data, List.nil_append, hq.out]
  by_cases h : p = []
  · rw [if_pos h, if_pos h]
    exact ⟨rfl, hq.isBin, hq.st, h, rfl, hq.sub, h2⟩
  · rw [if_neg h, if_neg h]
    exact ⟨rfl, hq.isBin, hq.st, rfl, rfl, hq.sub, h2⟩
theorem len_of_mem {p : List UInt8} : ∀ {l : List (List UInt8)}, p ∈ l → p.length ≤ l.flatten.length
  | x :: l, h => by
    rw [List.mem_cons] at h
    rcases h with rfl | h
    · simp
    · have := len_of_mem h; simp at this ⊢; omega
theorem flat_snoc (l : List (List UInt8)) (k : Nat) (h : k < l.length) : (l.take (k + 1)).flatten = (l.take k).flatten ++ l[k] := by
  rw [List.take_succ_eq_append_getElem h, List.flatten_append]; simp
theorem take_len (l : List (List UInt8)) (k : Nat) : (l.take k).flatten.length ≤ l.flatten.length := by
  have h := congrArg (fun x => x.flatten.length) (List.take_append_drop k l)
  simp only [List.flatten_append, List.length_append] at h
  omega
theorem app_arr (a b : List UInt8) : (⟨(a ++ b).toArray⟩ : ByteArray) = ⟨a.toArray⟩ ++ ⟨b.toArray⟩ := by
  apply ByteArray.ext
  simp
set_option maxHeartbeats 8000000 in
set_option maxRecDepth 100000 in
theorem plain_any (s : ByteArray) (ao : Option Addr) (sb off n cap : Nat) (L : Nat → Int) (bin : Bool) (w : World) (hao : ao = some ⟨sb, off, none⟩ ∨ n = 0) (hnn : n ≤ 9223372036854775807) (hss : s.size ≤ 9223372036854775807) (hL : ∀ k, k < n → -9223372036854775808 ≤ L k ∧ L k ≤ 9223372036854775807)
    (hc : ∀ k, k < n → w.cell? ⟨sb, off + k, none⟩ = some (.int .i64 (L k))) (hsb : 0 < n → sb < w.heap.size) :
    Calls Try.prog 6 #[.string s, .slice ao n cap, .bool bin] w fun e w' => e = .returned (.bool true) ∧ Below w.heap.size w w' := by
  have HC := Lib.hid hc
  have HSB := Lib.hid hsb
  have HAO := Lib.hid hao
  have HL := Lib.hid hL
  clear hc hao hL hsb
  by_cases hbad : s.size > 500 ∨ n > 30
  · go_enter Try.func6, Try.ntmps6
    go_wp2_with (go_at_call 7; refine (alive_any _).mono ?_; rintro e w1 ⟨rfl, hb1⟩)
    all_goals
      go_ret
      exact ⟨rfl, by repeat' (first | with_reducible assumption | with_reducible exact Below.refl _ _ | with_reducible apply Below.alloc | with_reducible apply Below.setCell | with_reducible apply Below.drew | (refine Below.trans ?_ (Below.mono (by with_reducible assumption) ?_)) | omega | (simp; omega) | (simp; done))⟩
  · obtain ⟨hs1, hs2⟩ : s.size ≤ 500 ∧ n ≤ 30 := by omega
    clear hbad
    go_enter Try.func6, Try.ntmps6
    go_wp2_with (go_at_call 7; refine (alive_any _).mono ?_; rintro e w1 ⟨rfl, hb1⟩)
    go_loop [7] (fun i => ∃ k : Nat, k ≤ s.size ∧ i = .int .i64 k ∧ ∀ x ∈ s.data.toList.take k, Plain bin x) (fun i => s.size - (intOf i).toNat)
    case atStart => exact ⟨0, by omega, rfl, by simp⟩
    case round =>
      obtain ⟨k, hk, rfl, hall⟩ := hrel
      have HALL := Lib.hid hall
      clear hall
      by_cases hlt : k < s.size
      · by_cases hpl : Plain bin s[k]
        · have HPL := Lib.hid hpl
          have hq : (((s[k]).toNat : Int) == 255) = false := by have := hpl.1; simp; omega
          have hq2 : bin = true ∨ (((s[k]).toNat : Int) == 13) = false := by rcases hpl.2 with h | h; exact .inl h; right; simp; omega
          clear hpl
          rcases hq2 with rfl | hq2
          all_goals
            go_wp2_with fail
            all_goals
              go_round
              case rel => exact ⟨k + 1, by omega, by go_num, by rw [take_snoc s k hlt]; intro x hx; rw [List.mem_append, List.mem_singleton] at hx; rcases hx with hx | rfl; exact HALL.out x hx; exact HPL.out⟩
              case measure => simp [intOf]; omega
        · have hq : (((s[k]).toNat : Int) == 255) = true ∨ (bin = false ∧ (((s[k]).toNat : Int) == 255) = false ∧ (((s[k]).toNat : Int) == 13) = true) := by
            unfold Plain at hpl
            cases bin <;> simp at hpl ⊢ <;> omega
          clear hpl
          rcases hq with hq | ⟨rfl, hq, hq2⟩
          all_goals
            go_wp2_with fail
            go_ret
            exact ⟨rfl, by repeat' (first | with_reducible assumption | with_reducible exact Below.refl _ _ | with_reducible apply Below.alloc | with_reducible apply Below.setCell | with_reducible apply Below.drew | (refine Below.trans ?_ (Below.mono (by with_reducible assumption) ?_)) | omega | (simp; omega) | (simp; done))⟩
      · obtain rfl : k = s.size := by omega
        have hall2 : ∀ x ∈ s.data.toList, Plain bin x := by have := HALL.out; rwa [List.take_of_length_le (by simp)] at this
        have HA2 := Lib.hid hall2
        have HB1 := Lib.hid hb1
        clear hall2
        have hw1 := hb1.size
        go_wp2_with fail
        refine (cuts_any s ao sb off n _ L _ HAO.out (by omega) (by omega) HL.out (fun k hk => ?_) (fun h => ?_)).mono ?_
        · have h2 := HSB.out (by omega)
          exact ((World.cell?_of_block (Below.heap_alloc _ _ _ (by simp; omega))).trans (hb1.cell (p := ⟨sb, off + k, none⟩) h2)).trans (HC.out k hk)
        · have := HSB.out h
          simp; omega
        rintro e w2 ⟨v, parts, rfl, hv, hfl, hp0, hpn, hb2⟩
        obtain ⟨gp, cp, rfl, -, hgp⟩ := hv.form hp0
        obtain ⟨b1, hb1e⟩ : ∃ b1, b1 = w1.heap.size := ⟨_, rfl⟩
        have hgb : b1 < gp := by
          rcases hv.2 with ⟨h, _⟩ | ⟨g', c', cur, h, hb', _⟩
          · cases h
          · simp at h hb'; omega
        have hv0 : w2.ownsRow 0 9 1 (.slice (some ⟨gp, 0, none⟩) parts.length cp) parts.length (parts.map strV) := own_base hv
        have hsz2 := hb2.size
        simp at hsz2
        have hO0 : Rdr w2 b1 [b1] false (new bin) := rdr_new (blk_below ((blk_new hb1e).trans (by kernel_rfl)) hb2 (by simp; omega))
        have hB2 : Below w.heap.size w w2 := by
          refine Below.trans ?_ (hb2.mono (by simp; omega))
          have := HB1.out
          repeat' (first | with_reducible assumption | with_reducible exact Below.refl _ _ | with_reducible apply Below.alloc | with_reducible apply Below.setCell | with_reducible apply Below.drew | (refine Below.trans ?_ (Below.mono (by with_reducible assumption) ?_)) | omega | (simp; omega) | (simp; done))
        have hbw : w.heap.size ≤ b1 := by omega
        rw [← hb1e]
        have HFL := Lib.hid hfl
        have HV0 := Lib.hid hv0
        have HO0 := Lib.hid hO0
        have HB2 := Lib.hid hB2
        have hlp : parts.length ≤ 31 := by omega
        clear hv hv0 hO0 hB2 hb1 hb2 hfl hb1e hsz2 HC HSB HAO HL HB1
        go_wp2_with fail
        go_loopw [9, 11] (fun g i wr => ∃ (k : Nat) (S : List Nat) (o : Bool) (q : Rd), k ≤ parts.length ∧ g = .string ⟨((parts.take k).flatten).toArray⟩ ∧ i = .int .i64 k ∧ Rdr wr b1 S o q ∧ Grd bin q ∧ wr.ownsRow 0 9 1 (.slice (some ⟨gp, 0, none⟩) parts.length cp) parts.length (parts.map strV) ∧ gp ∉ S ∧ (∀ j ∈ S, w.heap.size ≤ j) ∧ Below w.heap.size w wr) (fun _ i _ => parts.length - (intOf i).toNat)
        case atStart => exact ⟨0, [b1], false, new bin, by omega, rfl, rfl, HO0.out, ⟨rfl, rfl, rfl, rfl, rfl, fun _ => rfl⟩, HV0.out, by simp; omega, by simpa using hbw, HB2.out⟩
        case round =>
          obtain ⟨k, S, o, q, hk, rfl, rfl, hO, hG, hV, hgS, hSw, hB⟩ := hrel
          have HO := Lib.hid hO
          have HG := Lib.hid hG
          have HV := Lib.hid hV
          have HB := Lib.hid hB
          have HSW := Lib.hid hSw
          clear hO hG hV hB hSw
          by_cases hlt : k < parts.length
          · obtain ⟨p, hp⟩ : ∃ p, p = parts[k] := ⟨_, rfl⟩
            have hmem : p ∈ parts := by rw [hp]; exact List.getElem_mem _
            have hpl : p.length ≤ 500 := by
              have h1 := len_of_mem hmem
              rw [HFL.out] at h1
              simp at h1; omega
            have hpp : ∀ x ∈ p, Plain bin x := fun x hx => HA2.out x (by rw [← HFL.out]; exact List.mem_flatten.2 ⟨p, hmem, hx⟩)
            have hck : wr.cell? ⟨gp, k, none⟩ = some (.string ⟨p.toArray⟩) := own_at HV.out (by rw [hp]; simp [hlt, strV])
            have hgl : gp < wr.heap.size := own_lt HV.out gp (by simp)
            have hsm : (List.take k (List.map List.length parts)).sum + p.length ≤ 500 := by
              have h1 := take_len parts (k + 1)
              rw [flat_snoc parts k hlt, ← hp, HFL.out, List.length_append, List.length_flatten, List.map_take] at h1
              simp at h1 ⊢
              omega
            have HP := Lib.hid (And.intro hp hpp)
            clear hp hpp hmem
            go_wp2_with fail
            have hO1 := Rdr.frame HO.out (Fr.of_below (S := []) ((Below.refl wr.heap.size wr).alloc (Nat.le_refl _) (.cells #[.string ⟨p.toArray⟩] 9))) (Nat.le_refl _) (by simp)
            refine (feed_any b1 S o q _ wr.heap.size 0 1 1 (fun _ => ⟨p.toArray⟩) hO1 (fun j hj => ?_) (by simp) (fun hm => absurd (HO.out.lt.1 _ hm) (by omega)) ?_ ?_ (by omega)).mono ?_
            · obtain rfl : j = 0 := by omega
              exact (cell_new rfl).trans rfl
            · have h0 : wgt q = 0 := by unfold wgt; rw [HG.out.data, HG.out.out]; rfl
              have h1 : (⟨p.toArray⟩ : ByteArray).size = p.length := by simp [ByteArray.size]
              simp only [tot, h0, h1]; omega
            · rw [HG.out.sub]; simp
            rintro e w3 ⟨v3, S3, rfl, hv3, hO3, hM3, hd3⟩
            have e1 : fedN q (fun _ => ⟨p.toArray⟩) 1 = fedS q p := by simp [fedN]
            obtain ⟨o1, o2⟩ := plain_feed q bin p HG.out HP.out.2
            rw [e1] at hv3 hO3
            rw [o1] at hv3
            have hck3 : w3.cell? ⟨gp, k, none⟩ = some (.string ⟨p.toArray⟩) := (World.cell?_of_block ((hM3.keep (by simp; omega) hgS).trans (Below.heap_alloc _ _ _ hgl))).trans hck
            have hg3 : gp < w3.heap.size := by have := hM3.size; simp at this; omega
            have HE := Lib.hid (show wr.ownsRow 0 9 1 (.slice (some ⟨gp, 0, none⟩) parts.length cp) parts.length (parts.map strV) → w3.ownsRow 0 9 1 (.slice (some ⟨gp, 0, none⟩) parts.length cp) parts.length (parts.map strV) from fun h => own_keep h (fun j hj => by simp at hj; subst hj; exact (hM3.keep (by simp; omega) hgS).trans (Below.heap_alloc _ _ _ hgl)))
            have HSS := Lib.hid (show gp ∉ S3 ∧ ∀ j ∈ S3, w.heap.size ≤ j from ⟨fun hm => by
                rcases hM3.sub gp (by simp [hm]) with h | h
                · exact hgS h
                · simp at h; omega, fun j hj => by
                rcases hM3.sub j (by simp [hj]) with h | h
                · exact HSW.out j h
                · have := HB.out.size; simp at h; omega⟩)
            have HB3 := Lib.hid (show Below w.heap.size w w3 from by
              have := HB.out.size
              refine Below.trans (HB.out.alloc this (.cells #[.string ⟨p.toArray⟩] 9)) (hM3.below (by simp; omega) HSW.out))
            have HO3 := Lib.hid hO3
            have HG3 := Lib.hid o2
            clear hO3 o2 hM3 hd3 hck o1 e1 hO1
            by_cases hpe : p = []
            · subst hpe
              simp only [if_true] at hv3
              obtain ⟨va, vc, rfl, -⟩ := own_slice hv3
              clear hv3
              go_wp2_with fail
              refine wp_region_quiet0 (w := _) [] [] 38 (by kernel_rfl) (by kernel_rfl) (fun _ _ dx _ _ hx => by cases dx <;> exact hx) ?_
              simp only [numbered, List.take_succ_cons, List.take_zero, List.drop_succ_cons, List.drop_zero, List.take_nil, List.drop_nil, Nat.reduceAdd]
              (refine wz_do (by decide) (by decide) C0e.es (growsB (by simp)) ?_ ?_; (focus (first | rfl | (go_simp; done))); apply Exists.intro; refine ⟨fun bs hok wx hwx hL => ?_, ?_⟩; (focus ((have hwx : Below _ _ wx := hwx; have hcx := cellA hwx; have hfx := frozA hwx; have hzx := hwx.size; (try simp at hzx)); unfold zAt; (try simp [go_sem, BigFrame.eval_const, BigFrame.eval_global, BigFrame.eval_func, ↓IntWalk.iteOmega, *]); (try simp only [zUpon]); (first | exact ⟨rfl, Below.refl _ _⟩ | fail))); (try go_simp))
              (refine wz_do (by decide) (by decide) C0e.es (growsB (by simp)) ?_ ?_; (focus (first | rfl | (go_simp; done))); apply Exists.intro; refine ⟨fun bs hok wx hwx hL => ?_, ?_⟩; (focus ((have hwx : Below _ _ wx := hwx; have hcx := cellA hwx; have hfx := frozA hwx; have hzx := hwx.size; (try simp at hzx)); unfold zAt; (try simp [go_sem, BigFrame.eval_const, BigFrame.eval_global, BigFrame.eval_func, ↓IntWalk.iteOmega, *]); (try simp only [zUpon]); (first | exact ⟨rfl, Below.refl _ _⟩ | fail))); (try go_simp))
              (refine wz_do (by decide) (by decide) C0e.es (growsB (by simp)) ?_ ?_; (focus (first | rfl | (go_simp; done))); apply Exists.intro; refine ⟨fun bs hok wx hwx hL => ?_, ?_⟩; (focus ((have hwx : Below _ _ wx := hwx; have hcx := cellA hwx; have hfx := frozA hwx; have hzx := hwx.size; (try simp at hzx)); unfold zAt; (try simp [go_sem, BigFrame.eval_const, BigFrame.eval_global, BigFrame.eval_func, ↓IntWalk.iteOmega, *]); (try simp only [zUpon]); (first | exact ⟨rfl, Below.refl _ _⟩ | fail))); (try go_simp))
              (refine wz_do (by decide) (by decide) C0e.es (growsB (by simp)) ?_ ?_; (focus (first | rfl | (go_simp; done))); apply Exists.intro; refine ⟨fun bs hok wx hwx hL => ?_, ?_⟩; (focus ((have hwx : Below _ _ wx := hwx; have hcx := cellA hwx; have hfx := frozA hwx; have hzx := hwx.size; (try simp at hzx)); unfold zAt; (try simp [go_sem, BigFrame.eval_const, BigFrame.eval_global, BigFrame.eval_func, ↓IntWalk.iteOmega, *]); (try simp only [zUpon]); (first | exact ⟨rfl, Below.refl _ _⟩ | fail))); (try go_simp))
              (first | (refine wz_skip (by decide) ?_ ?_; (focus (go_simp; first | done | (simp [undef]; done))); (try go_simp)) | (refine wz_do (by decide) (by decide) C0e.es (growsB (by simp)) ?_ ?_; (focus (first | rfl | (go_simp; done))); apply Exists.intro; refine ⟨fun bs hok wx hwx hL => ?_, ?_⟩; (focus ((have hwx : Below _ _ wx := hwx; have hcx := cellA hwx; have hfx := frozA hwx; have hzx := hwx.size; (try simp at hzx)); unfold zAt; (try simp [go_sem, BigFrame.eval_const, BigFrame.eval_global, BigFrame.eval_func, ↓IntWalk.iteOmega, *]); (try simp only [zUpon]); (first | exact ⟨rfl, Below.refl _ _⟩ | fail))); (try go_simp)))
              (first | (refine wz_skip (by decide) ?_ ?_; (focus (go_simp; first | done | (simp [undef]; done))); (try go_simp)) | (refine wz_do (by decide) (by decide) C0e.es (growsB (by simp)) ?_ ?_; (focus (first | rfl | (go_simp; done))); apply Exists.intro; refine ⟨fun bs hok wx hwx hL => ?_, ?_⟩; (focus ((have hwx : Below _ _ wx := hwx; have hcx := cellA hwx; have hfx := frozA hwx; have hzx := hwx.size; (try simp at hzx)); unfold zAt; (try simp [go_sem, BigFrame.eval_const, BigFrame.eval_global, BigFrame.eval_func, ↓IntWalk.iteOmega, *]); (try simp only [zUpon]); (first | exact ⟨rfl, Below.refl _ _⟩ | fail))); (try go_simp)))
              (first | (refine wz_skip (by decide) ?_ ?_; (focus (go_simp; first | done | (simp [undef]; done))); (try go_simp)) | (refine wz_do (by decide) (by decide) C0e.es (growsB (by simp)) ?_ ?_; (focus (first | rfl | (go_simp; done))); apply Exists.intro; refine ⟨fun bs hok wx hwx hL => ?_, ?_⟩; (focus ((have hwx : Below _ _ wx := hwx; have hcx := cellA hwx; have hfx := frozA hwx; have hzx := hwx.size; (try simp at hzx)); unfold zAt; (try simp [go_sem, BigFrame.eval_const, BigFrame.eval_global, BigFrame.eval_func, ↓IntWalk.iteOmega, *]); (try simp only [zUpon]); (first | exact ⟨rfl, Below.refl _ _⟩ | fail))); (try go_simp)))
              (first | (refine wz_skip (by decide) ?_ ?_; (focus (go_simp; first | done | (simp [undef]; done))); (try go_simp)) | (refine wz_do (by decide) (by decide) C0e.es (growsB (by simp)) ?_ ?_; (focus (first | rfl | (go_simp; done))); apply Exists.intro; refine ⟨fun bs hok wx hwx hL => ?_, ?_⟩; (focus ((have hwx : Below _ _ wx := hwx; have hcx := cellA hwx; have hfx := frozA hwx; have hzx := hwx.size; (try simp at hzx)); unfold zAt; (try simp [go_sem, BigFrame.eval_const, BigFrame.eval_global, BigFrame.eval_func, ↓IntWalk.iteOmega, *]); (try simp only [zUpon]); (first | exact ⟨rfl, Below.refl _ _⟩ | fail))); (try go_simp)))
              (first | (refine wz_skip (by decide) ?_ ?_; (focus (go_simp; first | done | (simp [undef]; done))); (try go_simp)) | (refine wz_do (by decide) (by decide) C0e.es (growsB (by simp)) ?_ ?_; (focus (first | rfl | (go_simp; done))); apply Exists.intro; refine ⟨fun bs hok wx hwx hL => ?_, ?_⟩; (focus ((have hwx : Below _ _ wx := hwx; have hcx := cellA hwx; have hfx := frozA hwx; have hzx := hwx.size; (try simp at hzx)); unfold zAt; (try simp [go_sem, BigFrame.eval_const, BigFrame.eval_global, BigFrame.eval_func, ↓IntWalk.iteOmega, *]); (try simp only [zUpon]); (first | exact ⟨rfl, Below.refl _ _⟩ | fail))); (try go_simp)))
              (first | (refine wz_skip (by decide) ?_ ?_; (focus (go_simp; first | done | (simp [undef]; done))); (try go_simp)) | (refine wz_do (by decide) (by decide) C0e.es (growsB (by simp)) ?_ ?_; (focus (first | rfl | (go_simp; done))); apply Exists.intro; refine ⟨fun bs hok wx hwx hL => ?_, ?_⟩; (focus ((have hwx : Below _ _ wx := hwx; have hcx := cellA hwx; have hfx := frozA hwx; have hzx := hwx.size; (try simp at hzx)); unfold zAt; (try simp [go_sem, BigFrame.eval_const, BigFrame.eval_global, BigFrame.eval_func, ↓IntWalk.iteOmega, *]); (try simp only [zUpon]); (first | exact ⟨rfl, Below.refl _ _⟩ | fail))); (try go_simp)))
              (first | (refine wz_skip (by decide) ?_ ?_; (focus (go_simp; first | done | (simp [undef]; done))); (try go_simp)) | (refine wz_do (by decide) (by decide) C0e.es (growsB (by simp)) ?_ ?_; (focus (first | rfl | (go_simp; done))); apply Exists.intro; refine ⟨fun bs hok wx hwx hL => ?_, ?_⟩; (focus ((have hwx : Below _ _ wx := hwx; have hcx := cellA hwx; have hfx := frozA hwx; have hzx := hwx.size; (try simp at hzx)); unfold zAt; (try simp [go_sem, BigFrame.eval_const, BigFrame.eval_global, BigFrame.eval_func, ↓IntWalk.iteOmega, *]); (try simp only [zUpon]); (first | exact ⟨rfl, Below.refl _ _⟩ | fail))); (try go_simp)))
              (first | (refine wz_skip (by decide) ?_ ?_; (focus (go_simp; first | done | (simp [undef]; done))); (try go_simp)) | (refine wz_do (by decide) (by decide) C0e.es (growsB (by simp)) ?_ ?_; (focus (first | rfl | (go_simp; done))); apply Exists.intro; refine ⟨fun bs hok wx hwx hL => ?_, ?_⟩; (focus ((have hwx : Below _ _ wx := hwx; have hcx := cellA hwx; have hfx := frozA hwx; have hzx := hwx.size; (try simp at hzx)); unfold zAt; (try simp [go_sem, BigFrame.eval_const, BigFrame.eval_global, BigFrame.eval_func, ↓IntWalk.iteOmega, *]); (try simp only [zUpon]); (first | exact ⟨rfl, Below.refl _ _⟩ | fail))); (try go_simp)))
              (first | (refine wz_skip (by decide) ?_ ?_; (focus (go_simp; first | done | (simp [undef]; done))); (try go_simp)) | (refine wz_do (by decide) (by decide) C0e.es (growsB (by simp)) ?_ ?_; (focus (first | rfl | (go_simp; done))); apply Exists.intro; refine ⟨fun bs hok wx hwx hL => ?_, ?_⟩; (focus ((have hwx : Below _ _ wx := hwx; have hcx := cellA hwx; have hfx := frozA hwx; have hzx := hwx.size; (try simp at hzx)); unfold zAt; (try simp [go_sem, BigFrame.eval_const, BigFrame.eval_global, BigFrame.eval_func, ↓IntWalk.iteOmega, *]); (try simp only [zUpon]); (first | exact ⟨rfl, Below.refl _ _⟩ | fail))); (try go_simp)))
              (first | (refine wz_skip (by decide) ?_ ?_; (focus (go_simp; first | done | (simp [undef]; done))); (try go_simp)) | (refine wz_do (by decide) (by decide) C0e.es (growsB (by simp)) ?_ ?_; (focus (first | rfl | (go_simp; done))); apply Exists.intro; refine ⟨fun bs hok wx hwx hL => ?_, ?_⟩; (focus ((have hwx : Below _ _ wx := hwx; have hcx := cellA hwx; have hfx := frozA hwx; have hzx := hwx.size; (try simp at hzx)); unfold zAt; (try simp [go_sem, BigFrame.eval_const, BigFrame.eval_global, BigFrame.eval_func, ↓IntWalk.iteOmega, *]); (try simp only [zUpon]); (first | exact ⟨rfl, Below.refl _ _⟩ | fail))); (try go_simp)))
              (first | (refine wz_skip (by decide) ?_ ?_; (focus (go_simp; first | done | (simp [undef]; done))); (try go_simp)) | (refine wz_do (by decide) (by decide) C0e.es (growsB (by simp)) ?_ ?_; (focus (first | rfl | (go_simp; done))); apply Exists.intro; refine ⟨fun bs hok wx hwx hL => ?_, ?_⟩; (focus ((have hwx : Below _ _ wx := hwx; have hcx := cellA hwx; have hfx := frozA hwx; have hzx := hwx.size; (try simp at hzx)); unfold zAt; (try simp [go_sem, BigFrame.eval_const, BigFrame.eval_global, BigFrame.eval_func, ↓IntWalk.iteOmega, *]); (try simp only [zUpon]); (first | exact ⟨rfl, Below.refl _ _⟩ | fail))); (try go_simp)))
              (first | (refine wz_skip (by decide) ?_ ?_; (focus (go_simp; first | done | (simp [undef]; done))); (try go_simp)) | (refine wz_do (by decide) (by decide) C0e.es (growsB (by simp)) ?_ ?_; (focus (first | rfl | (go_simp; done))); apply Exists.intro; refine ⟨fun bs hok wx hwx hL => ?_, ?_⟩; (focus ((have hwx : Below _ _ wx := hwx; have hcx := cellA hwx; have hfx := frozA hwx; have hzx := hwx.size; (try simp at hzx)); unfold zAt; (try simp [go_sem, BigFrame.eval_const, BigFrame.eval_global, BigFrame.eval_func, ↓IntWalk.iteOmega, *]); (try simp only [zUpon]); (first | exact ⟨rfl, Below.refl _ _⟩ | fail))); (try go_simp)))
              (first | (refine wz_skip (by decide) ?_ ?_; (focus (go_simp; first | done | (simp [undef]; done))); (try go_simp)) | (refine wz_do (by decide) (by decide) C0e.es (growsB (by simp)) ?_ ?_; (focus (first | rfl | (go_simp; done))); apply Exists.intro; refine ⟨fun bs hok wx hwx hL => ?_, ?_⟩; (focus ((have hwx : Below _ _ wx := hwx; have hcx := cellA hwx; have hfx := frozA hwx; have hzx := hwx.size; (try simp at hzx)); unfold zAt; (try simp [go_sem, BigFrame.eval_const, BigFrame.eval_global, BigFrame.eval_func, ↓IntWalk.iteOmega, *]); (try simp only [zUpon]); (first | exact ⟨rfl, Below.refl _ _⟩ | fail))); (try go_simp)))
              (first | (refine wz_skip (by decide) ?_ ?_; (focus (go_simp; first | done | (simp [undef]; done))); (try go_simp)) | (refine wz_do (by decide) (by decide) C0e.es (growsB (by simp)) ?_ ?_; (focus (first | rfl | (go_simp; done))); apply Exists.intro; refine ⟨fun bs hok wx hwx hL => ?_, ?_⟩; (focus ((have hwx : Below _ _ wx := hwx; have hcx := cellA hwx; have hfx := frozA hwx; have hzx := hwx.size; (try simp at hzx)); unfold zAt; (try simp [go_sem, BigFrame.eval_const, BigFrame.eval_global, BigFrame.eval_func, ↓IntWalk.iteOmega, *]); (try simp only [zUpon]); (first | exact ⟨rfl, Below.refl _ _⟩ | fail))); (try go_simp)))
              (first | (refine wz_skip (by decide) ?_ ?_; (focus (go_simp; first | done | (simp [undef]; done))); (try go_simp)) | (refine wz_do (by decide) (by decide) C0e.es (growsB (by simp)) ?_ ?_; (focus (first | rfl | (go_simp; done))); apply Exists.intro; refine ⟨fun bs hok wx hwx hL => ?_, ?_⟩; (focus ((have hwx : Below _ _ wx := hwx; have hcx := cellA hwx; have hfx := frozA hwx; have hzx := hwx.size; (try simp at hzx)); unfold zAt; (try simp [go_sem, BigFrame.eval_const, BigFrame.eval_global, BigFrame.eval_func, ↓IntWalk.iteOmega, *]); (try simp only [zUpon]); (first | exact ⟨rfl, Below.refl _ _⟩ | fail))); (try go_simp)))
              (first | (refine wz_skip (by decide) ?_ ?_; (focus (go_simp; first | done | (simp [undef]; done))); (try go_simp)) | (refine wz_do (by decide) (by decide) C0e.es (growsB (by simp)) ?_ ?_; (focus (first | rfl | (go_simp; done))); apply Exists.intro; refine ⟨fun bs hok wx hwx hL => ?_, ?_⟩; (focus ((have hwx : Below _ _ wx := hwx; have hcx := cellA hwx; have hfx := frozA hwx; have hzx := hwx.size; (try simp at hzx)); unfold zAt; (try simp [go_sem, BigFrame.eval_const, BigFrame.eval_global, BigFrame.eval_func, ↓IntWalk.iteOmega, *]); (try simp only [zUpon]); (first | exact ⟨rfl, Below.refl _ _⟩ | fail))); (try go_simp)))
              (first | (refine wz_skip (by decide) ?_ ?_; (focus (go_simp; first | done | (simp [undef]; done))); (try go_simp)) | (refine wz_do (by decide) (by decide) C0e.es (growsB (by simp)) ?_ ?_; (focus (first | rfl | (go_simp; done))); apply Exists.intro; refine ⟨fun bs hok wx hwx hL => ?_, ?_⟩; (focus ((have hwx : Below _ _ wx := hwx; have hcx := cellA hwx; have hfx := frozA hwx; have hzx := hwx.size; (try simp at hzx)); unfold zAt; (try simp [go_sem, BigFrame.eval_const, BigFrame.eval_global, BigFrame.eval_func, ↓IntWalk.iteOmega, *]); (try simp only [zUpon]); (first | exact ⟨rfl, Below.refl _ _⟩ | fail))); (try go_simp)))
              (first | (refine wz_skip (by decide) ?_ ?_; (focus (go_simp; first | done | (simp [undef]; done))); (try go_simp)) | (refine wz_do (by decide) (by decide) C0e.es (growsB (by simp)) ?_ ?_; (focus (first | rfl | (go_simp; done))); apply Exists.intro; refine ⟨fun bs hok wx hwx hL => ?_, ?_⟩; (focus ((have hwx : Below _ _ wx := hwx; have hcx := cellA hwx; have hfx := frozA hwx; have hzx := hwx.size; (try simp at hzx)); unfold zAt; (try simp [go_sem, BigFrame.eval_const, BigFrame.eval_global, BigFrame.eval_func, ↓IntWalk.iteOmega, *]); (try simp only [zUpon]); (first | exact ⟨rfl, Below.refl _ _⟩ | fail))); (try go_simp)))
              (first | (refine wz_skip (by decide) ?_ ?_; (focus (go_simp; first | done | (simp [undef]; done))); (try go_simp)) | (refine wz_do (by decide) (by decide) C0e.es (growsB (by simp)) ?_ ?_; (focus (first | rfl | (go_simp; done))); apply Exists.intro; refine ⟨fun bs hok wx hwx hL => ?_, ?_⟩; (focus ((have hwx : Below _ _ wx := hwx; have hcx := cellA hwx; have hfx := frozA hwx; have hzx := hwx.size; (try simp at hzx)); unfold zAt; (try simp [go_sem, BigFrame.eval_const, BigFrame.eval_global, BigFrame.eval_func, ↓IntWalk.iteOmega, *]); (try simp only [zUpon]); (first | exact ⟨rfl, Below.refl _ _⟩ | fail))); (try go_simp)))
              (first | (refine wz_skip (by decide) ?_ ?_; (focus (go_simp; first | done | (simp [undef]; done))); (try go_simp)) | (refine wz_do (by decide) (by decide) C0e.es (growsB (by simp)) ?_ ?_; (focus (first | rfl | (go_simp; done))); apply Exists.intro; refine ⟨fun bs hok wx hwx hL => ?_, ?_⟩; (focus ((have hwx : Below _ _ wx := hwx; have hcx := cellA hwx; have hfx := frozA hwx; have hzx := hwx.size; (try simp at hzx)); unfold zAt; (try simp [go_sem, BigFrame.eval_const, BigFrame.eval_global, BigFrame.eval_func, ↓IntWalk.iteOmega, *]); (try simp only [zUpon]); (first | exact ⟨rfl, Below.refl _ _⟩ | fail))); (try go_simp)))
              (first | (refine wz_skip (by decide) ?_ ?_; (focus (go_simp; first | done | (simp [undef]; done))); (try go_simp)) | (refine wz_do (by decide) (by decide) C0e.es (growsB (by simp)) ?_ ?_; (focus (first | rfl | (go_simp; done))); apply Exists.intro; refine ⟨fun bs hok wx hwx hL => ?_, ?_⟩; (focus ((have hwx : Below _ _ wx := hwx; have hcx := cellA hwx; have hfx := frozA hwx; have hzx := hwx.size; (try simp at hzx)); unfold zAt; (try simp [go_sem, BigFrame.eval_const, BigFrame.eval_global, BigFrame.eval_func, ↓IntWalk.iteOmega, *]); (try simp only [zUpon]); (first | exact ⟨rfl, Below.refl _ _⟩ | fail))); (try go_simp)))
              (refine wz_do (by decide) (by decide) C0e.es (growsB (by simp)) ?_ ?_; (focus (first | rfl | (go_simp; done))); apply Exists.intro; refine ⟨fun bs hok wx hwx hL => ?_, ?_⟩; (focus ((have hwx : Below _ _ wx := hwx; have hcx := cellA hwx; have hfx := frozA hwx; have hzx := hwx.size; (try simp at hzx)); unfold zAt; (try simp [go_sem, BigFrame.eval_const, BigFrame.eval_global, BigFrame.eval_func, ↓IntWalk.iteOmega, *]); (try simp only [zUpon]); (first | exact ⟨rfl, Below.refl _ _⟩ | fail))); (try go_simp))
              (refine wz_do (by decide) (by decide) C0e.es (growsB (by simp)) ?_ ?_; (focus (first | rfl | (go_simp; done))); apply Exists.intro; refine ⟨fun bs hok wx hwx hL => ?_, ?_⟩; (focus ((have hwx : Below _ _ wx := hwx; have hcx := cellA hwx; have hfx := frozA hwx; have hzx := hwx.size; (try simp at hzx)); unfold zAt; (try simp [go_sem, BigFrame.eval_const, BigFrame.eval_global, BigFrame.eval_func, ↓IntWalk.iteOmega, *]); (try simp only [zUpon]); (first | exact ⟨rfl, Below.refl _ _⟩ | fail))); (try go_simp))
              (first | (refine wz_skip (by decide) ?_ ?_; (focus (go_simp; first | done | (simp [undef]; done))); (try go_simp)) | (refine wz_do (by decide) (by decide) C0e.es (growsB (by simp)) ?_ ?_; (focus (first | rfl | (go_simp; done))); apply Exists.intro; refine ⟨fun bs hok wx hwx hL => ?_, ?_⟩; (focus ((have hwx : Below _ _ wx := hwx; have hcx := cellA hwx; have hfx := frozA hwx; have hzx := hwx.size; (try simp at hzx)); unfold zAt; (try simp [go_sem, BigFrame.eval_const, BigFrame.eval_global, BigFrame.eval_func, ↓IntWalk.iteOmega, *]); (try simp only [zUpon]); (first | exact ⟨rfl, Below.refl _ _⟩ | fail))); (try go_simp)))
              (first | (refine wz_skip (by decide) ?_ ?_; (focus (go_simp; first | done | (simp [undef]; done))); (try go_simp)) | (refine wz_do (by decide) (by decide) C0e.es (growsB (by simp)) ?_ ?_; (focus (first | rfl | (go_simp; done))); apply Exists.intro; refine ⟨fun bs hok wx hwx hL => ?_, ?_⟩; (focus ((have hwx : Below _ _ wx := hwx; have hcx := cellA hwx; have hfx := frozA hwx; have hzx := hwx.size; (try simp at hzx)); unfold zAt; (try simp [go_sem, BigFrame.eval_const, BigFrame.eval_global, BigFrame.eval_func, ↓IntWalk.iteOmega, *]); (try simp only [zUpon]); (first | exact ⟨rfl, Below.refl _ _⟩ | fail))); (try go_simp)))
              (first | (refine wz_skip (by decide) ?_ ?_; (focus (go_simp; first | done | (simp [undef]; done))); (try go_simp)) | (refine wz_do (by decide) (by decide) C0e.es (growsB (by simp)) ?_ ?_; (focus (first | rfl | (go_simp; done))); apply Exists.intro; refine ⟨fun bs hok wx hwx hL => ?_, ?_⟩; (focus ((have hwx : Below _ _ wx := hwx; have hcx := cellA hwx; have hfx := frozA hwx; have hzx := hwx.size; (try simp at hzx)); unfold zAt; (try simp [go_sem, BigFrame.eval_const, BigFrame.eval_global, BigFrame.eval_func, ↓IntWalk.iteOmega, *]); (try simp only [zUpon]); (first | exact ⟨rfl, Below.refl _ _⟩ | fail))); (try go_simp)))
              (first | (refine wz_skip (by decide) ?_ ?_; (focus (go_simp; first | done | (simp [undef]; done))); (try go_simp)) | (refine wz_do (by decide) (by decide) C0e.es (growsB (by simp)) ?_ ?_; (focus (first | rfl | (go_simp; done))); apply Exists.intro; refine ⟨fun bs hok wx hwx hL => ?_, ?_⟩; (focus ((have hwx : Below _ _ wx := hwx; have hcx := cellA hwx; have hfx := frozA hwx; have hzx := hwx.size; (try simp at hzx)); unfold zAt; (try simp [go_sem, BigFrame.eval_const, BigFrame.eval_global, BigFrame.eval_func, ↓IntWalk.iteOmega, *]); (try simp only [zUpon]); (first | exact ⟨rfl, Below.refl _ _⟩ | fail))); (try go_simp)))
              (first | (refine wz_skip (by decide) ?_ ?_; (focus (go_simp; first | done | (simp [undef]; done))); (try go_simp)) | (refine wz_do (by decide) (by decide) C0e.es (growsB (by simp)) ?_ ?_; (focus (first | rfl | (go_simp; done))); apply Exists.intro; refine ⟨fun bs hok wx hwx hL => ?_, ?_⟩; (focus ((have hwx : Below _ _ wx := hwx; have hcx := cellA hwx; have hfx := frozA hwx; have hzx := hwx.size; (try simp at hzx)); unfold zAt; (try simp [go_sem, BigFrame.eval_const, BigFrame.eval_global, BigFrame.eval_func, ↓IntWalk.iteOmega, *]); (try simp only [zUpon]); (first | exact ⟨rfl, Below.refl _ _⟩ | fail))); (try go_simp)))
              (first | (refine wz_skip (by decide) ?_ ?_; (focus (go_simp; first | done | (simp [undef]; done))); (try go_simp)) | (refine wz_do (by decide) (by decide) C0e.es (growsB (by simp)) ?_ ?_; (focus (first | rfl | (go_simp; done))); apply Exists.intro; refine ⟨fun bs hok wx hwx hL => ?_, ?_⟩; (focus ((have hwx : Below _ _ wx := hwx; have hcx := cellA hwx; have hfx := frozA hwx; have hzx := hwx.size; (try simp at hzx)); unfold zAt; (try simp [go_sem, BigFrame.eval_const, BigFrame.eval_global, BigFrame.eval_func, ↓IntWalk.iteOmega, *]); (try simp only [zUpon]); (first | exact ⟨rfl, Below.refl _ _⟩ | fail))); (try go_simp)))
              (first | (refine wz_skip (by decide) ?_ ?_; (focus (go_simp; first | done | (simp [undef]; done))); (try go_simp)) | (refine wz_do (by decide) (by decide) C0e.es (growsB (by simp)) ?_ ?_; (focus (first | rfl | (go_simp; done))); apply Exists.intro; refine ⟨fun bs hok wx hwx hL => ?_, ?_⟩; (focus ((have hwx : Below _ _ wx := hwx; have hcx := cellA hwx; have hfx := frozA hwx; have hzx := hwx.size; (try simp at hzx)); unfold zAt; (try simp [go_sem, BigFrame.eval_const, BigFrame.eval_global, BigFrame.eval_func, ↓IntWalk.iteOmega, *]); (try simp only [zUpon]); (first | exact ⟨rfl, Below.refl _ _⟩ | fail))); (try go_simp)))
              (first | (refine wz_skip (by decide) ?_ ?_; (focus (go_simp; first | done | (simp [undef]; done))); (try go_simp)) | (refine wz_do (by decide) (by decide) C0e.es (growsB (by simp)) ?_ ?_; (focus (first | rfl | (go_simp; done))); apply Exists.intro; refine ⟨fun bs hok wx hwx hL => ?_, ?_⟩; (focus ((have hwx : Below _ _ wx := hwx; have hcx := cellA hwx; have hfx := frozA hwx; have hzx := hwx.size; (try simp at hzx)); unfold zAt; (try simp [go_sem, BigFrame.eval_const, BigFrame.eval_global, BigFrame.eval_func, ↓IntWalk.iteOmega, *]); (try simp only [zUpon]); (first | exact ⟨rfl, Below.refl _ _⟩ | fail))); (try go_simp)))
              (first | (refine wz_skip (by decide) ?_ ?_; (focus (go_simp; first | done | (simp [undef]; done))); (try go_simp)) | (refine wz_do (by decide) (by decide) C0e.es (growsB (by simp)) ?_ ?_; (focus (first | rfl | (go_simp; done))); apply Exists.intro; refine ⟨fun bs hok wx hwx hL => ?_, ?_⟩; (focus ((have hwx : Below _ _ wx := hwx; have hcx := cellA hwx; have hfx := frozA hwx; have hzx := hwx.size; (try simp at hzx)); unfold zAt; (try simp [go_sem, BigFrame.eval_const, BigFrame.eval_global, BigFrame.eval_func, ↓IntWalk.iteOmega, *]); (try simp only [zUpon]); (first | exact ⟨rfl, Below.refl _ _⟩ | fail))); (try go_simp)))
              (first | (refine wz_skip (by decide) ?_ ?_; (focus (go_simp; first | done | (simp [undef]; done))); (try go_simp)) | (refine wz_do (by decide) (by decide) C0e.es (growsB (by simp)) ?_ ?_; (focus (first | rfl | (go_simp; done))); apply Exists.intro; refine ⟨fun bs hok wx hwx hL => ?_, ?_⟩; (focus ((have hwx : Below _ _ wx := hwx; have hcx := cellA hwx; have hfx := frozA hwx; have hzx := hwx.size; (try simp at hzx)); unfold zAt; (try simp [go_sem, BigFrame.eval_const, BigFrame.eval_global, BigFrame.eval_func, ↓IntWalk.iteOmega, *]); (try simp only [zUpon]); (first | exact ⟨rfl, Below.refl _ _⟩ | fail))); (try go_simp)))
              (refine wz_do (by decide) (by decide) C0e.es (growsB (by simp)) ?_ ?_; (focus (first | rfl | (go_simp; done))); apply Exists.intro; refine ⟨fun bs hok wx hwx hL => ?_, ?_⟩; (focus ((have hwx : Below _ _ wx := hwx; have hcx := cellA hwx; have hfx := frozA hwx; have hzx := hwx.size; (try simp at hzx)); unfold zAt; (try simp [go_sem, BigFrame.eval_const, BigFrame.eval_global, BigFrame.eval_func, ↓IntWalk.iteOmega, *]); (try simp only [zUpon]); (first | exact ⟨rfl, Below.refl _ _⟩ | fail))); (try go_simp))
              refine wz_nil ?_
              intro wq hbq hLq
              clear hLq 
              have hcwq := cellA hbq
              have hfwq := frozA hbq
              have hzwq := hbq.size
              try simp at hzwq
              go_wp2_with fail
              go_roundw
              case rel => exact ⟨k + 1, S3, true, _, by omega, by rw [flat_snoc parts k hlt, ← HP.out.1, app_arr], by go_num, Rdr.frame HO3.out (Fr.of_below (S := []) hbq) (Nat.le_refl _) (by simp), HG3.out, own_keep (HE.out HV.out) (fun j hj => hbq.block j (by simp at hj; omega)), HSS.out.1, HSS.out.2, HB3.out.trans (hbq.mono (by have := HB3.out.size; omega))⟩
              case measure => simp [intOf]; omega
            · rw [if_neg hpe] at hv3
              obtain ⟨g3, c3, rfl, -, hl3⟩ := hv3.form (by simp)
              have a0 := own_at hv3 (j := 0) (u := .int .i64 0) rfl
              have a3 := own_at hv3 (j := 3) (u := .string ⟨p.toArray⟩) rfl
              clear hv3
              go_wp2_with fail
              refine wp_region_quiet0 (w := _) [] [] 38 (by kernel_rfl) (by kernel_rfl) (fun _ _ dx _ _ hx => by cases dx <;> exact hx) ?_
              simp only [numbered, List.take_succ_cons, List.take_zero, List.drop_succ_cons, List.drop_zero, List.take_nil, List.drop_nil, Nat.reduceAdd]
              (refine wz_do (by decide) (by decide) C0e.es (growsB (by simp)) ?_ ?_; (focus (first | rfl | (go_simp; done))); apply Exists.intro; refine ⟨fun bs hok wx hwx hL => ?_, ?_⟩; (focus ((have hwx : Below _ _ wx := hwx; have hcx := cellA hwx; have hfx := frozA hwx; have hzx := hwx.size; (try simp at hzx)); unfold zAt; (try simp [go_sem, BigFrame.eval_const, BigFrame.eval_global, BigFrame.eval_func, ↓IntWalk.iteOmega, *]); (try simp only [zUpon]); (first | exact ⟨rfl, Below.refl _ _⟩ | fail))); (try go_simp))
              (refine wz_do (by decide) (by decide) C0e.es (growsB (by simp)) ?_ ?_; (focus (first | rfl | (go_simp; done))); apply Exists.intro; refine ⟨fun bs hok wx hwx hL => ?_, ?_⟩; (focus ((have hwx : Below _ _ wx := hwx; have hcx := cellA hwx; have hfx := frozA hwx; have hzx := hwx.size; (try simp at hzx)); unfold zAt; (try simp [go_sem, BigFrame.eval_const, BigFrame.eval_global, BigFrame.eval_func, ↓IntWalk.iteOmega, *]); (try simp only [zUpon]); (first | exact ⟨rfl, Below.refl _ _⟩ | fail))); (try go_simp))
              (refine wz_do (by decide) (by decide) C0e.es (growsB (by simp)) ?_ ?_; (focus (first | rfl | (go_simp; done))); apply Exists.intro; refine ⟨fun bs hok wx hwx hL => ?_, ?_⟩; (focus ((have hwx : Below _ _ wx := hwx; have hcx := cellA hwx; have hfx := frozA hwx; have hzx := hwx.size; (try simp at hzx)); unfold zAt; (try simp [go_sem, BigFrame.eval_const, BigFrame.eval_global, BigFrame.eval_func, ↓IntWalk.iteOmega, *]); (try simp only [zUpon]); (first | exact ⟨rfl, Below.refl _ _⟩ | fail))); (try go_simp))
              (refine wz_do (by decide) (by decide) C0e.es (growsB (by simp)) ?_ ?_; (focus (first | rfl | (go_simp; done))); apply Exists.intro; refine ⟨fun bs hok wx hwx hL => ?_, ?_⟩; (focus ((have hwx : Below _ _ wx := hwx; have hcx := cellA hwx; have hfx := frozA hwx; have hzx := hwx.size; (try simp at hzx)); unfold zAt; (try simp [go_sem, BigFrame.eval_const, BigFrame.eval_global, BigFrame.eval_func, ↓IntWalk.iteOmega, *]); (try simp only [zUpon]); (first | exact ⟨rfl, Below.refl _ _⟩ | fail))); (try go_simp))
              (first | (refine wz_skip (by decide) ?_ ?_; (focus (go_simp; first | done | (simp [undef]; done))); (try go_simp)) | (refine wz_do (by decide) (by decide) C0e.es (growsB (by simp)) ?_ ?_; (focus (first | rfl | (go_simp; done))); apply Exists.intro; refine ⟨fun bs hok wx hwx hL => ?_, ?_⟩; (focus ((have hwx : Below _ _ wx := hwx; have hcx := cellA hwx; have hfx := frozA hwx; have hzx := hwx.size; (try simp at hzx)); unfold zAt; (try simp [go_sem, BigFrame.eval_const, BigFrame.eval_global, BigFrame.eval_func, ↓IntWalk.iteOmega, *]); (try simp only [zUpon]); (first | exact ⟨rfl, Below.refl _ _⟩ | fail))); (try go_simp)))
              (first | (refine wz_skip (by decide) ?_ ?_; (focus (go_simp; first | done | (simp [undef]; done))); (try go_simp)) | (refine wz_do (by decide) (by decide) C0e.es (growsB (by simp)) ?_ ?_; (focus (first | rfl | (go_simp; done))); apply Exists.intro; refine ⟨fun bs hok wx hwx hL => ?_, ?_⟩; (focus ((have hwx : Below _ _ wx := hwx; have hcx := cellA hwx; have hfx := frozA hwx; have hzx := hwx.size; (try simp at hzx)); unfold zAt; (try simp [go_sem, BigFrame.eval_const, BigFrame.eval_global, BigFrame.eval_func, ↓IntWalk.iteOmega, *]); (try simp only [zUpon]); (first | exact ⟨rfl, Below.refl _ _⟩ | fail))); (try go_simp)))
              (first | (refine wz_skip (by decide) ?_ ?_; (focus (go_simp; first | done | (simp [undef]; done))); (try go_simp)) | (refine wz_do (by decide) (by decide) C0e.es (growsB (by simp)) ?_ ?_; (focus (first | rfl | (go_simp; done))); apply Exists.intro; refine ⟨fun bs hok wx hwx hL => ?_, ?_⟩; (focus ((have hwx : Below _ _ wx := hwx; have hcx := cellA hwx; have hfx := frozA hwx; have hzx := hwx.size; (try simp at hzx)); unfold zAt; (try simp [go_sem, BigFrame.eval_const, BigFrame.eval_global, BigFrame.eval_func, ↓IntWalk.iteOmega, *]); (try simp only [zUpon]); (first | exact ⟨rfl, Below.refl _ _⟩ | fail))); (try go_simp)))
              (first | (refine wz_skip (by decide) ?_ ?_; (focus (go_simp; first | done | (simp [undef]; done))); (try go_simp)) | (refine wz_do (by decide) (by decide) C0e.es (growsB (by simp)) ?_ ?_; (focus (first | rfl | (go_simp; done))); apply Exists.intro; refine ⟨fun bs hok wx hwx hL => ?_, ?_⟩; (focus ((have hwx : Below _ _ wx := hwx; have hcx := cellA hwx; have hfx := frozA hwx; have hzx := hwx.size; (try simp at hzx)); unfold zAt; (try simp [go_sem, BigFrame.eval_const, BigFrame.eval_global, BigFrame.eval_func, ↓IntWalk.iteOmega, *]); (try simp only [zUpon]); (first | exact ⟨rfl, Below.refl _ _⟩ | fail))); (try go_simp)))
              (first | (refine wz_skip (by decide) ?_ ?_; (focus (go_simp; first | done | (simp [undef]; done))); (try go_simp)) | (refine wz_do (by decide) (by decide) C0e.es (growsB (by simp)) ?_ ?_; (focus (first | rfl | (go_simp; done))); apply Exists.intro; refine ⟨fun bs hok wx hwx hL => ?_, ?_⟩; (focus ((have hwx : Below _ _ wx := hwx; have hcx := cellA hwx; have hfx := frozA hwx; have hzx := hwx.size; (try simp at hzx)); unfold zAt; (try simp [go_sem, BigFrame.eval_const, BigFrame.eval_global, BigFrame.eval_func, ↓IntWalk.iteOmega, *]); (try simp only [zUpon]); (first | exact ⟨rfl, Below.refl _ _⟩ | fail))); (try go_simp)))
              (first | (refine wz_skip (by decide) ?_ ?_; (focus (go_simp; first | done | (simp [undef]; done))); (try go_simp)) | (refine wz_do (by decide) (by decide) C0e.es (growsB (by simp)) ?_ ?_; (focus (first | rfl | (go_simp; done))); apply Exists.intro; refine ⟨fun bs hok wx hwx hL => ?_, ?_⟩; (focus ((have hwx : Below _ _ wx := hwx; have hcx := cellA hwx; have hfx := frozA hwx; have hzx := hwx.size; (try simp at hzx)); unfold zAt; (try simp [go_sem, BigFrame.eval_const, BigFrame.eval_global, BigFrame.eval_func, ↓IntWalk.iteOmega, *]); (try simp only [zUpon]); (first | exact ⟨rfl, Below.refl _ _⟩ | fail))); (try go_simp)))
              (first | (refine wz_skip (by decide) ?_ ?_; (focus (go_simp; first | done | (simp [undef]; done))); (try go_simp)) | (refine wz_do (by decide) (by decide) C0e.es (growsB (by simp)) ?_ ?_; (focus (first | rfl | (go_simp; done))); apply Exists.intro; refine ⟨fun bs hok wx hwx hL => ?_, ?_⟩; (focus ((have hwx : Below _ _ wx := hwx; have hcx := cellA hwx; have hfx := frozA hwx; have hzx := hwx.size; (try simp at hzx)); unfold zAt; (try simp [go_sem, BigFrame.eval_const, BigFrame.eval_global, BigFrame.eval_func, ↓IntWalk.iteOmega, *]); (try simp only [zUpon]); (first | exact ⟨rfl, Below.refl _ _⟩ | fail))); (try go_simp)))
              (first | (refine wz_skip (by decide) ?_ ?_; (focus (go_simp; first | done | (simp [undef]; done))); (try go_simp)) | (refine wz_do (by decide) (by decide) C0e.es (growsB (by simp)) ?_ ?_; (focus (first | rfl | (go_simp; done))); apply Exists.intro; refine ⟨fun bs hok wx hwx hL => ?_, ?_⟩; (focus ((have hwx : Below _ _ wx := hwx; have hcx := cellA hwx; have hfx := frozA hwx; have hzx := hwx.size; (try simp at hzx)); unfold zAt; (try simp [go_sem, BigFrame.eval_const, BigFrame.eval_global, BigFrame.eval_func, ↓IntWalk.iteOmega, *]); (try simp only [zUpon]); (first | exact ⟨rfl, Below.refl _ _⟩ | fail))); (try go_simp)))
              (first | (refine wz_skip (by decide) ?_ ?_; (focus (go_simp; first | done | (simp [undef]; done))); (try go_simp)) | (refine wz_do (by decide) (by decide) C0e.es (growsB (by simp)) ?_ ?_; (focus (first | rfl | (go_simp; done))); apply Exists.intro; refine ⟨fun bs hok wx hwx hL => ?_, ?_⟩; (focus ((have hwx : Below _ _ wx := hwx; have hcx := cellA hwx; have hfx := frozA hwx; have hzx := hwx.size; (try simp at hzx)); unfold zAt; (try simp [go_sem, BigFrame.eval_const, BigFrame.eval_global, BigFrame.eval_func, ↓IntWalk.iteOmega, *]); (try simp only [zUpon]); (first | exact ⟨rfl, Below.refl _ _⟩ | fail))); (try go_simp)))
              (first | (refine wz_skip (by decide) ?_ ?_; (focus (go_simp; first | done | (simp [undef]; done))); (try go_simp)) | (refine wz_do (by decide) (by decide) C0e.es (growsB (by simp)) ?_ ?_; (focus (first | rfl | (go_simp; done))); apply Exists.intro; refine ⟨fun bs hok wx hwx hL => ?_, ?_⟩; (focus ((have hwx : Below _ _ wx := hwx; have hcx := cellA hwx; have hfx := frozA hwx; have hzx := hwx.size; (try simp at hzx)); unfold zAt; (try simp [go_sem, BigFrame.eval_const, BigFrame.eval_global, BigFrame.eval_func, ↓IntWalk.iteOmega, *]); (try simp only [zUpon]); (first | exact ⟨rfl, Below.refl _ _⟩ | fail))); (try go_simp)))
              (first | (refine wz_skip (by decide) ?_ ?_; (focus (go_simp; first | done | (simp [undef]; done))); (try go_simp)) | (refine wz_do (by decide) (by decide) C0e.es (growsB (by simp)) ?_ ?_; (focus (first | rfl | (go_simp; done))); apply Exists.intro; refine ⟨fun bs hok wx hwx hL => ?_, ?_⟩; (focus ((have hwx : Below _ _ wx := hwx; have hcx := cellA hwx; have hfx := frozA hwx; have hzx := hwx.size; (try simp at hzx)); unfold zAt; (try simp [go_sem, BigFrame.eval_const, BigFrame.eval_global, BigFrame.eval_func, ↓IntWalk.iteOmega, *]); (try simp only [zUpon]); (first | exact ⟨rfl, Below.refl _ _⟩ | fail))); (try go_simp)))
              (first | (refine wz_skip (by decide) ?_ ?_; (focus (go_simp; first | done | (simp [undef]; done))); (try go_simp)) | (refine wz_do (by decide) (by decide) C0e.es (growsB (by simp)) ?_ ?_; (focus (first | rfl | (go_simp; done))); apply Exists.intro; refine ⟨fun bs hok wx hwx hL => ?_, ?_⟩; (focus ((have hwx : Below _ _ wx := hwx; have hcx := cellA hwx; have hfx := frozA hwx; have hzx := hwx.size; (try simp at hzx)); unfold zAt; (try simp [go_sem, BigFrame.eval_const, BigFrame.eval_global, BigFrame.eval_func, ↓IntWalk.iteOmega, *]); (try simp only [zUpon]); (first | exact ⟨rfl, Below.refl _ _⟩ | fail))); (try go_simp)))
              (first | (refine wz_skip (by decide) ?_ ?_; (focus (go_simp; first | done | (simp [undef]; done))); (try go_simp)) | (refine wz_do (by decide) (by decide) C0e.es (growsB (by simp)) ?_ ?_; (focus (first | rfl | (go_simp; done))); apply Exists.intro; refine ⟨fun bs hok wx hwx hL => ?_, ?_⟩; (focus ((have hwx : Below _ _ wx := hwx; have hcx := cellA hwx; have hfx := frozA hwx; have hzx := hwx.size; (try simp at hzx)); unfold zAt; (try simp [go_sem, BigFrame.eval_const, BigFrame.eval_global, BigFrame.eval_func, ↓IntWalk.iteOmega, *]); (try simp only [zUpon]); (first | exact ⟨rfl, Below.refl _ _⟩ | fail))); (try go_simp)))
              (first | (refine wz_skip (by decide) ?_ ?_; (focus (go_simp; first | done | (simp [undef]; done))); (try go_simp)) | (refine wz_do (by decide) (by decide) C0e.es (growsB (by simp)) ?_ ?_; (focus (first | rfl | (go_simp; done))); apply Exists.intro; refine ⟨fun bs hok wx hwx hL => ?_, ?_⟩; (focus ((have hwx : Below _ _ wx := hwx; have hcx := cellA hwx; have hfx := frozA hwx; have hzx := hwx.size; (try simp at hzx)); unfold zAt; (try simp [go_sem, BigFrame.eval_const, BigFrame.eval_global, BigFrame.eval_func, ↓IntWalk.iteOmega, *]); (try simp only [zUpon]); (first | exact ⟨rfl, Below.refl _ _⟩ | fail))); (try go_simp)))
              (first | (refine wz_skip (by decide) ?_ ?_; (focus (go_simp; first | done | (simp [undef]; done))); (try go_simp)) | (refine wz_do (by decide) (by decide) C0e.es (growsB (by simp)) ?_ ?_; (focus (first | rfl | (go_simp; done))); apply Exists.intro; refine ⟨fun bs hok wx hwx hL => ?_, ?_⟩; (focus ((have hwx : Below _ _ wx := hwx; have hcx := cellA hwx; have hfx := frozA hwx; have hzx := hwx.size; (try simp at hzx)); unfold zAt; (try simp [go_sem, BigFrame.eval_const, BigFrame.eval_global, BigFrame.eval_func, ↓IntWalk.iteOmega, *]); (try simp only [zUpon]); (first | exact ⟨rfl, Below.refl _ _⟩ | fail))); (try go_simp)))
              (first | (refine wz_skip (by decide) ?_ ?_; (focus (go_simp; first | done | (simp [undef]; done))); (try go_simp)) | (refine wz_do (by decide) (by decide) C0e.es (growsB (by simp)) ?_ ?_; (focus (first | rfl | (go_simp; done))); apply Exists.intro; refine ⟨fun bs hok wx hwx hL => ?_, ?_⟩; (focus ((have hwx : Below _ _ wx := hwx; have hcx := cellA hwx; have hfx := frozA hwx; have hzx := hwx.size; (try simp at hzx)); unfold zAt; (try simp [go_sem, BigFrame.eval_const, BigFrame.eval_global, BigFrame.eval_func, ↓IntWalk.iteOmega, *]); (try simp only [zUpon]); (first | exact ⟨rfl, Below.refl _ _⟩ | fail))); (try go_simp)))
              (first | (refine wz_skip (by decide) ?_ ?_; (focus (go_simp; first | done | (simp [undef]; done))); (try go_simp)) | (refine wz_do (by decide) (by decide) C0e.es (growsB (by simp)) ?_ ?_; (focus (first | rfl | (go_simp; done))); apply Exists.intro; refine ⟨fun bs hok wx hwx hL => ?_, ?_⟩; (focus ((have hwx : Below _ _ wx := hwx; have hcx := cellA hwx; have hfx := frozA hwx; have hzx := hwx.size; (try simp at hzx)); unfold zAt; (try simp [go_sem, BigFrame.eval_const, BigFrame.eval_global, BigFrame.eval_func, ↓IntWalk.iteOmega, *]); (try simp only [zUpon]); (first | exact ⟨rfl, Below.refl _ _⟩ | fail))); (try go_simp)))
              (first | (refine wz_skip (by decide) ?_ ?_; (focus (go_simp; first | done | (simp [undef]; done))); (try go_simp)) | (refine wz_do (by decide) (by decide) C0e.es (growsB (by simp)) ?_ ?_; (focus (first | rfl | (go_simp; done))); apply Exists.intro; refine ⟨fun bs hok wx hwx hL => ?_, ?_⟩; (focus ((have hwx : Below _ _ wx := hwx; have hcx := cellA hwx; have hfx := frozA hwx; have hzx := hwx.size; (try simp at hzx)); unfold zAt; (try simp [go_sem, BigFrame.eval_const, BigFrame.eval_global, BigFrame.eval_func, ↓IntWalk.iteOmega, *]); (try simp only [zUpon]); (first | exact ⟨rfl, Below.refl _ _⟩ | fail))); (try go_simp)))
              (first | (refine wz_skip (by decide) ?_ ?_; (focus (go_simp; first | done | (simp [undef]; done))); (try go_simp)) | (refine wz_do (by decide) (by decide) C0e.es (growsB (by simp)) ?_ ?_; (focus (first | rfl | (go_simp; done))); apply Exists.intro; refine ⟨fun bs hok wx hwx hL => ?_, ?_⟩; (focus ((have hwx : Below _ _ wx := hwx; have hcx := cellA hwx; have hfx := frozA hwx; have hzx := hwx.size; (try simp at hzx)); unfold zAt; (try simp [go_sem, BigFrame.eval_const, BigFrame.eval_global, BigFrame.eval_func, ↓IntWalk.iteOmega, *]); (try simp only [zUpon]); (first | exact ⟨rfl, Below.refl _ _⟩ | fail))); (try go_simp)))
              (first | (refine wz_skip (by decide) ?_ ?_; (focus (go_simp; first | done | (simp [undef]; done))); (try go_simp)) | (refine wz_do (by decide) (by decide) C0e.es (growsB (by simp)) ?_ ?_; (focus (first | rfl | (go_simp; done))); apply Exists.intro; refine ⟨fun bs hok wx hwx hL => ?_, ?_⟩; (focus ((have hwx : Below _ _ wx := hwx; have hcx := cellA hwx; have hfx := frozA hwx; have hzx := hwx.size; (try simp at hzx)); unfold zAt; (try simp [go_sem, BigFrame.eval_const, BigFrame.eval_global, BigFrame.eval_func, ↓IntWalk.iteOmega, *]); (try simp only [zUpon]); (first | exact ⟨rfl, Below.refl _ _⟩ | fail))); (try go_simp)))
              (first | (refine wz_skip (by decide) ?_ ?_; (focus (go_simp; first | done | (simp [undef]; done))); (try go_simp)) | (refine wz_do (by decide) (by decide) C0e.es (growsB (by simp)) ?_ ?_; (focus (first | rfl | (go_simp; done))); apply Exists.intro; refine ⟨fun bs hok wx hwx hL => ?_, ?_⟩; (focus ((have hwx : Below _ _ wx := hwx; have hcx := cellA hwx; have hfx := frozA hwx; have hzx := hwx.size; (try simp at hzx)); unfold zAt; (try simp [go_sem, BigFrame.eval_const, BigFrame.eval_global, BigFrame.eval_func, ↓IntWalk.iteOmega, *]); (try simp only [zUpon]); (first | exact ⟨rfl, Below.refl _ _⟩ | fail))); (try go_simp)))
              (refine wz_do (by decide) (by decide) C0e.es (growsB (by simp)) ?_ ?_; (focus (first | rfl | (go_simp; done))); apply Exists.intro; refine ⟨fun bs hok wx hwx hL => ?_, ?_⟩; (focus ((have hwx : Below _ _ wx := hwx; have hcx := cellA hwx; have hfx := frozA hwx; have hzx := hwx.size; (try simp at hzx)); unfold zAt; (try simp [go_sem, BigFrame.eval_const, BigFrame.eval_global, BigFrame.eval_func, ↓IntWalk.iteOmega, *]); (try simp only [zUpon]); (first | exact ⟨rfl, Below.refl _ _⟩ | fail))); (try go_simp))
              (refine wz_do (by decide) (by decide) C0e.es (growsB (by simp)) ?_ ?_; (focus (first | rfl | (go_simp; done))); apply Exists.intro; refine ⟨fun bs hok wx hwx hL => ?_, ?_⟩; (focus ((have hwx : Below _ _ wx := hwx; have hcx := cellA hwx; have hfx := frozA hwx; have hzx := hwx.size; (try simp at hzx)); unfold zAt; (try simp [go_sem, BigFrame.eval_const, BigFrame.eval_global, BigFrame.eval_func, ↓IntWalk.iteOmega, *]); (try simp only [zUpon]); (first | exact ⟨rfl, Below.refl _ _⟩ | fail))); (try go_simp))
              (first | (refine wz_skip (by decide) ?_ ?_; (focus (go_simp; first | done | (simp [undef]; done))); (try go_simp)) | (refine wz_do (by decide) (by decide) C0e.es (growsB (by simp)) ?_ ?_; (focus (first | rfl | (go_simp; done))); apply Exists.intro; refine ⟨fun bs hok wx hwx hL => ?_, ?_⟩; (focus ((have hwx : Below _ _ wx := hwx; have hcx := cellA hwx; have hfx := frozA hwx; have hzx := hwx.size; (try simp at hzx)); unfold zAt; (try simp [go_sem, BigFrame.eval_const, BigFrame.eval_global, BigFrame.eval_func, ↓IntWalk.iteOmega, *]); (try simp only [zUpon]); (first | exact ⟨rfl, Below.refl _ _⟩ | fail))); (try go_simp)))
              (first | (refine wz_skip (by decide) ?_ ?_; (focus (go_simp; first | done | (simp [undef]; done))); (try go_simp)) | (refine wz_do (by decide) (by decide) C0e.es (growsB (by simp)) ?_ ?_; (focus (first | rfl | (go_simp; done))); apply Exists.intro; refine ⟨fun bs hok wx hwx hL => ?_, ?_⟩; (focus ((have hwx : Below _ _ wx := hwx; have hcx := cellA hwx; have hfx := frozA hwx; have hzx := hwx.size; (try simp at hzx)); unfold zAt; (try simp [go_sem, BigFrame.eval_const, BigFrame.eval_global, BigFrame.eval_func, ↓IntWalk.iteOmega, *]); (try simp only [zUpon]); (first | exact ⟨rfl, Below.refl _ _⟩ | fail))); (try go_simp)))
              (first | (refine wz_skip (by decide) ?_ ?_; (focus (go_simp; first | done | (simp [undef]; done))); (try go_simp)) | (refine wz_do (by decide) (by decide) C0e.es (growsB (by simp)) ?_ ?_; (focus (first | rfl | (go_simp; done))); apply Exists.intro; refine ⟨fun bs hok wx hwx hL => ?_, ?_⟩; (focus ((have hwx : Below _ _ wx := hwx; have hcx := cellA hwx; have hfx := frozA hwx; have hzx := hwx.size; (try simp at hzx)); unfold zAt; (try simp [go_sem, BigFrame.eval_const, BigFrame.eval_global, BigFrame.eval_func, ↓IntWalk.iteOmega, *]); (try simp only [zUpon]); (first | exact ⟨rfl, Below.refl _ _⟩ | fail))); (try go_simp)))
              (first | (refine wz_skip (by decide) ?_ ?_; (focus (go_simp; first | done | (simp [undef]; done))); (try go_simp)) | (refine wz_do (by decide) (by decide) C0e.es (growsB (by simp)) ?_ ?_; (focus (first | rfl | (go_simp; done))); apply Exists.intro; refine ⟨fun bs hok wx hwx hL => ?_, ?_⟩; (focus ((have hwx : Below _ _ wx := hwx; have hcx := cellA hwx; have hfx := frozA hwx; have hzx := hwx.size; (try simp at hzx)); unfold zAt; (try simp [go_sem, BigFrame.eval_const, BigFrame.eval_global, BigFrame.eval_func, ↓IntWalk.iteOmega, *]); (try simp only [zUpon]); (first | exact ⟨rfl, Below.refl _ _⟩ | fail))); (try go_simp)))
              (first | (refine wz_skip (by decide) ?_ ?_; (focus (go_simp; first | done | (simp [undef]; done))); (try go_simp)) | (refine wz_do (by decide) (by decide) C0e.es (growsB (by simp)) ?_ ?_; (focus (first | rfl | (go_simp; done))); apply Exists.intro; refine ⟨fun bs hok wx hwx hL => ?_, ?_⟩; (focus ((have hwx : Below _ _ wx := hwx; have hcx := cellA hwx; have hfx := frozA hwx; have hzx := hwx.size; (try simp at hzx)); unfold zAt; (try simp [go_sem, BigFrame.eval_const, BigFrame.eval_global, BigFrame.eval_func, ↓IntWalk.iteOmega, *]); (try simp only [zUpon]); (first | exact ⟨rfl, Below.refl _ _⟩ | fail))); (try go_simp)))
              (first | (refine wz_skip (by decide) ?_ ?_; (focus (go_simp; first | done | (simp [undef]; done))); (try go_simp)) | (refine wz_do (by decide) (by decide) C0e.es (growsB (by simp)) ?_ ?_; (focus (first | rfl | (go_simp; done))); apply Exists.intro; refine ⟨fun bs hok wx hwx hL => ?_, ?_⟩; (focus ((have hwx : Below _ _ wx := hwx; have hcx := cellA hwx; have hfx := frozA hwx; have hzx := hwx.size; (try simp at hzx)); unfold zAt; (try simp [go_sem, BigFrame.eval_const, BigFrame.eval_global, BigFrame.eval_func, ↓IntWalk.iteOmega, *]); (try simp only [zUpon]); (first | exact ⟨rfl, Below.refl _ _⟩ | fail))); (try go_simp)))
              (first | (refine wz_skip (by decide) ?_ ?_; (focus (go_simp; first | done | (simp [undef]; done))); (try go_simp)) | (refine wz_do (by decide) (by decide) C0e.es (growsB (by simp)) ?_ ?_; (focus (first | rfl | (go_simp; done))); apply Exists.intro; refine ⟨fun bs hok wx hwx hL => ?_, ?_⟩; (focus ((have hwx : Below _ _ wx := hwx; have hcx := cellA hwx; have hfx := frozA hwx; have hzx := hwx.size; (try simp at hzx)); unfold zAt; (try simp [go_sem, BigFrame.eval_const, BigFrame.eval_global, BigFrame.eval_func, ↓IntWalk.iteOmega, *]); (try simp only [zUpon]); (first | exact ⟨rfl, Below.refl _ _⟩ | fail))); (try go_simp)))
              (first | (refine wz_skip (by decide) ?_ ?_; (focus (go_simp; first | done | (simp [undef]; done))); (try go_simp)) | (refine wz_do (by decide) (by decide) C0e.es (growsB (by simp)) ?_ ?_; (focus (first | rfl | (go_simp; done))); apply Exists.intro; refine ⟨fun bs hok wx hwx hL => ?_, ?_⟩; (focus ((have hwx : Below _ _ wx := hwx; have hcx := cellA hwx; have hfx := frozA hwx; have hzx := hwx.size; (try simp at hzx)); unfold zAt; (try simp [go_sem, BigFrame.eval_const, BigFrame.eval_global, BigFrame.eval_func, ↓IntWalk.iteOmega, *]); (try simp only [zUpon]); (first | exact ⟨rfl, Below.refl _ _⟩ | fail))); (try go_simp)))
              (first | (refine wz_skip (by decide) ?_ ?_; (focus (go_simp; first | done | (simp [undef]; done))); (try go_simp)) | (refine wz_do (by decide) (by decide) C0e.es (growsB (by simp)) ?_ ?_; (focus (first | rfl | (go_simp; done))); apply Exists.intro; refine ⟨fun bs hok wx hwx hL => ?_, ?_⟩; (focus ((have hwx : Below _ _ wx := hwx; have hcx := cellA hwx; have hfx := frozA hwx; have hzx := hwx.size; (try simp at hzx)); unfold zAt; (try simp [go_sem, BigFrame.eval_const, BigFrame.eval_global, BigFrame.eval_func, ↓IntWalk.iteOmega, *]); (try simp only [zUpon]); (first | exact ⟨rfl, Below.refl _ _⟩ | fail))); (try go_simp)))
              (first | (refine wz_skip (by decide) ?_ ?_; (focus (go_simp; first | done | (simp [undef]; done))); (try go_simp)) | (refine wz_do (by decide) (by decide) C0e.es (growsB (by simp)) ?_ ?_; (focus (first | rfl | (go_simp; done))); apply Exists.intro; refine ⟨fun bs hok wx hwx hL => ?_, ?_⟩; (focus ((have hwx : Below _ _ wx := hwx; have hcx := cellA hwx; have hfx := frozA hwx; have hzx := hwx.size; (try simp at hzx)); unfold zAt; (try simp [go_sem, BigFrame.eval_const, BigFrame.eval_global, BigFrame.eval_func, ↓IntWalk.iteOmega, *]); (try simp only [zUpon]); (first | exact ⟨rfl, Below.refl _ _⟩ | fail))); (try go_simp)))
              (refine wz_do (by decide) (by decide) C0e.es (growsB (by simp)) ?_ ?_; (focus (first | rfl | (go_simp; done))); apply Exists.intro; refine ⟨fun bs hok wx hwx hL => ?_, ?_⟩; (focus ((have hwx : Below _ _ wx := hwx; have hcx := cellA hwx; have hfx := frozA hwx; have hzx := hwx.size; (try simp at hzx)); unfold zAt; (try simp [go_sem, BigFrame.eval_const, BigFrame.eval_global, BigFrame.eval_func, ↓IntWalk.iteOmega, *]); (try simp only [zUpon]); (first | exact ⟨rfl, Below.refl _ _⟩ | fail))); (try go_simp))
              refine wz_nil ?_
              intro wq hbq hLq
              clear hLq 
              have hcwq := cellA hbq
              have hfwq := frozA hbq
              have hzwq := hbq.size
              try simp at hzwq
              go_wp2_with fail
              go_roundw
              case rel => exact ⟨k + 1, S3, true, _, by omega, by rw [flat_snoc parts k hlt, ← HP.out.1, app_arr], by go_num, Rdr.frame HO3.out (Fr.of_below (S := []) hbq) (Nat.le_refl _) (by simp), HG3.out, own_keep (HE.out HV.out) (fun j hj => hbq.block j (by simp at hj; omega)), HSS.out.1, HSS.out.2, HB3.out.trans (hbq.mono (by have := HB3.out.size; omega))⟩
              case measure => simp [intOf]; omega
          · obtain rfl : k = parts.length := by omega
            have hgs : (⟨((parts.take parts.length).flatten).toArray⟩ : ByteArray) = s := by
              rw [List.take_of_length_le (Nat.le_refl _), HFL.out]
            rw [hgs]
            have hst : decide (q.st = 0) = true := by rw [HG.out.st]; rfl
            have hsu : q.sub.length = 0 := by rw [HG.out.sub]; rfl
            clear hgs
            go_wp2_with (first | (go_at_call 9; refine (whole_any _ _ _ _ _ HO.out).mono ?_; rintro e wz ⟨rfl, rfl⟩) | (go_at_call 16; refine (sub_any _ _ _ _ _ HO.out).mono ?_; rintro e wz ⟨rfl, rfl⟩))
            go_ret
            exact ⟨rfl, HB.out⟩
end Go.Proofs.Ytemdhbjcdibpfaa.N12
