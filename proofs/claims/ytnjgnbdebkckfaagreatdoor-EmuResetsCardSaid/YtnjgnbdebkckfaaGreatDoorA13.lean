/- E12, E13, E14, E15, E16, E17, E18, E19, E20, E21 -/
import Derived.Test.YtnjgnbdebkckfaaGreatDoorA2
import Derived.Test.YtnjgnbdebkckfaaGreatDoorA11
import Derived.Test.YtnjgnbdebkckfaaGreatDoorA12
import Derived.Lib.Hide
import Derived.Deep.MidRow
set_option linter.unusedVariables false
set_option linter.unusedSimpArgs false
set_option linter.unnecessarySimpa false
namespace Go.Proofs.YtnjgnbdebkckfaaGreatDoor.E12
set_option maxRecDepth 100000
open Go.RowKit K1 K3 K5 K11 K12 K14 K20 K21 K22 K25 K30 K31 M0 P3 P6 E1 E2 E3
attribute [local go_sem] cell_pastA froz_pastA
/-- the cells ahead of the parser's state: the once (done, its lock), the table -/
def preP (d m : Int) (T : List Nat) (i : Nat) : Value := ([.int .u32 d, .int .i32 m, .int .u32 0] ++ T.map fun x => .int .i64 x : List Value).getD i (.int .i64 0)
def tab0 : List Nat := List.replicate 30 0
def tabC : Array Value := #[.int .i64 2, .int .i64 1, .int .i64 1, .int .i64 1, .int .i64 0, .int .i64 1, .int .i64 2, .int .i64 3, .int .i64 4, .int .i64 4, .int .i64 0, .int .i64 9, .int .i64 2, .int .i64 3, .int .i64 5, .int .i64 6, .int .i64 0, .int .i64 9, .int .i64 8, .int .i64 7, .int .i64 7, .int .i64 7, .int .i64 7, .int .i64 7, .int .i64 0, .int .i64 7, .int .i64 7, .int .i64 7, .int .i64 7, .int .i64 7]
theorem tabC_one : tabC.all (·.oneCell') = true := by kernel_rfl
theorem info96 : (Tryz.prog.info? 96).map (·.size) = some 30 := by kernel_rfl
def setsL : List Value → Nat → List Value → List Value
  | cs, _, [] => cs
  | cs, o, v :: r => setsL (cs.set o v) (o + 1) r
theorem setCells_sep {b : Nat} {t : TypeId} {F : List Res} : ∀ (vs : List Value) (o : Nat) (cs : List Value) (w : World), Sep w (.blk b cs t :: F) → Sep (w.setCells b o vs) (.blk b (setsL cs o vs) t :: F)
  | [], _, _, _, h => h
  | v :: r, o, cs, w, h => setCells_sep r (o + 1) _ _ (h.set (i := o) (v := v) rfl)
set_option maxHeartbeats 4000000 in
theorem fill_any (b : Nat) (v33 v34 v35 v36 v37 v38 v39 v40 v41 v42 : Value) (t : TypeId) (F : List Res) (w : World) (d m : Int) (hs : Sep w (.blk b (parV (preP d m tab0) v33 v34 v35 v36 v37 v38 v39 v40 v41 v42) t :: F)) :
    Calls Tryz.prog 69 #[.pointer (some ⟨b, 0, none⟩)] w fun e w' => e = .returned (.tuple #[]) ∧ Sep w' (.blk b (parV (preP d m tableL) v33 v34 v35 v36 v37 v38 v39 v40 v41 v42) t :: F) := by
  obtain ⟨hcR, hzR, hlR⟩ := hs.here (b := b) K32.rm
  have hth : w.there b 3 30 := fun j hj => ⟨by rw [hcR, List.getElem?_eq_getElem (by unfold parV; simp; omega)]; rfl, hzR _⟩
  have HTH := Lib.hid hth
  have HS := Lib.hid hs
  clear hs hcR hth
  go_enter Tryz.func69, Tryz.ntmps69
  go_wp2_with (first | (refine wpList_store_mid rfl 96 (.tmp 10) (.tmp 8) rfl b 3 tabC rfl rfl HTH.out info96 tabC_one ?_))
  (first | go_end0 | refine bodyPost_ret (results_none rfl _ _ _) rfl ?_)
  refine ⟨rfl, ?_⟩
  have h := setCells_sep tabC.toList 3 _ _ HS.out
  have e : setsL (parV (preP d m tab0) v33 v34 v35 v36 v37 v38 v39 v40 v41 v42) 3 tabC.toList = (parV (preP d m tableL) v33 v34 v35 v36 v37 v38 v39 v40 v41 v42) := by kernel_rfl
  rw [e] at h
  exact h
end Go.Proofs.YtnjgnbdebkckfaaGreatDoor.E12
namespace Go.Proofs.YtnjgnbdebkckfaaGreatDoor.E13
set_option maxRecDepth 100000
open Go.RowKit K1 K3 K5 K11 K12 K14 K20 K21 K22 K25 K30 K31 M0 P3 P6 E2 E3 E4 E5 E8 E9 E10
attribute [local go_sem] cell_pastA froz_pastA
/-- the state that a byte behind ESC leads to -/
def nxt (l : List UInt8) (b : UInt8) : Nat := if l = [] then (if b = 91 then 2 else if b = 93 then 3 else if b = 80 then 4 else 0) else 0
theorem finish_any (b : Nat) (P : Nat → Value) (v33 v34 v35 v36 v37 v38 v39 v40 v41 v42 iv ov : Value) (t : TypeId) (x : ByteArray) (l : List UInt8) (c : UInt8) (wr : Bool) (n : Nat) (xs : List Value) (F : List Res) (w : World) (hs : Sep w (.blk b (parV P v33 (.string x) iv (.bool wr) v37 v38 v39 v40 v41 ov) t :: .row iv 5 1 l.length (l.map K14.u8) :: .row ov 118 7 n xs :: F)) (hn : n ≤ 100000) :
    Calls Tryz.prog 133 #[.pointer (some ⟨b, 0, none⟩), .int .u8 c.toNat] w fun e w' => ∃ iv, ExP (fun ov => .blk b (parV P (.int .i64 (nxt l c)) (.string x) (.slice none 0 0) (.bool false) (.bool true) (.int .i64 0) (.slice none 0 0) (.bool false) (.slice none 0 0) ov) t :: .row iv 5 1 l.length (l.map K14.u8) :: .row ov 118 7 (if nxt l c = 0 ∧ wr = false then n + 1 else n) (if nxt l c = 0 ∧ wr = false then xs ++ actV ⟨3, 0, c.toNat, 0, [], l, []⟩ (.slice none 0 0) else xs) :: F) e w' := by
  obtain ⟨ia, ic, rfl⟩ := own_form (hs.hereRow (v := iv) K32.rm)
  have key : ∀ k : Nat, k < 256 → (c = UInt8.ofNat k ↔ c.toNat = k) := fun k hk => by
    rw [← UInt8.toNat_inj, UInt8.toNat_ofNat', Nat.mod_eq_of_lt hk]
  have k91 : c = 91 ↔ c.toNat = 91 := key 91 (by decide)
  have k93 : c = 93 ↔ c.toNat = 93 := key 93 (by decide)
  have k80 : c = 80 ↔ c.toNat = 80 := key 80 (by decide)
  by_cases hl : l = []
  · by_cases h91 : c.toNat = 91
    · have e : nxt l c = 2 := by unfold nxt; rw [if_pos hl, if_pos (k91.2 h91)]
      simp only [e]
      exact (fin2 b P v33 v34 v35 v36 v37 v38 v39 v40 v41 v42 ov t x ia ic l c wr n xs F w hs hn hl h91).mono fun e w' h => ⟨_, h⟩
    · by_cases h93 : c.toNat = 93
      · have e : nxt l c = 3 := by unfold nxt; rw [if_pos hl, if_neg (fun h => h91 (k91.1 h)), if_pos (k93.2 h93)]
        simp only [e]
        exact (fin3 b P v33 v34 v35 v36 v37 v38 v39 v40 v41 v42 ov t x ia ic l c wr n xs F w hs hn hl h93).mono fun e w' h => ⟨_, h⟩
      · by_cases h80 : c.toNat = 80
        · have e : nxt l c = 4 := by unfold nxt; rw [if_pos hl, if_neg (fun h => h91 (k91.1 h)), if_neg (fun h => h93 (k93.1 h)), if_pos (k80.2 h80)]
          simp only [e]
          exact (fin4 b P v33 v34 v35 v36 v37 v38 v39 v40 v41 v42 ov t x ia ic l c wr n xs F w hs hn hl h80).mono fun e w' h => ⟨_, h⟩
        · have e : nxt l c = 0 := by unfold nxt; rw [if_pos hl, if_neg (fun h => h91 (k91.1 h)), if_neg (fun h => h93 (k93.1 h)), if_neg (fun h => h80 (k80.1 h))]
          simp only [e]
          cases wr with
          | true => exact (fin0at b P v33 v34 v35 v36 v37 v38 v39 v40 v41 v42 ov t x ia ic l c true n xs F w hs hn hl h91 h93 h80 rfl).mono fun e w' h => ⟨.slice ia l.length ic, by subst hl; exact h⟩
          | false => exact (fin0af b P v33 v34 v35 v36 v37 v38 v39 v40 v41 v42 ov t x ia ic l c false n xs F w hs hn hl h91 h93 h80 rfl).mono fun e w' h => ⟨.slice ia l.length ic, by subst hl; exact h⟩
  · have e : nxt l c = 0 := by unfold nxt; rw [if_neg hl]
    simp only [e]
    cases wr with
    | true => exact (fin0bt b P v33 v34 v35 v36 v37 v38 v39 v40 v41 v42 ov t x ia ic l c true n xs F w hs hn hl rfl).mono fun e w' h => ⟨_, h⟩
    | false => exact (fin0bf b P v33 v34 v35 v36 v37 v38 v39 v40 v41 v42 ov t x ia ic l c false n xs F w hs hn hl rfl).mono fun e w' h => ⟨_, h⟩
end Go.Proofs.YtnjgnbdebkckfaaGreatDoor.E13
namespace Go.Proofs.YtnjgnbdebkckfaaGreatDoor.E14
set_option maxRecDepth 100000
open Go.RowKit K1 K3 K5 K11 K12 K14 K20 K21 K22 K25 K30 K31 M0 P3 P6 E1 E2 E3 E12
attribute [local go_sem] cell_pastA froz_pastA
/-- the cells ahead, before and after the first Feed -/
def preO (o : Bool) : Nat → Value := if o then preP 1 0 tableL else preP 0 0 tab0
theorem do_any (b : Nat) (v33 v34 v35 v36 v37 v38 v39 v40 v41 v42 : Value) (o : Bool) (t : TypeId) (F : List Res) (w : World) (hs : Sep w (.blk b (parV (preO o) v33 v34 v35 v36 v37 v38 v39 v40 v41 v42) t :: F)) :
    Calls Tryz.prog 68 #[.pointer (some ⟨b, 0, none⟩), .func (.func 69) #[.pointer (some ⟨b, 0, none⟩)] #[]] w fun e w' => e = .returned (.tuple #[]) ∧ Sep w' (.blk b (parV (preO true) v33 v34 v35 v36 v37 v38 v39 v40 v41 v42) t :: F) := by
  obtain ⟨hcR, hzR, hlR⟩ := hs.here (b := b) K32.rm
  cases o with
  | true =>
    refine (do_done ⟨b, 0, none⟩ 1 (by decide) _ w (hcR 0)).mono ?_
    rintro e w' ⟨rfl, rfl⟩
    exact ⟨rfl, hs⟩
  | false =>
    refine (do_fill b 0 #[.pointer (some ⟨b, 0, none⟩)] w (fun w' => Sep w' (.blk b (parV (preP 0 1 tableL) v33 v34 v35 v36 v37 v38 v39 v40 v41 v42) t :: F)) (hcR 0) (hcR 1) (hzR 0) (hzR 1) ?_ ?_).mono ?_
    · exact fill_any b v33 v34 v35 v36 v37 v38 v39 v40 v41 v42 t F _ 0 1 (hs.set (i := 1) (v := .int .i32 1) rfl)
    · intro w' h
      obtain ⟨hc, hz, -⟩ := h.here (b := b) K32.rm
      exact ⟨hc 0, hc 1, hz 0, hz 1⟩
    · rintro e w'' ⟨rfl, w', h, rfl⟩
      have h2 := (h.drew.set (i := 0) (v := .int .u32 1) rfl).set (i := 1) (v := .int .i32 0) rfl
      exact ⟨rfl, h2⟩
end Go.Proofs.YtnjgnbdebkckfaaGreatDoor.E14
namespace Go.Proofs.YtnjgnbdebkckfaaGreatDoor.E15
set_option maxRecDepth 100000
open Go.RowKit K1 K3 K5 K11 K12 K14 K20 K21 K22 K25 K30 K31 M0 U2 P3 P6 E2 E3 E4 E5 E6 E7 E8 E9 E10 E11 E12 E13 E14
attribute [local go_sem] cell_pastA froz_pastA
/-- the acts told: each with the slice of its numbers -/
def actsV (l : List (Ac × Value)) : List Value := l.flatMap fun p => actV p.1 p.2
def actsR (l : List (Ac × Value)) : List Res := l.map fun p => .row p.2 3 1 p.1.nums.length (ints p.1.nums)
structure StepsP (b : Nat) (P : Nat → Value) (t : TypeId) (q : Pg) (ac : List Ac) (n : Nat) (xs : List Value) (F : List Res) (e : Ending) (w' : World) : Prop where
  out : ∃ iv nv tv ov l, e = .returned (.tuple #[]) ∧ l.map (·.1) = ac ∧ Sep w' (.blk b (parV P (.int .i64 q.state) (.string ⟨q.half.toArray⟩) iv (.bool q.wrong) (.bool q.first) (.int .i64 q.mark) nv (.bool q.full) tv ov) t :: .row iv 5 1 q.inter.length (q.inter.map K14.u8) :: .row nv 3 1 q.nums.length (ints q.nums) :: .row tv 5 1 q.text.length (q.text.map K14.u8) :: .row ov 118 7 (n + ac.length) (xs ++ actsV l) :: (actsR l ++ F))
set_option maxHeartbeats 4000000 in
theorem act3 (b : Nat) (P : Nat → Value) (p : Pg) (iv nv tv ov : Value) (t : TypeId) (c : UInt8) (n : Nat) (xs : List Value) (F : List Res) (w : World) (hs : Sep w (.blk b (parV P (.int .i64 p.state) (.string ⟨p.half.toArray⟩) iv (.bool p.wrong) (.bool p.first) (.int .i64 p.mark) nv (.bool p.full) tv ov) t :: .row iv 5 1 p.inter.length (p.inter.map K14.u8) :: .row nv 3 1 p.nums.length (ints p.nums) :: .row tv 5 1 p.text.length (p.text.map K14.u8) :: .row ov 118 7 n xs :: F)) (h2 : p.inter.length ≤ 2) :
    Calls Tryz.prog 95 #[.pointer (some ⟨b, 0, none⟩), .int .i64 3, .int .u8 c.toNat] w (StepsP b P t (interP p c) [] n xs F) := by
  have HS := Lib.hid hs
  clear hs
  generalize hq : interP p c = q
  have HQ := Lib.hid hq
  clear hq
  go_enter Tryz.func95, Tryz.ntmps95
  go_wp2_with (first | (go_at_call 132; have hs := HS.out.pick2 (r1 := .blk b (parV P (.int .i64 p.state) (.string ⟨p.half.toArray⟩) iv (.bool p.wrong) (.bool p.first) (.int .i64 p.mark) nv (.bool p.full) tv ov) t) (r2 := .row iv 5 1 p.inter.length (p.inter.map K14.u8)) K32.rm K32.rm; refine (inter_any b P _ _ iv _ _ _ _ _ _ _ iv t p.inter c _ _ hs (by omega)).mono ?_; clear hs; rintro e w1 ⟨⟨iv1, rfl, hs⟩⟩; have HS := Lib.hid hs; clear hs))
  (first | go_end0 | refine bodyPost_ret (results_none rfl _ _ _) rfl ?_)
  have hs := HS.out
  have hq := HQ.out
  unfold interP at hq
  subst hq
  refine ⟨⟨iv1, nv, tv, ov, [], rfl, rfl, ?_⟩⟩
  by_cases h : 2 ≤ p.inter.length
  · simp only [if_pos h] at hs ⊢
    have h5 := hs.perm (L' := .blk b (parV P (.int .i64 p.state) (.string ⟨p.half.toArray⟩) iv1 (.bool true) (.bool false) (.int .i64 p.mark) nv (.bool p.full) tv ov) t :: .row iv1 5 1 p.inter.length (p.inter.map K14.u8) :: .row nv 3 1 p.nums.length (ints p.nums) :: .row tv 5 1 p.text.length (p.text.map K14.u8) :: .row ov 118 7 n xs :: F) (List.Perm.refl _)
    simpa [actsV, actsR] using h5
  · simp only [if_neg h] at hs ⊢
    simpa [actsV, actsR] using hs
theorem param_text (p : Pg) (c : UInt8) : (paramP p c).text = p.text := by
  unfold paramP digitP moreP numberP
  repeat' split
  all_goals rfl
theorem acts0 (xs : List Value) : xs ++ actsV [] = xs := List.append_nil _
set_option maxHeartbeats 4000000 in
theorem act5 (b : Nat) (P : Nat → Value) (p : Pg) (iv nv tv ov : Value) (t : TypeId) (c : UInt8) (n : Nat) (xs : List Value) (F : List Res) (w : World) (hs : Sep w (.blk b (parV P (.int .i64 p.state) (.string ⟨p.half.toArray⟩) iv (.bool p.wrong) (.bool p.first) (.int .i64 p.mark) nv (.bool p.full) tv ov) t :: .row iv 5 1 p.inter.length (p.inter.map K14.u8) :: .row nv 3 1 p.nums.length (ints p.nums) :: .row tv 5 1 p.text.length (p.text.map K14.u8) :: .row ov 118 7 n xs :: F)) (ok : NumsOk p.nums) (h48 : 48 ≤ c.toNat) :
    Calls Tryz.prog 95 #[.pointer (some ⟨b, 0, none⟩), .int .i64 5, .int .u8 c.toNat] w (StepsP b P t (paramP p c) [] n xs F) := by
  have HS := Lib.hid hs
  have OK := Lib.hid ok
  clear hs ok
  go_enter Tryz.func95, Tryz.ntmps95
  go_wp2_with (first | (go_at_call 134; refine (param_any b P p iv nv tv ov t c _ _ HS.out OK.out h48).mono ?_; rintro e w1 ⟨⟨iv1, nv1, rfl, hs⟩⟩; have HS := Lib.hid hs; clear hs))
  (first | go_end0 | refine bodyPost_ret (results_none rfl _ _ _) rfl ?_)
  refine ⟨⟨iv1, nv1, tv, ov, [], rfl, rfl, ?_⟩⟩
  rw [acts0, param_text]
  exact HS.out
set_option maxHeartbeats 4000000 in
theorem act2 (b : Nat) (P : Nat → Value) (p : Pg) (iv nv tv ov : Value) (t : TypeId) (c : UInt8) (n : Nat) (xs : List Value) (F : List Res) (w : World) (hs : Sep w (.blk b (parV P (.int .i64 p.state) (.string ⟨p.half.toArray⟩) iv (.bool p.wrong) (.bool p.first) (.int .i64 p.mark) nv (.bool p.full) tv ov) t :: .row iv 5 1 p.inter.length (p.inter.map K14.u8) :: .row nv 3 1 p.nums.length (ints p.nums) :: .row tv 5 1 p.text.length (p.text.map K14.u8) :: .row ov 118 7 n xs :: F)) (hn : n ≤ 100000) :
    Calls Tryz.prog 95 #[.pointer (some ⟨b, 0, none⟩), .int .i64 2, .int .u8 c.toNat] w (StepsP b P t p [⟨2, 0, c.toNat, 0, [], [], []⟩] n xs F) := by
  have HS := Lib.hid hs
  clear hs
  have hc8 := c.toNat_lt
  go_enter Tryz.func95, Tryz.ntmps95
  go_wp2_with (first | (go_at_call 129; have hs := HS.out.pick2 (r1 := .blk b (parV P (.int .i64 p.state) (.string ⟨p.half.toArray⟩) iv (.bool p.wrong) (.bool p.first) (.int .i64 p.mark) nv (.bool p.full) tv ov) t) (r2 := .row ov 118 7 n xs) K32.rm K32.rm; refine (tell_any b _ t ov n xs ⟨2, 0, c.toNat, 0, [], [], []⟩ (.slice none 0 0) _ _ hs rfl (by omega) rfl).mono ?_; clear hs; rintro e w1 ⟨⟨ov1, rfl, hs⟩⟩; rw [parV_set42] at hs; have HS := Lib.hid hs; clear hs))
  (first | go_end0 | refine bodyPost_ret (results_none rfl _ _ _) rfl ?_)
  refine ⟨⟨iv, nv, tv, ov1, [(⟨2, 0, c.toNat, 0, [], [], []⟩, (.slice none 0 0))], rfl, rfl, ?_⟩⟩
  have h := HS.out.nilRow (t := 3) (s := 1)
  have e : xs ++ actsV [((⟨2, 0, c.toNat, 0, [], [], []⟩ : Ac), (.slice none 0 0))] = xs ++ actV ⟨2, 0, c.toNat, 0, [], [], []⟩ (.slice none 0 0) := by simp [actsV]
  rw [e]
  exact h.end6 (s6 := .row (.slice none 0 0) 3 1 0 []) K32.rm K32.rm K32.rm K32.rm K32.rm K32.rm K32.sub
end Go.Proofs.YtnjgnbdebkckfaaGreatDoor.E15
namespace Go.Proofs.YtnjgnbdebkckfaaGreatDoor.E16
set_option maxRecDepth 100000
open Go.RowKit K1 K3 K5 K11 K12 K14 K20 K21 K22 K25 K30 K31 M0 U2 P3 P6 E2 E3 E4 E5 E6 E7 E8 E9 E10 E11 E12 E13 E14 E15
attribute [local go_sem] cell_pastA froz_pastA
theorem nxt_eq (p : Pg) (c : UInt8) : nxt p.inter c = nextS p c := rfl
set_option maxHeartbeats 4000000 in
theorem act4 (b : Nat) (P : Nat → Value) (p : Pg) (iv nv tv ov : Value) (t : TypeId) (c : UInt8) (n : Nat) (xs : List Value) (F : List Res) (w : World) (hs : Sep w (.blk b (parV P (.int .i64 p.state) (.string ⟨p.half.toArray⟩) iv (.bool p.wrong) (.bool p.first) (.int .i64 p.mark) nv (.bool p.full) tv ov) t :: .row iv 5 1 p.inter.length (p.inter.map K14.u8) :: .row nv 3 1 p.nums.length (ints p.nums) :: .row tv 5 1 p.text.length (p.text.map K14.u8) :: .row ov 118 7 n xs :: F)) (hn : n ≤ 100000) :
    Calls Tryz.prog 95 #[.pointer (some ⟨b, 0, none⟩), .int .i64 4, .int .u8 c.toNat] w (StepsP b P t (finishP p c).2 (finishP p c).1 n xs F) := by
  have HS := Lib.hid hs
  clear hs
  generalize hq : finishP p c = q
  have HQ := Lib.hid hq
  clear hq
  go_enter Tryz.func95, Tryz.ntmps95
  go_wp2_with (first | (go_at_call 133; have hs := HS.out.pick3 (r1 := .blk b (parV P (.int .i64 p.state) (.string ⟨p.half.toArray⟩) iv (.bool p.wrong) (.bool p.first) (.int .i64 p.mark) nv (.bool p.full) tv ov) t) (r2 := .row iv 5 1 p.inter.length (p.inter.map K14.u8)) (r3 := .row ov 118 7 n xs) K32.rm K32.rm K32.rm; refine (finish_any b P (.int .i64 p.state) (.string ⟨p.half.toArray⟩) iv (.bool p.wrong) (.bool p.first) (.int .i64 p.mark) nv (.bool p.full) tv ov iv ov t _ p.inter c p.wrong n xs _ _ hs hn).mono ?_; clear hs; rintro e w1 ⟨iv1, ⟨⟨ov1, rfl, hs⟩⟩⟩; have HS := Lib.hid hs; clear hs))
  (first | go_end0 | refine bodyPost_ret (results_none rfl _ _ _) rfl ?_)
  have hs := HS.out
  have hq := HQ.out
  clear HS HQ
  subst hq
  unfold finishP
  rw [nxt_eq] at hs
  by_cases h : nextS p c = 0 ∧ p.wrong = false
  · simp only [if_pos h] at hs ⊢
    refine ⟨⟨(.slice none 0 0), (.slice none 0 0), (.slice none 0 0), ov1, [(⟨3, 0, c.toNat, 0, [], p.inter, []⟩, (.slice none 0 0))], rfl, rfl, ?_⟩⟩
    have h2 := ((hs.nilRow (t := 3) (s := 1)).nilRow (t := 5) (s := 1)).nilRow (t := 3) (s := 1)
    have h3 := h2.nilRow (t := 5) (s := 1)
    have e : xs ++ actsV [((⟨3, 0, c.toNat, 0, [], p.inter, []⟩ : Ac), (.slice none 0 0))] = xs ++ actV ⟨3, 0, c.toNat, 0, [], p.inter, []⟩ (.slice none 0 0) := by simp [actsV]
    rw [e]
    exact h3.end6 (s6 := .row (.slice none 0 0) 3 1 0 []) K32.rm K32.rm K32.rm K32.rm K32.rm K32.rm K32.sub
  · simp only [if_neg h] at hs ⊢
    refine ⟨⟨(.slice none 0 0), (.slice none 0 0), (.slice none 0 0), ov1, [], rfl, rfl, ?_⟩⟩
    have h2 := (hs.nilRow (t := 5) (s := 1)).nilRow (t := 3) (s := 1)
    have h3 := h2.nilRow (t := 5) (s := 1)
    rw [acts0]
    exact h3.end5 K32.rm K32.rm K32.rm K32.rm K32.rm K32.sub
end Go.Proofs.YtnjgnbdebkckfaaGreatDoor.E16
namespace Go.Proofs.YtnjgnbdebkckfaaGreatDoor.E17
set_option maxRecDepth 100000
open Go.RowKit K1 K3 K5 K11 K12 K14 K20 K21 K22 K25 K30 K31 M0 U2 P3 P6 E2 E3 E4 E5 E6 E7 E8 E9 E10 E11 E12 E13 E14 E15 E16
attribute [local go_sem] cell_pastA froz_pastA
set_option maxHeartbeats 4000000 in
theorem act6 (b : Nat) (P : Nat → Value) (p : Pg) (v33 v34 v35 v36 v37 v38 v39 v40 v41 v42 iv nv tv ov : Value) (t : TypeId) (c : UInt8) (n : Nat) (xs : List Value) (F : List Res) (w : World) (hs : Sep w (.blk b (parV P (.int .i64 p.state) (.string ⟨p.half.toArray⟩) iv (.bool p.wrong) (.bool p.first) (.int .i64 p.mark) nv (.bool p.full) tv ov) t :: .row iv 5 1 p.inter.length (p.inter.map K14.u8) :: .row nv 3 1 p.nums.length (ints p.nums) :: .row tv 5 1 p.text.length (p.text.map K14.u8) :: .row ov 118 7 n xs :: F)) (hn : n ≤ 100000) :
    Calls Tryz.prog 95 #[.pointer (some ⟨b, 0, none⟩), .int .i64 6, .int .u8 c.toNat] w (StepsP b P t (dispatchP p c).2 (dispatchP p c).1 n xs F) := by
  obtain ⟨ia, ic, rfl⟩ := own_form (hs.hereRow (v := iv) K32.rm)
  obtain ⟨na, nc, rfl⟩ := own_form (hs.hereRow (v := nv) K32.rm)
  obtain ⟨ta, tc, rfl⟩ := own_form (hs.hereRow (v := tv) K32.rm)
  cases hw : p.wrong with
  | true =>
    have e : dispatchP p c = ([], beginP p 0) := by unfold dispatchP; rw [if_pos hw]
    rw [e]
    clear e
    rw [hw] at hs
    have HS := Lib.hid hs
    clear hs
    go_enter Tryz.func95, Tryz.ntmps95
    go_wp2_with (first | (go_at_call 135; have hs := HS.out.pick3 (r1 := .blk b (parV P (.int .i64 p.state) (.string ⟨p.half.toArray⟩) (.slice ia p.inter.length ic) (.bool true) (.bool p.first) (.int .i64 p.mark) (.slice na p.nums.length nc) (.bool p.full) (.slice ta p.text.length tc) ov) t) (r2 := .row (.slice ia p.inter.length ic) 5 1 p.inter.length (p.inter.map K14.u8)) (r3 := .row ov 118 7 n xs) K32.rm K32.rm K32.rm; refine (disp_t b P v33 v34 v35 v36 v37 v38 v39 v40 v41 v42 ov p.state p.first p.full na ta p.nums.length nc p.text.length tc t _ ia ic p.inter c p.mark p.nums n xs _ _ hs hn).mono ?_; clear hs; rintro e w1 ⟨⟨ov1, rfl, hs⟩⟩; have HS := Lib.hid hs; clear hs))
    (first | go_end0 | refine bodyPost_ret (results_none rfl _ _ _) rfl ?_)
    refine ⟨⟨(.slice none 0 0), (.slice none 0 0), (.slice none 0 0), ov1, [], rfl, rfl, ?_⟩⟩
    have h2 := (HS.out.nilRow (t := 5) (s := 1)).nilRow (t := 3) (s := 1)
    have h3 := h2.nilRow (t := 5) (s := 1)
    rw [acts0]
    exact h3.end5 K32.rm K32.rm K32.rm K32.rm K32.rm K32.sub
  | false =>
    have e : dispatchP p c = ([⟨4, 0, c.toNat, p.mark, p.nums, p.inter, []⟩], beginP p 0) := by unfold dispatchP; rw [if_neg (by rw [hw]; simp)]
    rw [e]
    clear e
    rw [hw] at hs
    have HS := Lib.hid hs
    clear hs
    go_enter Tryz.func95, Tryz.ntmps95
    go_wp2_with (first | (go_at_call 135; have hs := HS.out.pick3 (r1 := .blk b (parV P (.int .i64 p.state) (.string ⟨p.half.toArray⟩) (.slice ia p.inter.length ic) (.bool false) (.bool p.first) (.int .i64 p.mark) (.slice na p.nums.length nc) (.bool p.full) (.slice ta p.text.length tc) ov) t) (r2 := .row (.slice ia p.inter.length ic) 5 1 p.inter.length (p.inter.map K14.u8)) (r3 := .row ov 118 7 n xs) K32.rm K32.rm K32.rm; refine (disp_f b P v33 v34 v35 v36 v37 v38 v39 v40 v41 v42 ov p.state p.first p.full na ta p.nums.length nc p.text.length tc t _ ia ic p.inter c p.mark p.nums n xs _ _ hs hn).mono ?_; clear hs; rintro e w1 ⟨⟨ov1, rfl, hs⟩⟩; have HS := Lib.hid hs; clear hs))
    (first | go_end0 | refine bodyPost_ret (results_none rfl _ _ _) rfl ?_)
    refine ⟨⟨(.slice none 0 0), (.slice none 0 0), (.slice none 0 0), ov1, [(⟨4, 0, c.toNat, p.mark, p.nums, p.inter, []⟩, (.slice na p.nums.length nc))], rfl, rfl, ?_⟩⟩
    have h2 := (HS.out.nilRow (t := 5) (s := 1)).nilRow (t := 3) (s := 1)
    have h3 := h2.nilRow (t := 5) (s := 1)
    have e : xs ++ actsV [((⟨4, 0, c.toNat, p.mark, p.nums, p.inter, []⟩ : Ac), (.slice na p.nums.length nc))] = xs ++ actV ⟨4, 0, c.toNat, p.mark, p.nums, p.inter, []⟩ (.slice na p.nums.length nc) := by simp [actsV]
    rw [e]
    exact h3.end6 (s6 := .row (.slice na p.nums.length nc) 3 1 p.nums.length (ints p.nums)) K32.rm K32.rm K32.rm K32.rm K32.rm K32.rm K32.sub
end Go.Proofs.YtnjgnbdebkckfaaGreatDoor.E17
namespace Go.Proofs.YtnjgnbdebkckfaaGreatDoor.E18
set_option maxRecDepth 100000
open Go.RowKit K1 K3 K5 K11 K12 K14 K20 K21 K22 K25 K30 K31 M0 U2 P1 P3 P6 E2 E3 E4 E5 E6 E7 E8 E9 E10 E11 E12 E13 E14 E15 E16 E17
attribute [local go_sem] cell_pastA froz_pastA
set_option maxHeartbeats 4000000 in
theorem act7 (b : Nat) (P : Nat → Value) (p : Pg) (iv nv tv ov : Value) (t : TypeId) (c : UInt8) (n : Nat) (xs : List Value) (F : List Res) (w : World) (hs : Sep w (.blk b (parV P (.int .i64 p.state) (.string ⟨p.half.toArray⟩) iv (.bool p.wrong) (.bool p.first) (.int .i64 p.mark) nv (.bool p.full) tv ov) t :: .row iv 5 1 p.inter.length (p.inter.map K14.u8) :: .row nv 3 1 p.nums.length (ints p.nums) :: .row tv 5 1 p.text.length (p.text.map K14.u8) :: .row ov 118 7 n xs :: F)) (h60 : p.text.length ≤ 60) :
    Calls Tryz.prog 95 #[.pointer (some ⟨b, 0, none⟩), .int .i64 7, .int .u8 c.toNat] w (StepsP b P t (if p.text.length < 60 then { p with text := p.text ++ [c] } else p) [] n xs F) := by
  obtain ⟨ta, tc, rfl⟩ := own_form (hs.hereRow (v := tv) K32.rm)
  obtain ⟨hcR, hzR, hlR⟩ := hs.here (b := b) K32.rm
  have hcR41 := (hcR 41).trans (parV_41 ..)
  clear hcR
  have HS := Lib.hid hs
  clear hs
  obtain ⟨i0, ih, ia, ib, ic⟩ := info_parts infoU
  have iI := Lib.hid ih
  clear ih
  by_cases h : p.text.length < 60
  · rw [if_pos h]
    go_enter Tryz.func95, Tryz.ntmps95
    go_wp2_with (first | (refine K30.atOp (d := 64) ?_; at_builtin; (with_reducible apply K30.list_at); exact K32.fnd; intro xw hs; (try simp only [World.size_alloc, World.size_setCell, parV_set33, parV_set34, parV_set35, parV_set36, parV_set37, parV_set38, parV_set39, parV_set40, parV_set41, parV_set42] at hs); have hnw := news_of1 (hs.here (cs := [.int .u8 c.toNat]) (t := 5) K32.rm).1; have hs := hs.pick (r1 := .row (.slice ta p.text.length tc) 5 1 p.text.length (p.text.map K14.u8)) K32.rm; refine wpList_appS rfl (.tmp 61) (.tmp 63) 36 rfl 5 i0 (.int .u8 0) 1 1 Tryz.underlying36 iI.out ia ib ic rfl (by decide) _ p.text.length (p.text.map K14.u8) _ rfl hs ⟨_, 0, none⟩ 1 _ [.int .u8 c.toNat] rfl rfl hnw (by intro u hu; simp at hu; subst hu; rfl) (by omega) (by omega) (by decide) ?_; intro g2 cap2 w2 hs2 hz2; clear hs; (try clear hcR hzR hlR); obtain ⟨hcR, hzR, hlR⟩ := hs2.here (b := b) K32.rm; (try clear hcR41); have hcR41 := (hcR 41).trans (parV_41 ..); clear hcR; have HS := Lib.hid hs2; clear hs2))
    (first | go_end0 | refine bodyPost_ret (results_none rfl _ _ _) rfl ?_)
    refine ⟨⟨iv, nv, .slice (some ⟨g2, 0, none⟩) (p.text.length + 1) cap2, ov, [], rfl, rfl, ?_⟩⟩
    rw [acts0]
    have e1 : (p.text ++ [c]).length = p.text.length + 1 := by simp
    have e2 : (p.text ++ [c]).map K14.u8 = p.text.map K14.u8 ++ [.int .u8 c.toNat] := by simp [K14.u8]
    simp only [e1, e2]
    ((with_reducible apply K30.sep_end); exact K32.fnd; intro hs; (try simp only [World.size_alloc, World.size_setCell, parV_set33, parV_set34, parV_set35, parV_set36, parV_set37, parV_set38, parV_set39, parV_set40, parV_set41, parV_set42] at hs); exact hs.end5 K32.rm K32.rm K32.rm K32.rm K32.rm K32.sub)
  · rw [if_neg h]
    go_enter Tryz.func95, Tryz.ntmps95
    go_wp2_with fail
    (first | go_end0 | refine bodyPost_ret (results_none rfl _ _ _) rfl ?_)
    refine ⟨⟨iv, nv, (.slice ta p.text.length tc), ov, [], rfl, rfl, ?_⟩⟩
    rw [acts0]
    exact HS.out
end Go.Proofs.YtnjgnbdebkckfaaGreatDoor.E18
namespace Go.Proofs.YtnjgnbdebkckfaaGreatDoor.E19
set_option maxRecDepth 100000
open Go.RowKit K1 K3 K5 K11 K12 K14 K20 K21 K22 K25 K30 K31 M0 U2 P3 P6 E2 E3 E4 E5 E6 E7 E8 E9 E10 E11 E12 E13 E14 E15 E16 E17 E18
attribute [local go_sem] cell_pastA froz_pastA
set_option maxHeartbeats 4000000 in
theorem act8 (b : Nat) (P : Nat → Value) (p : Pg) (iv nv tv ov : Value) (t : TypeId) (c : UInt8) (n : Nat) (xs : List Value) (F : List Res) (w : World) (hs : Sep w (.blk b (parV P (.int .i64 p.state) (.string ⟨p.half.toArray⟩) iv (.bool p.wrong) (.bool p.first) (.int .i64 p.mark) nv (.bool p.full) tv ov) t :: .row iv 5 1 p.inter.length (p.inter.map K14.u8) :: .row nv 3 1 p.nums.length (ints p.nums) :: .row tv 5 1 p.text.length (p.text.map K14.u8) :: .row ov 118 7 n xs :: F)) (hn : n ≤ 100000) (h7 : c.toNat = 7) :
    Calls Tryz.prog 95 #[.pointer (some ⟨b, 0, none⟩), .int .i64 8, .int .u8 c.toNat] w (StepsP b P t (beginP p 0) (endP p) n xs F) := by
  have HS := Lib.hid hs
  clear hs
  rw [h7]
  go_enter Tryz.func95, Tryz.ntmps95
  go_wp2_with (first | (go_at_call 94; have hs := HS.out.pick3 (r1 := .blk b (parV P (.int .i64 p.state) (.string ⟨p.half.toArray⟩) iv (.bool p.wrong) (.bool p.first) (.int .i64 p.mark) nv (.bool p.full) tv ov) t) (r2 := .row tv 5 1 p.text.length (p.text.map K14.u8)) (r3 := .row ov 118 7 n xs) K32.rm K32.rm K32.rm; refine (end_any b P (.int .i64 p.state) (.string ⟨p.half.toArray⟩) iv (.bool p.wrong) (.bool p.first) (.int .i64 p.mark) nv (.bool p.full) tv ov tv ov t p.state p.text n xs _ _ hs hn).mono ?_; clear hs; rintro e w1 ⟨⟨ov1, rfl, hs⟩⟩; generalize hN : (if p.state = 3 ∨ p.state = 4 then n + 1 else n) = N at hs; generalize hX : (if p.state = 3 then xs ++ actV ⟨5, 0, 0, 0, [], [], p.text⟩ (.slice none 0 0) else if p.state = 4 then xs ++ actV ⟨6, 0, 0, 0, [], [], p.text⟩ (.slice none 0 0) else xs) = X at hs; have HN := Lib.hid hN; have HX := Lib.hid hX; clear hN hX; have HS := Lib.hid hs; clear hs) | (go_at_call 93; refine (begin_any b P (.int .i64 p.state) (.string ⟨p.half.toArray⟩) iv (.bool p.wrong) (.bool p.first) (.int .i64 p.mark) nv (.bool p.full) tv ov1 t 0 _ _ _ HS.out rfl).mono ?_; rintro e w2 ⟨rfl, hs⟩; have HS := Lib.hid hs; clear hs))
  (first | go_end0 | refine bodyPost_ret (results_none rfl _ _ _) rfl ?_)
  have hs := HS.out
  have hN := HN.out
  have hX := HX.out
  clear HS HN HX
  subst hN hX
  unfold endP
  have h2 := ((hs.nilRow (t := 3) (s := 1)).nilRow (t := 5) (s := 1)).nilRow (t := 3) (s := 1)
  have h3 := h2.nilRow (t := 5) (s := 1)
  by_cases h : p.state = 3
  · simp only [if_pos h, h, true_or, if_true] at h3 ⊢
    refine ⟨⟨(.slice none 0 0), (.slice none 0 0), (.slice none 0 0), ov1, [(⟨5, 0, 0, 0, [], [], p.text⟩, (.slice none 0 0))], rfl, rfl, ?_⟩⟩
    have e : xs ++ actsV [((⟨5, 0, 0, 0, [], [], p.text⟩ : Ac), (.slice none 0 0))] = xs ++ actV ⟨5, 0, 0, 0, [], [], p.text⟩ (.slice none 0 0) := by simp [actsV]
    rw [e]
    exact h3.end6 (s6 := .row (.slice none 0 0) 3 1 0 []) K32.rm K32.rm K32.rm K32.rm K32.rm K32.rm K32.sub
  · by_cases h4 : p.state = 4
    · rw [if_pos (.inr h4), if_neg h, if_pos h4] at h3
      rw [if_neg h, if_pos h4]
      refine ⟨⟨(.slice none 0 0), (.slice none 0 0), (.slice none 0 0), ov1, [(⟨6, 0, 0, 0, [], [], p.text⟩, (.slice none 0 0))], rfl, rfl, ?_⟩⟩
      have e : xs ++ actsV [((⟨6, 0, 0, 0, [], [], p.text⟩ : Ac), (.slice none 0 0))] = xs ++ actV ⟨6, 0, 0, 0, [], [], p.text⟩ (.slice none 0 0) := by simp [actsV]
      rw [e]
      exact h3.end6 (s6 := .row (.slice none 0 0) 3 1 0 []) K32.rm K32.rm K32.rm K32.rm K32.rm K32.rm K32.sub
    · rw [if_neg (by omega), if_neg h, if_neg h4] at h3
      rw [if_neg h, if_neg h4]
      refine ⟨⟨(.slice none 0 0), (.slice none 0 0), (.slice none 0 0), ov1, [], rfl, rfl, ?_⟩⟩
      rw [acts0]
      exact h3.end5 K32.rm K32.rm K32.rm K32.rm K32.rm K32.sub
set_option maxHeartbeats 4000000 in
theorem act8n (b : Nat) (P : Nat → Value) (p : Pg) (iv nv tv ov : Value) (t : TypeId) (c : UInt8) (n : Nat) (xs : List Value) (F : List Res) (w : World) (hs : Sep w (.blk b (parV P (.int .i64 p.state) (.string ⟨p.half.toArray⟩) iv (.bool p.wrong) (.bool p.first) (.int .i64 p.mark) nv (.bool p.full) tv ov) t :: .row iv 5 1 p.inter.length (p.inter.map K14.u8) :: .row nv 3 1 p.nums.length (ints p.nums) :: .row tv 5 1 p.text.length (p.text.map K14.u8) :: .row ov 118 7 n xs :: F)) (h7 : c.toNat ≠ 7) :
    Calls Tryz.prog 95 #[.pointer (some ⟨b, 0, none⟩), .int .i64 8, .int .u8 c.toNat] w (StepsP b P t p [] n xs F) := by
  have HS := Lib.hid hs
  clear hs
  have hc8 := c.toNat_lt
  go_enter Tryz.func95, Tryz.ntmps95
  go_wp2_with fail
  (first | go_end0 | refine bodyPost_ret (results_none rfl _ _ _) rfl ?_)
  refine ⟨⟨iv, nv, tv, ov, [], rfl, rfl, ?_⟩⟩
  rw [acts0]
  exact HS.out
end Go.Proofs.YtnjgnbdebkckfaaGreatDoor.E19
namespace Go.Proofs.YtnjgnbdebkckfaaGreatDoor.E20
set_option maxRecDepth 100000
open Go.RowKit K1 K3 K5 K11 K12 K14 K20 K21 K22 K25 K30 K31 M0 U2 P3 P6 E2 E3 E4 E5 E6 E7 E8 E9 E10 E11 E12 E13 E14 E15 E16 E17 E18 E19
attribute [local go_sem] cell_pastA froz_pastA
theorem stepU_len (h : List UInt8) (c : UInt8) : (stepU h c).1.length ≤ 2 := by
  unfold stepU startU
  repeat' split
  all_goals simp
theorem nils (l : List Int) {w : World} {X : List Res} (h : Sep w X) : Sep w (actsR (l.map fun r => (acPrint r, (.slice none 0 0))) ++ X) := by
  induction l with
  | nil => exact h
  | cons r l ih => exact ih.nilRow (t := 3) (s := 1)
set_option maxHeartbeats 4000000 in
theorem act1 (b : Nat) (P : Nat → Value) (p : Pg) (iv nv tv ov : Value) (t : TypeId) (c : UInt8) (n : Nat) (xs : List Value) (F : List Res) (w : World) (hs : Sep w (.blk b (parV P (.int .i64 p.state) (.string ⟨p.half.toArray⟩) iv (.bool p.wrong) (.bool p.first) (.int .i64 p.mark) nv (.bool p.full) tv ov) t :: .row iv 5 1 p.inter.length (p.inter.map K14.u8) :: .row nv 3 1 p.nums.length (ints p.nums) :: .row tv 5 1 p.text.length (p.text.map K14.u8) :: .row ov 118 7 n xs :: F)) (hn : n ≤ 50000) (ok : HalfOk p.half) :
    Calls Tryz.prog 95 #[.pointer (some ⟨b, 0, none⟩), .int .i64 1, .int .u8 c.toNat] w (StepsP b P t (printP p c).2 (printP p c).1 n xs F) := by
  have HS := Lib.hid hs
  have HCV := Lib.hid (conv1 c)
  have OK := Lib.hid ok
  clear hs ok
  have hc8 := c.toNat_lt
  have HL := Lib.hid (stepU_len p.half c)
  go_enter Tryz.func95, Tryz.ntmps95
  go_wp2_with (first | (refine K32.atW 2 (fun xw hs => ?_); (try simp only [World.size_alloc, World.size_setCell, parV_set33, parV_set34, parV_set35, parV_set36, parV_set37, parV_set38, parV_set39, parV_set40, parV_set41, parV_set42] at hs); skip; have HS := Lib.hid hs; clear hs; refine K32.reg0 (w := xw) [6, 8] [0] 9 ?_; simp only [numbered, List.take_succ_cons, List.take_zero, List.drop_succ_cons, List.drop_zero, List.take_nil, List.drop_nil, Nat.reduceAdd]; (refine K32.zf ?_; (try go_simp)); (iterate 5 (refine K32.zd ?_; (try go_simp))); (refine wz_new (fun b => .slice (some ⟨b, 0, none⟩) 1 1) _ _ (by decide) (by decide) (by decide) C0e.es (growsB (by simp)) (by first | rfl | (go_simp; done)) (by intro b b' h; simp at h; omega) (by simp) (fun _ _ h => Below.size h) (fun bs hok wx hwx hL => by (have hwx : Below _ _ wx := hwx; have hcx := cellA hwx; have hfx := frozA hwx; have hzx := hwx.size; (try simp at hzx)); (try simp [go_sem, K32.ev, ↓IntWalk.iteOmega, *]); first | done | rfl) ?_; intro b6 hb6 F6 hF6; (try simp at hb6); (try go_simp)); (refine K32.zc ?_; apply Exists.intro; refine ⟨fun bs hok wx hwx hL => ?_, ?_⟩; (focus ((have hwx : Below _ _ wx := hwx; have hcx := cellA hwx; have hfx := frozA hwx; have hzx := hwx.size; (try simp at hzx)); (try (have hm6 := hF6 _ (hL (6, F6) (by simp) (by kernel_rfl)); have hk6 := cell_blk hm6)); have hcv := HCV.out wx b6 hm6; unfold zAt; (try simp [go_sem, K32.ev, ↓IntWalk.iteOmega, *]); (try simp (disch := omega) only [K32.unw]); (try simp only [zUpon]); (first | fail | exact ⟨rfl, Below.refl _ _⟩))); (try go_simp)); (refine wz_new (fun b => .slice (some ⟨b, 0, none⟩) 1 1) _ _ (by decide) (by decide) (by decide) C0e.es (growsB (by simp)) (by first | rfl | (go_simp; done)) (by intro b b' h; simp at h; omega) (by simp) (fun _ _ h => Below.size h) (fun bs hok wx hwx hL => by (have hwx : Below _ _ wx := hwx; have hcx := cellA hwx; have hfx := frozA hwx; have hzx := hwx.size; (try simp at hzx)); (try (have hm6 := hF6 _ (hL (6, F6) (by simp) (by kernel_rfl)); have hk6 := cell_blk hm6)); (try simp [go_sem, K32.ev, ↓IntWalk.iteOmega, *]); first | done | rfl) ?_; intro b8 hb8 F8 hF8; (try simp at hb8); (try go_simp)); refine wz_nil ?_; intro wq hbq hLq; have hm6 := hF6 _ (hLq.get 6 (by simp)); have hm8 := hF8 _ (hLq.get 8 (by simp)); obtain ⟨hk6, hx6, hg6, hy6, hl6⟩ := blk hm6; obtain ⟨hk8, hx8, hg8, hy8, hl8⟩ := blk hm8; clear hLq hF6 hF8; have hcwq := cellA hbq; have hfwq := frozA hbq; have hzwq := hbq.size; (try simp at hzwq); have hs := HS.out.addBlk (xs := [.string ⟨#[c]⟩]) hbq hm8 (by simpa using hb8) rfl; have HS := Lib.hid hs; clear hs) | (go_at_call 131; have hs := HS.out.pick2 (r1 := .blk b8 [.string ⟨#[c]⟩] 9) (r2 := .blk b (parV P (.int .i64 p.state) (.string ⟨p.half.toArray⟩) iv (.bool p.wrong) (.bool p.first) (.int .i64 p.mark) nv (.bool p.full) tv ov) t) K32.rm K32.rm; refine (feed_any b 34 b8 _ t p.half c _ _ hs rfl OK.out).mono ?_; clear hs; rintro e w1 ⟨⟨rv, rfl, hs⟩⟩; rw [parV_set34, Nat.zero_add, List.nil_append] at hs; have HS := Lib.hid hs; clear hs) | (go_at_call 91; have hs := HS.out.pick3 (r1 := .blk b (parV P (.int .i64 p.state) (.string ⟨(stepU p.half c).2.toArray⟩) iv (.bool p.wrong) (.bool p.first) (.int .i64 p.mark) nv (.bool p.full) tv ov) t) (r2 := .row rv 21 1 (stepU p.half c).1.length (rvs (stepU p.half c).1)) (r3 := .row ov 118 7 n xs) K32.rm K32.rm K32.rm; refine (print_any b P (.int .i64 p.state) (.string ⟨(stepU p.half c).2.toArray⟩) iv (.bool p.wrong) (.bool p.first) (.int .i64 p.mark) nv (.bool p.full) tv ov rv ov t (stepU p.half c).1 n xs _ _ hs (by have := HL.out; omega)).mono ?_; clear hs; rintro e w2 ⟨⟨ov1, rfl, hs⟩⟩; have HS := Lib.hid hs; clear hs))
  (first | go_end0 | refine bodyPost_ret (results_none rfl _ _ _) rfl ?_)
  have hs := HS.out
  have h5 := hs.end5 (F := F) (s1 := .blk b (parV P (.int .i64 p.state) (.string ⟨(stepU p.half c).2.toArray⟩) iv (.bool p.wrong) (.bool p.first) (.int .i64 p.mark) nv (.bool p.full) tv ov1) t) (s2 := .row iv 5 1 p.inter.length (p.inter.map K14.u8)) (s3 := .row nv 3 1 p.nums.length (ints p.nums)) (s4 := .row tv 5 1 p.text.length (p.text.map K14.u8)) (s5 := .row ov1 118 7 (n + (stepU p.half c).1.length) (xs ++ ((stepU p.half c).1.flatMap fun r => actV (acPrint r) (.slice none 0 0)))) K32.rm K32.rm K32.rm K32.rm K32.rm K32.sub
  have h6 := (nils (stepU p.half c).1 h5).perm (List.perm_append_comm_assoc _ [_, _, _, _, _] F)
  refine ⟨⟨iv, nv, tv, ov1, (stepU p.half c).1.map (fun r => (acPrint r, (.slice none 0 0))), rfl, by simp [printP], ?_⟩⟩
  have e1 : (printP p c).1.length = (stepU p.half c).1.length := by simp [printP]
  have e2 : actsV ((stepU p.half c).1.map (fun r => (acPrint r, (.slice none 0 0)))) = (stepU p.half c).1.flatMap fun r => actV (acPrint r) (.slice none 0 0) := by simp [actsV, List.flatMap_map]
  rw [e1, e2]
  exact h6
end Go.Proofs.YtnjgnbdebkckfaaGreatDoor.E20
namespace Go.Proofs.YtnjgnbdebkckfaaGreatDoor.E21
set_option maxRecDepth 100000
open Go.RowKit K1 K3 K5 K11 K12 K14 K20 K21 K22 K25 K30 K31 M0 U2 P3 P6 E2 E3 E4 E5 E6 E7 E8 E9 E10 E11 E12 E13 E14 E15 E16 E17 E18 E19 E20
attribute [local go_sem] cell_pastA froz_pastA
structure PgOk (p : Pg) : Prop where
  st : p.state ≤ 4
  half : HalfOk p.half
  inter : p.inter.length ≤ 2
  nums : NumsOk p.nums
  text : p.text.length ≤ 60
set_option maxHeartbeats 4000000 in
theorem act0 (b : Nat) (P : Nat → Value) (p : Pg) (iv nv tv ov : Value) (t : TypeId) (c : UInt8) (n : Nat) (xs : List Value) (F : List Res) (w : World) (hs : Sep w (.blk b (parV P (.int .i64 p.state) (.string ⟨p.half.toArray⟩) iv (.bool p.wrong) (.bool p.first) (.int .i64 p.mark) nv (.bool p.full) tv ov) t :: .row iv 5 1 p.inter.length (p.inter.map K14.u8) :: .row nv 3 1 p.nums.length (ints p.nums) :: .row tv 5 1 p.text.length (p.text.map K14.u8) :: .row ov 118 7 n xs :: F)) :
    Calls Tryz.prog 95 #[.pointer (some ⟨b, 0, none⟩), .int .i64 0, .int .u8 c.toNat] w (StepsP b P t p [] n xs F) := by
  have HS := Lib.hid hs
  clear hs
  go_enter Tryz.func95, Tryz.ntmps95
  go_wp2_with fail
  (first | go_end0 | refine bodyPost_ret (results_none rfl _ _ _) rfl ?_)
  refine ⟨⟨iv, nv, tv, ov, [], rfl, rfl, ?_⟩⟩
  rw [acts0]
  exact HS.out
theorem act_any (b : Nat) (P : Nat → Value) (p : Pg) (iv nv tv ov : Value) (t : TypeId) (what : Nat) (c : UInt8) (n : Nat) (xs : List Value) (F : List Res) (w : World) (hs : Sep w (.blk b (parV P (.int .i64 p.state) (.string ⟨p.half.toArray⟩) iv (.bool p.wrong) (.bool p.first) (.int .i64 p.mark) nv (.bool p.full) tv ov) t :: .row iv 5 1 p.inter.length (p.inter.map K14.u8) :: .row nv 3 1 p.nums.length (ints p.nums) :: .row tv 5 1 p.text.length (p.text.map K14.u8) :: .row ov 118 7 n xs :: F)) (ok : PgOk p) (hn : n ≤ 50000) (hw : what ≤ 8) (h5 : what = 5 → 48 ≤ c.toNat) :
    Calls Tryz.prog 95 #[.pointer (some ⟨b, 0, none⟩), .int .i64 what, .int .u8 c.toNat] w (StepsP b P t (actP p what c).2 (actP p what c).1 n xs F) := by
  match what, hw with
  | 0, _ => exact act0 b P p iv nv tv ov t c n xs F w hs
  | 1, _ => exact act1 b P p iv nv tv ov t c n xs F w hs hn ok.half
  | 2, _ => exact act2 b P p iv nv tv ov t c n xs F w hs (by omega)
  | 3, _ => exact act3 b P p iv nv tv ov t c n xs F w hs ok.inter
  | 4, _ => exact act4 b P p iv nv tv ov t c n xs F w hs (by omega)
  | 5, _ => exact act5 b P p iv nv tv ov t c n xs F w hs ok.nums (h5 rfl)
  | 6, _ => exact act6 b P p (.bool true) (.bool true) (.bool true) (.bool true) (.bool true) (.bool true) (.bool true) (.bool true) (.bool true) (.bool true) iv nv tv ov t c n xs F w hs (by omega)
  | 7, _ => exact act7 b P p iv nv tv ov t c n xs F w hs ok.text
  | 8, _ =>
    by_cases h : c = 7
    · have e : actP p 8 c = (endP p, beginP p 0) := by subst h; rfl
      rw [e]
      exact act8 b P p iv nv tv ov t c n xs F w hs (by omega) (by rw [h]; rfl)
    · have e : actP p 8 c = ([], p) := by unfold actP; simp [h]
      rw [e]
      exact act8n b P p iv nv tv ov t c n xs F w hs (fun h7 => h (UInt8.toNat_inj.1 h7))
end Go.Proofs.YtnjgnbdebkckfaaGreatDoor.E21
