/- Y0, Y2 -/
import Derived.Test.YtnjgnbdebkckfaaGreatDoorA7
import Derived.Test.YtnjgnbdebkckfaaGreatDoorA9
import Derived.Test.YtnjgnbdebkckfaaGreatDoorA14
import Derived.Lib.Hide
set_option linter.unusedVariables false
set_option linter.unusedSimpArgs false
set_option linter.unnecessarySimpa false
namespace Go.Proofs.YtnjgnbdebkckfaaGreatDoor.Y0
set_option maxRecDepth 100000
open Go.RowKit K1 K3 K5 K11 K12 K14 K20 K21 K22 K25 K30 K31 M0 ME
attribute [local go_sem] cell_pastA froz_pastA
theorem ends_any (x y : Int) (w : World) : Calls Tryz.prog 23 #[.int .i64 x, .int .i64 y] w fun e w' => e = .returned (.tuple #[.int .i64 (endW x), .int .i64 (endH y)]) ∧ w' = w := by
  go_enter Tryz.func23, Tryz.ntmps23
  go_wp2_with fail
  go_ret2
  exact ⟨rfl, rfl⟩
theorem digN_more : ∀ (k n : Nat), n < 10 ^ (k + 1) → digN (k + 2) n = digN (k + 1) n
  | 0, n, h => by
    unfold digN
    rw [if_pos (by simpa using h), if_pos (by simpa using h)]
  | k + 1, n, h => by
    unfold digN
    split
    · rfl
    · rw [digN_more k (n / 10) (by rw [Nat.div_lt_iff_lt_mul (by decide)]; rw [Nat.pow_succ] at h; omega)]
theorem dig_step (n : Nat) (h0 : 10 ≤ n) (h1 : n < 1000000000000000000) : digF (n : Int) = digF ((n / 10 : Nat) : Int) ++ [UInt8.ofNat (48 + n % 10)] := by
  show digN 20 n = digN 20 (n / 10) ++ _
  rw [digN_more 18 (n / 10) (by omega)]
  show (if n < 10 then _ else _) = _
  rw [if_neg (by omega)]
theorem dig_one (n : Nat) (h : n < 10) : digF (n : Int) = [UInt8.ofNat (48 + n)] := by
  show (if n < 10 then _ else _) = _
  rw [if_pos h]
  rfl
def emp : Value → Nat
  | .string s => if s.size = 0 then 1 else 0
  | _ => 0
/-- a byte that is made a string of its own -/
theorem conv_b (W : World) (c : UInt8) (x : Int) (hx : x = c.toNat) : (convert 36 9 (.slice (some ⟨W.heap.size, 0, none⟩) 1 1)).run Tryz.prog (W.alloc (.cells #[.int .u8 x] 5)) = .ok (.string ⟨#[c]⟩) (W.alloc (.cells #[.int .u8 x] 5)) := by
  subst hx
  exact P3.conv1 c _ _ (blk_new rfl)
/-- what is still to be told, and what is told -/
structure DgI (N : Nat) (w : World) (x s : Value) (wr : World) : Prop where
  out : ∃ (n : Nat) (b : ByteArray), x = .int .i64 n ∧ s = .string b ∧ n ≤ N ∧ Below w.heap.size w wr ∧ ((b = ⟨#[]⟩ ∧ n = N) ∨ (0 < b.size ∧ (if n = 0 then [] else digF n) ++ b.data.toList = digF N))
theorem dg_next {N n : Nat} {b D : ByteArray} (h0 : 0 < n) (hN : N ≤ 100000000) (hn : n ≤ N) (hD : D = ⟨#[UInt8.ofNat (48 + n % 10)]⟩) (h : (b = ⟨#[]⟩ ∧ n = N) ∨ (0 < b.size ∧ (if n = 0 then [] else digF n) ++ b.data.toList = digF N)) :
    (if n / 10 = 0 then [] else digF ((n / 10 : Nat) : Int)) ++ (D ++ b).data.toList = digF N := by
  have e : (if n / 10 = 0 then [] else digF ((n / 10 : Nat) : Int)) ++ D.data.toList = digF n := by
    subst hD
    split
    · rw [dig_one n (by omega), show n % 10 = n by omega]; rfl
    · rw [dig_step n (by omega) (by omega)]
  rw [ByteArray.data_append, Array.toList_append, ← List.append_assoc, e]
  rcases h with ⟨rfl, rfl⟩ | ⟨_, h⟩
  · simp
  · rw [if_neg (by omega)] at h; exact h
theorem digN_len : ∀ (k n : Nat), (digN k n).length ≤ k
  | 0, n => Nat.le_refl _
  | k + 1, n => by
    unfold digN
    split
    · simp
    · rw [List.length_append]
      have := digN_len k (n / 10)
      show _ + 1 ≤ _
      omega
theorem dg_size {N n : Nat} {b : ByteArray} (h : (b = ⟨#[]⟩ ∧ n = N) ∨ (0 < b.size ∧ (if n = 0 then [] else digF n) ++ b.data.toList = digF N)) : b.size ≤ 20 := by
  rcases h with ⟨rfl, _⟩ | ⟨_, h⟩
  · decide
  · have h1 := congrArg List.length h
    have h2 := digN_len 20 N
    have h3 : b.size = b.data.toList.length := by simp
    have h4 : (digF (N : Int)).length ≤ 20 := h2
    rw [List.length_append] at h1
    omega
theorem emp0 {b : ByteArray} (h : 0 < b.size) : b.toList.isEmpty = false := by
  rw [ByteArray.toList_eq]
  cases hb : b.data.toList with
  | nil => have : b.data.toList.length = 0 := by rw [hb]; rfl
           have : b.size = b.data.toList.length := by simp
           omega
  | cons x l => rfl
theorem emp_pos {b : ByteArray} (h : 0 < b.size) : emp (.string b) = 0 := if_neg (by omega)
theorem size_app (a b : ByteArray) : (a ++ b).size = a.size + b.size := ByteArray.size_append
set_option maxHeartbeats 4000000 in
theorem digits_any (N : Nat) (w : World) (hN : N ≤ 100000000) : Calls Tryz.prog 27 #[.int .i64 N] w fun e w' => e = .returned (.string ⟨(digF N).toArray⟩) ∧ Below w.heap.size w w' := by
  go_enter Tryz.func27, Tryz.ntmps27
  go_wp2_with fail
  go_loopw [0, 3] (fun x s wr => DgI N w x s wr) (fun x s _ => (intOf x).toNat + emp s)
  case atStart => exact ⟨⟨N, ⟨#[]⟩, rfl, rfl, Nat.le_refl _, Below.refl _ _, .inl ⟨rfl, rfl⟩⟩⟩
  case round =>
    obtain ⟨⟨n, b, rfl, rfl, hn, hw, hd⟩⟩ := hrel
    have hgo : 0 < n ∨ (n = 0 ∧ b = ⟨#[]⟩) ∨ (n = 0 ∧ 0 < b.size) := by
      rcases hd with ⟨h1, h2⟩ | ⟨h1, h2⟩
      · by_cases h0 : 0 < n
        · exact .inl h0
        · exact .inr (.inl ⟨by omega, h1⟩)
      · omega
    have HCV : (convert 36 9 (.slice (some ⟨wr.heap.size, 0, none⟩) 1 1)).run Tryz.prog (wr.alloc (.cells #[.int .u8 (48 + (n : Int) % 10)] 5)) = .ok (.string ⟨#[UInt8.ofNat (48 + n % 10)]⟩) (wr.alloc (.cells #[.int .u8 (48 + (n : Int) % 10)] 5)) := conv_b wr _ _ (by rw [UInt8.toNat_ofNat']; omega)
    obtain ⟨D, hD⟩ : ∃ D : ByteArray, D = ⟨#[UInt8.ofNat (48 + n % 10)]⟩ := ⟨_, rfl⟩
    have hDs : D.size = 1 := by rw [hD]; rfl
    rw [← hD] at HCV
    have hb : b.size ≤ 20 := dg_size hd
    have HD := Lib.hid hD
    have HI := Lib.hid hd
    clear hd hD
    rcases hgo with h0 | ⟨rfl, rfl⟩ | ⟨rfl, h0⟩
    · have hL := hw.size
      go_wp2_with fail
      go_roundw
      case rel => exact ⟨⟨n / 10, D ++ b, by go_num, rfl, by omega, hw.alloc hL _, .inr ⟨by rw [size_app]; omega, dg_next h0 hN hn HD.out HI.out⟩⟩⟩
      case measure =>
        have e1 := emp_pos (b := D ++ b) (by rw [size_app]; omega)
        simp only [intOf, e1]
        omega
    · have hL := hw.size
      have e0 : N = 0 := HI.out.elim (fun h => h.2.symm) (fun h => absurd h.1 (by decide))
      have HCV0 : (convert 36 9 (.slice (some ⟨wr.heap.size, 0, none⟩) 1 1)).run Tryz.prog (wr.alloc (.cells #[.int .u8 48] 5)) = .ok (.string D) (wr.alloc (.cells #[.int .u8 48] 5)) := HCV
      clear HCV
      go_wp2_with fail
      go_roundw
      case rel => 
        refine ⟨⟨0, D ++ ⟨#[]⟩, by go_num, rfl, by omega, hw.alloc hL _, .inr ⟨by rw [size_app]; omega, ?_⟩⟩⟩
        subst e0
        rw [HD.out]
        rfl
      case measure =>
        have e1 := emp_pos (b := D ++ ⟨#[]⟩) (by rw [size_app]; omega)
        have e2 : emp (.string ⟨#[]⟩) = 1 := rfl
        simp only [intOf, e1, e2]
        omega
    · have hne := emp0 h0
      go_wp2_with fail
      go_ret
      refine ⟨?_, hw⟩
      have h1 := HI.out
      rcases h1 with ⟨h1, _⟩ | ⟨_, h1⟩
      · subst h1; exact absurd h0 (by decide)
      · simp only [if_true, List.nil_append] at h1
        rw [← h1]
        rfl
end Go.Proofs.YtnjgnbdebkckfaaGreatDoor.Y0
namespace Go.Proofs.YtnjgnbdebkckfaaGreatDoor.Y2
open Go.RowKit M0 ME MP Y0
/-- nothing is half read -/
structure Gd (p : Pg) : Prop where
  s : p.state = 0
  h : p.half = []
theorem gd0 : Gd Pg.zero := ⟨rfl, rfl⟩
/-- within an escape, within a sequence -/
def E1 : Pg := ⟨1, [], [], false, true, 0, [], false, []⟩
def C2 (m : Int) (l : List Int) (f : Bool) : Pg := ⟨2, [], [], false, f, m, l, false, []⟩
def G0 : Pg := ⟨0, [], [], false, true, 0, [], false, []⟩
theorem gdG : Gd G0 := ⟨rfl, rfl⟩
theorem st_esc {p : Pg} (h : Gd p) : stepP p 27 = ([], E1) := by
  obtain ⟨s, ha, i, w, f, m, n, u, t⟩ := p
  obtain ⟨rfl, rfl⟩ : s = 0 ∧ ha = [] := ⟨h.s, h.h⟩
  rfl
theorem st_csi : stepP E1 91 = ([], C2 0 [] true) := rfl
theorem st_mark : stepP (C2 0 [] true) 63 = ([], C2 63 [] false) := rfl
theorem toNat_dig {d : Nat} (h : d < 10) : (UInt8.ofNat (48 + d)).toNat = 48 + d := by rw [UInt8.toNat_ofNat']; omega
theorem st_dig (m : Int) (l : List Int) (k : Int) (f : Bool) (d : Nat) (hd : d < 10) : stepP (C2 m (l ++ [k]) f) (UInt8.ofNat (48 + d)) = ([], C2 m (l ++ [min (max k 0 * 10 + d) 9999]) false) := by
  have e : ∀ d : Fin 10, classF (UInt8.ofNat (48 + d.1)) = 2 ∧ (UInt8.ofNat (48 + d.1) = 24 ∨ UInt8.ofNat (48 + d.1) = 26) = False ∧ (UInt8.ofNat (48 + d.1) = 27) = False ∧ (UInt8.ofNat (48 + d.1) = 58) = False ∧ (59 < UInt8.ofNat (48 + d.1)) = False ∧ (UInt8.ofNat (48 + d.1) = 59) = False := by decide
  obtain ⟨e1, e2, e3, e4, e5, e6⟩ := e ⟨d, hd⟩
  simp only at e1 e2 e3 e4 e5 e6
  have hn := toNat_dig hd
  have ha : aheadP (C2 m (l ++ [k]) f) (UInt8.ofNat (48 + d)) = ([], C2 m (l ++ [k]) f) := if_neg (fun h => Nat.noConfusion h.1)
  have hw : whatF (C2 m (l ++ [k]) f) (UInt8.ofNat (48 + d)) = 5 := by unfold whatF; rw [e1]; rfl
  have hb : bodyP (C2 m (l ++ [k]) f) (UInt8.ofNat (48 + d)) = ([], C2 m (l ++ [min (max k 0 * 10 + d) 9999]) false) := by
    unfold bodyP
    rw [if_neg (by rw [e2]; exact id), if_neg (by rw [e3]; exact id), hw, if_neg (by decide)]
    show ([], paramP (C2 m (l ++ [k]) f) (UInt8.ofNat (48 + d))) = _
    unfold paramP
    rw [if_neg (by rw [e4, e5]; simp [C2]), if_neg (by rw [e5]; exact id), if_neg (by rw [e6]; exact id)]
    have hnum : numberP { C2 m (l ++ [k]) f with first := false } = C2 m (l ++ [k]) false := by
      unfold numberP
      rw [if_neg (by simp [C2])]
      rfl
    unfold digitP
    rw [hnum, if_neg (by simp [C2])]
    have h1 : (C2 m (l ++ [k]) false).nums.getD ((C2 m (l ++ [k]) false).nums.length - 1) 0 = k := by simp [C2, List.getD_eq_getElem?_getD]
    rw [h1, hn]
    have h2 : (C2 m (l ++ [k]) false).nums.set ((C2 m (l ++ [k]) false).nums.length - 1) (min (max k 0 * 10 + (((48 + d : Nat) : Int) - 48)) 9999) = l ++ [min (max k 0 * 10 + d) 9999] := by
      have : ((48 + d : Nat) : Int) - 48 = d := by omega
      rw [this]
      simp [C2]
    rw [h2]
    rfl
  unfold stepP
  rw [ha]
  simp only
  rw [hb]
  rfl
theorem st_dig0 (m : Int) (f : Bool) (d : Nat) (hd : d < 10) : stepP (C2 m [] f) (UInt8.ofNat (48 + d)) = ([], C2 m [(d : Int)] false) := by
  have e : ∀ d : Fin 10, classF (UInt8.ofNat (48 + d.1)) = 2 ∧ (UInt8.ofNat (48 + d.1) = 24 ∨ UInt8.ofNat (48 + d.1) = 26) = False ∧ (UInt8.ofNat (48 + d.1) = 27) = False ∧ (UInt8.ofNat (48 + d.1) = 58) = False ∧ (59 < UInt8.ofNat (48 + d.1)) = False ∧ (UInt8.ofNat (48 + d.1) = 59) = False := by decide
  obtain ⟨e1, e2, e3, e4, e5, e6⟩ := e ⟨d, hd⟩
  simp only at e1 e2 e3 e4 e5 e6
  have hn := toNat_dig hd
  have ha : aheadP (C2 m [] f) (UInt8.ofNat (48 + d)) = ([], C2 m [] f) := if_neg (fun h => Nat.noConfusion h.1)
  have hw : whatF (C2 m [] f) (UInt8.ofNat (48 + d)) = 5 := by unfold whatF; rw [e1]; rfl
  have hb : bodyP (C2 m [] f) (UInt8.ofNat (48 + d)) = ([], C2 m [(d : Int)] false) := by
    unfold bodyP
    rw [if_neg (by rw [e2]; exact id), if_neg (by rw [e3]; exact id), hw, if_neg (by decide)]
    show ([], paramP (C2 m [] f) (UInt8.ofNat (48 + d))) = _
    unfold paramP
    rw [if_neg (by rw [e4, e5]; simp [C2]), if_neg (by rw [e5]; exact id), if_neg (by rw [e6]; exact id)]
    have h2 : min (max (-1) 0 * 10 + (((UInt8.ofNat (48 + d)).toNat : Int) - 48)) 9999 = (d : Int) := by rw [hn]; omega
    show ([], C2 m [min (max (-1) 0 * 10 + (((UInt8.ofNat (48 + d)).toNat : Int) - 48)) 9999] false) = _
    rw [h2]
  unfold stepP
  rw [ha]
  simp only
  rw [hb]
  rfl
theorem st_semi (m : Int) (l : List Int) (k : Int) (f : Bool) (hl : l.length < 7) : stepP (C2 m (l ++ [k]) f) 59 = ([], C2 m (l ++ [k, -1]) false) := by
  have ha : aheadP (C2 m (l ++ [k]) f) 59 = ([], C2 m (l ++ [k]) f) := if_neg (fun h => Nat.noConfusion h.1)
  have hb : bodyP (C2 m (l ++ [k]) f) 59 = ([], C2 m (l ++ [k, -1]) false) := by
    show ([], moreP (numberP { C2 m (l ++ [k]) f with first := false })) = _
    unfold numberP
    rw [if_neg (by simp [C2])]
    unfold moreP
    rw [if_neg (by simp [C2]; omega)]
    simp [C2]
  unfold stepP
  rw [ha]
  simp only
  rw [hb]
  rfl
theorem st_end (m : Int) (l : List Int) (f : Bool) (b : UInt8) (h1 : 64 ≤ b.toNat) (h2 : b.toNat ≤ 126) : stepP (C2 m l f) b = ([⟨4, 0, b.toNat, m, l, [], []⟩], G0) := by
  have e : ∀ b : Fin 127, 64 ≤ b.1 → classF (UInt8.ofNat b.1) = 3 ∧ (UInt8.ofNat b.1 = 24 ∨ UInt8.ofNat b.1 = 26) = False ∧ (UInt8.ofNat b.1 = 27) = False := by decide
  obtain ⟨e1, e2, e3⟩ := e ⟨b.toNat, by omega⟩ h1
  simp only [UInt8.ofNat_toNat] at e1 e2 e3
  have ha : aheadP (C2 m l f) b = ([], C2 m l f) := if_neg (fun h => Nat.noConfusion h.1)
  have hw : whatF (C2 m l f) b = 6 := by unfold whatF; rw [e1]; rfl
  have hb : bodyP (C2 m l f) b = ([⟨4, 0, b.toNat, m, l, [], []⟩], G0) := by
    unfold bodyP
    rw [if_neg (by rw [e2]; exact id), if_neg (by rw [e3]; exact id), hw, if_neg (by decide)]
    rfl
  unfold stepP
  rw [ha]
  simp only
  rw [hb]
  rfl
/- a number's digits -/
theorem digN_dig : ∀ (k n : Nat), n < 10 ^ (k + 1) → n ≤ 9999 → ∀ (m : Int) (l : List Int) (x : Int) (f : Bool), x ≤ 0 → feedP (C2 m (l ++ [x]) f) (digN (k + 1) n) = ([], C2 m (l ++ [(n : Int)]) false)
  | 0, n, h, h2, m, l, x, f, hx => by
    unfold digN
    rw [if_pos (by simpa using h)]
    show ((stepP _ _).1 ++ [], (stepP _ _).2) = _
    rw [st_dig m l x f n (by simpa using h)]
    have : min (max x 0 * 10 + (n : Int)) 9999 = n := by omega
    rw [this]
    rfl
  | k + 1, n, h, h2, m, l, x, f, hx => by
    unfold digN
    split
    · show ((stepP _ _).1 ++ [], (stepP _ _).2) = _
      rw [st_dig m l x f n (by omega)]
      have : min (max x 0 * 10 + (n : Int)) 9999 = n := by omega
      rw [this]
      rfl
    · rw [feed_app, digN_dig k (n / 10) (by rw [Nat.div_lt_iff_lt_mul (by decide)]; rw [Nat.pow_succ] at h; omega) (by omega) m l x f hx]
      show ([] ++ ((stepP _ _).1 ++ []), (stepP _ _).2) = _
      rw [st_dig m l _ false (n % 10) (by omega)]
      have : min (max ((n / 10 : Nat) : Int) 0 * 10 + ((n % 10 : Nat) : Int)) 9999 = n := by omega
      rw [this]
      rfl
theorem digN_dig0 : ∀ (k n : Nat), n < 10 ^ (k + 1) → n ≤ 9999 → ∀ (m : Int) (f : Bool), feedP (C2 m [] f) (digN (k + 1) n) = ([], C2 m [(n : Int)] false)
  | 0, n, h, h2, m, f => by
    unfold digN
    rw [if_pos (by simpa using h)]
    show ((stepP _ _).1 ++ [], (stepP _ _).2) = _
    rw [st_dig0 m f n (by simpa using h)]
    rfl
  | k + 1, n, h, h2, m, f => by
    unfold digN
    split
    · show ((stepP _ _).1 ++ [], (stepP _ _).2) = _
      rw [st_dig0 m f n (by omega)]
      rfl
    · rw [feed_app, digN_dig0 k (n / 10) (by rw [Nat.div_lt_iff_lt_mul (by decide)]; rw [Nat.pow_succ] at h; omega) (by omega) m f]
      show ([] ++ ((stepP _ _).1 ++ []), (stepP _ _).2) = _
      rw [show ([((n / 10 : Nat) : Int)] : List Int) = [] ++ [((n / 10 : Nat) : Int)] from rfl, st_dig m [] _ false (n % 10) (by omega)]
      have : min (max ((n / 10 : Nat) : Int) 0 * 10 + ((n % 10 : Nat) : Int)) 9999 = n := by omega
      rw [this]
      rfl
theorem fd_dig (m : Int) (l : List Int) (n : Nat) (h : n ≤ 9999) (f : Bool) : feedP (C2 m (l ++ [-1]) f) (digF n) = ([], C2 m (l ++ [(n : Int)]) false) :=
  digN_dig 19 n (by omega) h m l (-1) f (by decide)
theorem fd_dig0 (m : Int) (n : Nat) (h : n ≤ 9999) (f : Bool) : feedP (C2 m [] f) (digF n) = ([], C2 m [(n : Int)] false) := digN_dig0 19 n (by omega) h m f
/- whole sequences -/
theorem fd_cons (p : Pg) (b : UInt8) (l : List UInt8) {A : List Ac} {q : Pg} {r : List Ac × Pg} (h : stepP p b = (A, q)) (h2 : feedP q l = r) : feedP p (b :: l) = (A ++ r.1, r.2) := by
  show ((stepP p b).1 ++ (feedP (stepP p b).2 l).1, (feedP (stepP p b).2 l).2) = _
  rw [h, h2]
theorem fd_app (p : Pg) (a b : List UInt8) {A B : List Ac} {q r : Pg} (h : feedP p a = (A, q)) (h2 : feedP q b = (B, r)) : feedP p (a ++ b) = (A ++ B, r) := by rw [feed_app, h, h2]
theorem fd_one (p : Pg) (b : UInt8) {A : List Ac} {q : Pg} (h : stepP p b = (A, q)) : feedP p [b] = (A, q) := by rw [fd_cons p b [] h rfl]; exact Prod.ext (List.append_nil A) rfl
/-- ESC [ n b -/
theorem csi1 {p : Pg} (g : Gd p) (n : Nat) (hn : n ≤ 9999) (b : UInt8) (h1 : 64 ≤ b.toNat) (h2 : b.toNat ≤ 126) : feedP p ([27, 91] ++ (digF n ++ [b])) = ([⟨4, 0, b.toNat, 0, [(n : Int)], [], []⟩], G0) :=
  fd_app p _ _ (fd_app p [27] [91] (fd_one _ _ (st_esc g)) (fd_one _ _ st_csi)) (fd_app _ _ _ (fd_dig0 0 n hn true) (fd_one _ _ (st_end _ _ _ _ h1 h2)))
/-- ESC [ n ; k b -/
theorem csi2 {p : Pg} (g : Gd p) (n k : Nat) (hn : n ≤ 9999) (hk : k ≤ 9999) (b : UInt8) (h1 : 64 ≤ b.toNat) (h2 : b.toNat ≤ 126) : feedP p ([27, 91] ++ (digF n ++ ([59] ++ (digF k ++ [b])))) = ([⟨4, 0, b.toNat, 0, [(n : Int), (k : Int)], [], []⟩], G0) :=
  fd_app p _ _ (fd_app p [27] [91] (fd_one _ _ (st_esc g)) (fd_one _ _ st_csi)) (fd_app _ _ _ (fd_dig0 0 n hn true) (fd_app _ _ _ (fd_one _ _ (st_semi 0 [] n false (by decide))) (fd_app _ _ _ (fd_dig 0 [(n : Int)] k hk false) (fd_one _ _ (st_end _ _ _ _ h1 h2)))))
end Go.Proofs.YtnjgnbdebkckfaaGreatDoor.Y2
