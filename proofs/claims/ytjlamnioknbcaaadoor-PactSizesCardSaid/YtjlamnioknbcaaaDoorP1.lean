/- a pact as it lies in memory -/
import Derived.Test.YtjlamnioknbcaaaDoorK25
import Derived.Test.YtjlamnioknbcaaaDoorY3
import Derived.Test.YtjlamnioknbcaaaDoorY4
namespace Go.Proofs.YtjlamnioknbcaaaDoor.P1
set_option linter.unusedVariables false
set_option linter.unusedSimpArgs false
set_option linter.unnecessarySimpa false
set_option maxRecDepth 100000
open Go.RowKit K1 K3 K5 K14 K20 Y3 Y4

abbrev Sd := Int × Bool
structure Pa where
  name : ByteArray
  w : Int
  h : Int
  us : Nat → Sd
  him : Nat → Sd
  dn : Bool
  who : Int
  sent : Int
  told : Bool
  lw : Int
  lh : Int
def sdc (f : Nat → Sd) (j : Nat) : Value := if j % 2 = 0 then .int .i64 (f (j / 2)).1 else .bool (f (j / 2)).2
def tailc (p : Pa) : List Value := [.int .u32 (if p.dn then 1 else 0), .int .i32 0, .int .u32 0, .int .i64 (if p.dn then 1 else 0), .int .i64 p.who, .int .i64 p.sent, .bool p.told, .int .i64 p.lw, .int .i64 p.lh]
def pcells (p : Pa) : List Value := [.string p.name, .int .i64 p.w, .int .i64 p.h] ++ (List.range 512).map (sdc p.us) ++ (List.range 512).map (sdc p.him) ++ tailc p
theorem pc_head (p : Pa) (j : Nat) (h : j < 3) : (pcells p)[j]? = [Value.string p.name, .int .i64 p.w, .int .i64 p.h][j]? := by
  unfold pcells
  rw [List.append_assoc, List.append_assoc, List.getElem?_append_left (by simpa using h)]
theorem pc_us (p : Pa) (j : Nat) (h : j < 512) : (pcells p)[3 + j]? = some (sdc p.us j) := by
  unfold pcells
  rw [List.append_assoc, List.append_assoc, List.getElem?_append_right (by simp), List.getElem?_append_left (by simp; omega)]
  simp [List.getElem?_range, h]
theorem pc_him (p : Pa) (j : Nat) (h : j < 512) : (pcells p)[515 + j]? = some (sdc p.him j) := by
  unfold pcells
  rw [List.append_assoc, List.append_assoc, List.getElem?_append_right (by simp; omega), List.getElem?_append_right (by simp; omega), List.getElem?_append_left (by simp; omega)]
  have : 515 + j - [Value.string p.name, .int .i64 p.w, .int .i64 p.h].length - (List.map (sdc p.us) (List.range 512)).length = j := by simp; omega
  rw [this]
  simp [List.getElem?_range, h]
theorem pc_tail (p : Pa) (j : Nat) : (pcells p)[1027 + j]? = (tailc p)[j]? := by
  unfold pcells
  rw [List.append_assoc, List.append_assoc, List.getElem?_append_right (by simp; omega), List.getElem?_append_right (by simp; omega), List.getElem?_append_right (by simp; omega)]
  congr 1
  simp; omega
theorem pc_len (p : Pa) : (pcells p).length = 1036 := by simp [pcells, tailc]
/-- what lies where -/
structure Lies (p : Pa) (f : Nat → Option Value) : Prop where
  name : f 0 = some (.string p.name)
  w : f 1 = some (.int .i64 p.w)
  h : f 2 = some (.int .i64 p.h)
  dn : f 1027 = some (.int .u32 (if p.dn then 1 else 0))
  st : f 1028 = some (.int .i32 0)
  sema : f 1029 = some (.int .u32 0)
  is : f 1030 = some (.int .i64 (if p.dn then 1 else 0))
  who : f 1031 = some (.int .i64 p.who)
  sent : f 1032 = some (.int .i64 p.sent)
  told : f 1033 = some (.bool p.told)
  lw : f 1034 = some (.int .i64 p.lw)
  lh : f 1035 = some (.int .i64 p.lh)
theorem lies (p : Pa) : Lies p (fun i => (pcells p)[i]?) := ⟨pc_head p 0 (by omega), pc_head p 1 (by omega), pc_head p 2 (by omega), pc_tail p 0, pc_tail p 1, pc_tail p 2, pc_tail p 3, pc_tail p 4, pc_tail p 5, pc_tail p 6, pc_tail p 7, pc_tail p 8⟩
theorem us_s (p : Pa) (o : Nat) (h : o < 256) : (pcells p)[3 + o * 2]? = some (.int .i64 (p.us o).1) := by
  rw [pc_us p (o * 2) (by omega)]; simp [sdc]
theorem us_o (p : Pa) (o : Nat) (h : o < 256) : (pcells p)[3 + o * 2 + 1]? = some (.bool (p.us o).2) := by
  rw [show 3 + o * 2 + 1 = 3 + (o * 2 + 1) by omega, pc_us p (o * 2 + 1) (by omega)]
  have h1 : (o * 2 + 1) % 2 = 1 := by omega
  have h2 : (o * 2 + 1) / 2 = o := by omega
  simp [sdc, h1, h2]
theorem him_s (p : Pa) (o : Nat) (h : o < 256) : (pcells p)[515 + o * 2]? = some (.int .i64 (p.him o).1) := by
  rw [pc_him p (o * 2) (by omega)]; simp [sdc]
theorem him_o (p : Pa) (o : Nat) (h : o < 256) : (pcells p)[515 + o * 2 + 1]? = some (.bool (p.him o).2) := by
  rw [show 515 + o * 2 + 1 = 515 + (o * 2 + 1) by omega, pc_him p (o * 2 + 1) (by omega)]
  have h1 : (o * 2 + 1) % 2 = 1 := by omega
  have h2 : (o * 2 + 1) / 2 = o := by omega
  simp [sdc, h1, h2]
/-- two pacts that differ in what lies at one place -/
theorem pcells_ext {p q : Pa} {l : List Value} (hl : l.length = 1036) (h0 : ∀ j, j < 3 → l[j]? = [Value.string q.name, .int .i64 q.w, .int .i64 q.h][j]?) (h1 : ∀ j, j < 512 → l[3 + j]? = some (sdc q.us j)) (h2 : ∀ j, j < 512 → l[515 + j]? = some (sdc q.him j)) (h3 : ∀ j, j < 9 → l[1027 + j]? = (tailc q)[j]?) : pcells q = l := by
  apply List.ext_getElem?
  intro i
  by_cases a : i < 3
  · rw [pc_head q i a, h0 i a]
  · by_cases b : i < 515
    · obtain ⟨j, rfl⟩ : ∃ j, i = 3 + j := ⟨i - 3, by omega⟩
      rw [pc_us q j (by omega), h1 j (by omega)]
    · by_cases c : i < 1027
      · obtain ⟨j, rfl⟩ : ∃ j, i = 515 + j := ⟨i - 515, by omega⟩
        rw [pc_him q j (by omega), h2 j (by omega)]
      · by_cases d : i < 1036
        · obtain ⟨j, rfl⟩ : ∃ j, i = 1027 + j := ⟨i - 1027, by omega⟩
          rw [pc_tail q j, h3 j (by omega)]
        · rw [List.getElem?_eq_none (by rw [pc_len]; omega), List.getElem?_eq_none (by omega)]
def upS (f : Nat → Sd) (o : Nat) (s : Sd) : Nat → Sd := fun k => if k = o then s else f k
theorem sdc_up (f : Nat → Sd) (o : Nat) (s : Sd) (j : Nat) : sdc (upS f o s) j = if j = o * 2 then .int .i64 s.1 else if j = o * 2 + 1 then .bool s.2 else sdc f j := by
  unfold sdc upS
  by_cases a : j = o * 2
  · subst a
    simp
  · by_cases b : j = o * 2 + 1
    · subst b
      have h1 : (o * 2 + 1) % 2 = 1 := by omega
      have h2 : (o * 2 + 1) / 2 = o := by omega
      simp [h1, h2]
    · rw [if_neg a, if_neg b, if_neg (show ¬ j / 2 = o by omega)]
theorem set_us (p : Pa) (o : Nat) (s : Sd) (h : o < 256) : pcells { p with us := upS p.us o s } = ((pcells p).set (3 + o * 2) (.int .i64 s.1)).set (3 + o * 2 + 1) (.bool s.2) := by
  refine pcells_ext (p := p) (by simp [pc_len]) (fun j hj => ?_) (fun j hj => ?_) (fun j hj => ?_) (fun j hj => ?_)
  · rw [List.getElem?_set_ne (by omega), List.getElem?_set_ne (by omega), pc_head p j hj]
  · show _ = some (sdc (upS p.us o s) j)
    rw [sdc_up]
    by_cases a : j = o * 2
    · subst a
      rw [if_pos rfl, List.getElem?_set_ne (by omega), List.getElem?_set_self (by rw [pc_len]; omega)]
    · by_cases b : j = o * 2 + 1
      · subst b
        rw [if_neg a, if_pos rfl, show 3 + (o * 2 + 1) = 3 + o * 2 + 1 by omega, List.getElem?_set_self (by simp [pc_len]; omega)]
      · rw [if_neg a, if_neg b, List.getElem?_set_ne (by omega), List.getElem?_set_ne (by omega), pc_us p j hj]
  · rw [List.getElem?_set_ne (by omega), List.getElem?_set_ne (by omega), pc_him p j hj]
  · rw [List.getElem?_set_ne (by omega), List.getElem?_set_ne (by omega), pc_tail p j]
    rfl
theorem set_him (p : Pa) (o : Nat) (s : Sd) (h : o < 256) : pcells { p with him := upS p.him o s } = ((pcells p).set (515 + o * 2) (.int .i64 s.1)).set (515 + o * 2 + 1) (.bool s.2) := by
  refine pcells_ext (p := p) (by simp [pc_len]) (fun j hj => ?_) (fun j hj => ?_) (fun j hj => ?_) (fun j hj => ?_)
  · rw [List.getElem?_set_ne (by omega), List.getElem?_set_ne (by omega), pc_head p j hj]
  · rw [List.getElem?_set_ne (by omega), List.getElem?_set_ne (by omega), pc_us p j hj]
  · show _ = some (sdc (upS p.him o s) j)
    rw [sdc_up]
    by_cases a : j = o * 2
    · subst a
      rw [if_pos rfl, List.getElem?_set_ne (by omega), List.getElem?_set_self (by rw [pc_len]; omega)]
    · by_cases b : j = o * 2 + 1
      · subst b
        rw [if_neg a, if_pos rfl, show 515 + (o * 2 + 1) = 515 + o * 2 + 1 by omega, List.getElem?_set_self (by simp [pc_len]; omega)]
      · rw [if_neg a, if_neg b, List.getElem?_set_ne (by omega), List.getElem?_set_ne (by omega), pc_him p j hj]
  · rw [List.getElem?_set_ne (by omega), List.getElem?_set_ne (by omega), pc_tail p j]
    rfl
theorem set_wh (p : Pa) (w h : Int) : pcells { p with w := w, h := h } = ((pcells p).set 1 (.int .i64 w)).set 2 (.int .i64 h) := by
  refine pcells_ext (p := p) (by simp [pc_len]) (fun j hj => ?_) (fun j hj => ?_) (fun j hj => ?_) (fun j hj => ?_)
  · have hj3 : j = 0 ∨ j = 1 ∨ j = 2 := by omega
    rcases hj3 with rfl | rfl | rfl
    · rw [List.getElem?_set_ne (by omega), List.getElem?_set_ne (by omega), pc_head p 0 hj]; rfl
    · rw [List.getElem?_set_ne (by omega), List.getElem?_set_self (by rw [pc_len]; omega)]; rfl
    · rw [List.getElem?_set_self (by rw [List.length_set, pc_len]; omega)]; rfl
  · rw [List.getElem?_set_ne (by omega), List.getElem?_set_ne (by omega), pc_us p j hj]
  · rw [List.getElem?_set_ne (by omega), List.getElem?_set_ne (by omega), pc_him p j hj]
  · rw [List.getElem?_set_ne (by omega), List.getElem?_set_ne (by omega), pc_tail p j]; rfl
theorem set_tail (p q : Pa) (k : Nat) (v : Value) (hk : k < 9) (h0 : q.name = p.name) (h1 : q.w = p.w) (h2 : q.h = p.h) (h3 : q.us = p.us) (h4 : q.him = p.him) (ht : tailc q = (tailc p).set k v) : pcells q = (pcells p).set (1027 + k) v := by
  refine pcells_ext (p := p) (by simp [pc_len]) (fun j hj => ?_) (fun j hj => ?_) (fun j hj => ?_) (fun j hj => ?_)
  · rw [List.getElem?_set_ne (by omega), pc_head p j hj, h0, h1, h2]
  · rw [List.getElem?_set_ne (by omega), pc_us p j hj, h3]
  · rw [List.getElem?_set_ne (by omega), pc_him p j hj, h4]
  · rw [ht]
    by_cases e : j = k
    · subst e
      rw [List.getElem?_set_self (by rw [pc_len]; omega), List.getElem?_set_self (by simpa [tailc] using hk)]
    · rw [List.getElem?_set_ne (by omega), pc_tail p j, List.getElem?_set_ne (by omega)]
theorem set_sent (p : Pa) (x : Int) : pcells { p with sent := x } = (pcells p).set 1032 (.int .i64 x) := set_tail p _ 5 _ (by omega) rfl rfl rfl rfl rfl rfl
theorem set_told (p : Pa) (x : Bool) : pcells { p with told := x } = (pcells p).set 1033 (.bool x) := set_tail p _ 6 _ (by omega) rfl rfl rfl rfl rfl rfl
theorem set_lw (p : Pa) (x : Int) : pcells { p with lw := x } = (pcells p).set 1034 (.int .i64 x) := set_tail p _ 7 _ (by omega) rfl rfl rfl rfl rfl rfl
theorem set_lh (p : Pa) (x : Int) : pcells { p with lh := x } = (pcells p).set 1035 (.int .i64 x) := set_tail p _ 8 _ (by omega) rfl rfl rfl rfl rfl rfl
end Go.Proofs.YtjlamnioknbcaaaDoor.P1
