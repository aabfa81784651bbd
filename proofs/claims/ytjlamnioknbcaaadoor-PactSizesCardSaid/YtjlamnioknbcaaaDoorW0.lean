/- what is sent, in plain words -/
import Derived.Lib.Replace
import Derived.Lib.SplitLaws
import Derived.Lib.ReplaceLaws
import Derived.Lib.Join
namespace Go.Proofs.YtjlamnioknbcaaaDoor.W0
set_option linter.unusedVariables false
set_option linter.unusedSimpArgs false
open Go.Lib
def dbl (l : List UInt8) : List UInt8 := l.flatMap fun c => if c = 255 then [255, 255] else [c]
theorem dbl_app (a b : List UInt8) : dbl (a ++ b) = dbl a ++ dbl b := List.flatMap_append
theorem index_self (c : UInt8) (l : List UInt8) : index (c :: l) [c] = 0 := by unfold index; rw [if_pos (by simp)]
theorem replaceK_ne {b c : UInt8} (h : b ≠ c) (new l : List UInt8) (k : Nat) : replaceK [c] new k (b :: l) = b :: replaceK [c] new k l := by
  cases k with
  | zero => rfl
  | succ k =>
    have hp : [c].isPrefixOf (b :: l) = false := by simp [List.isPrefixOf]; exact fun e => h e.symm
    have hi : index (b :: l) [c] = if index l [c] == -1 then -1 else index l [c] + 1 := by
      conv => lhs; unfold index
      rw [hp]; simp
    by_cases hm : index l [c] = -1
    · have h1 : index (b :: l) [c] = -1 := by rw [hi, hm]; rfl
      simp [replaceK, h1, hm]
    · have hge := index_ge l [c]
      obtain ⟨i, hi2⟩ : ∃ i : Nat, index l [c] = i := ⟨(index l [c]).toNat, by omega⟩
      have h1 : index (b :: l) [c] = ((i + 1 : Nat) : Int) := by
        rw [hi, if_neg (by simpa using hm), hi2]; simp
      rw [replaceK_hit _ _ _ _ _ h1, replaceK_hit _ _ _ _ _ hi2]
      simp only [List.take_succ_cons, List.cons_append, List.length_singleton]
      congr 3
theorem replaceK_all (c : UInt8) (new : List UInt8) : ∀ l : List UInt8, replaceK [c] new (count l [c]) l = l.flatMap fun x => if x = c then new else [x]
  | [] => by
    have : ∀ k, replaceK [c] new k [] = [] := by
      intro k
      cases k with
      | zero => rfl
      | succ k => simp [replaceK, index]
    simp [this]
  | b :: l => by
    by_cases h : b = c
    · subst h
      rw [count_cons_eq, Nat.add_comm, replaceK_hit _ _ _ _ 0 (index_self b l)]
      simp [replaceK_all b new l]
    · rw [count_cons_ne b c l h, replaceK_ne h, replaceK_all c new l]
      simp [h]
theorem replaceAll_dbl (l : List UInt8) : replaceAll l [255] [255, 255] = dbl l := by
  unfold replaceAll replace replaceNum
  rw [if_neg (by decide), if_pos (by left; decide)]
  exact replaceK_all 255 [255, 255] l
theorem flat_join (L : List (List UInt8)) : join L [] = L.flatten := by
  unfold join List.intercalate
  induction L with
  | nil => rfl
  | cons a L ih =>
    cases L with
    | nil => simp
    | cons b L => simp only [List.intersperse, List.flatten_cons, List.nil_append] at *; rw [ih]
theorem dbl_len (l : List UInt8) : (dbl l).length ≤ 2 * l.length := by
  induction l with
  | nil => simp [dbl]
  | cons a l ih => unfold dbl at *; rw [List.flatMap_cons, List.length_append, List.length_cons]; split <;> (simp only [List.length_cons, List.length_nil]; omega)
/-- what stands for the byte at i, 255 not yet twice -/
def item (s : List UInt8) (i : Nat) : List UInt8 := match s[i]? with
  | none => []
  | some c => if c = 13 ∧ s[i + 1]? ≠ some 10 then [c, 0] else [c]
def crP (s : List UInt8) (k : Nat) : List UInt8 := (List.range k).flatMap (item s)
theorem crP_succ (s : List UInt8) (k : Nat) : crP s (k + 1) = crP s k ++ item s k := by unfold crP; rw [List.range_succ, List.flatMap_append]; simp
theorem item_len (s : List UInt8) (k : Nat) : (item s k).length ≤ 2 := by unfold item; split; simp; split <;> simp
theorem crP_len (s : List UInt8) : ∀ k, (crP s k).length ≤ 2 * k
  | 0 => by simp [crP]
  | k + 1 => by rw [crP_succ, List.length_append]; have := crP_len s k; have := item_len s k; omega
def datF (bin : Bool) (s : List UInt8) : List UInt8 := if bin then dbl s else dbl (crP s s.length)
theorem cr_split (c : UInt8) : (if c = 13 then true else false) = decide (c.toNat = 13) := by
  by_cases h : c = 13
  · subst h; rfl
  · have : c.toNat ≠ 13 := fun e => h (UInt8.toNat_inj.1 e)
    simp [h, this]
theorem eq_iff (c d : UInt8) : c = d ↔ c.toNat = d.toNat := ⟨fun h => by rw [h], fun h => UInt8.toNat_inj.1 h⟩
end Go.Proofs.YtjlamnioknbcaaaDoor.W0
