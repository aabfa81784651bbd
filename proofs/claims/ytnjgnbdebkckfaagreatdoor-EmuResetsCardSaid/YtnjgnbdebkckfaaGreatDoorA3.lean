/- K31, M0, C1, G1, G2 -/
import Derived.Test.YtnjgnbdebkckfaaGreatDoorA2
import Derived.Laws.CopyOwn
import Derived.Laws.MakeOwn
import Derived.Test.YtnjgnbdebkckfaaGreatDoorProg
import Derived.Lib.Hide
set_option linter.unusedVariables false
set_option linter.unusedSimpArgs false
set_option linter.unnecessarySimpa false
namespace Go.Proofs.YtnjgnbdebkckfaaGreatDoor.K31
open Go.RowKit K1 K5 K12 K14 K20 K21 K30
section
variable {P : Program}
theorem run_copy_rowN (w : World) (dT sT ty elem : TypeId) (size : Nat) (g o dLen dCap : Nat) (a : Addr) (sLen sCap : Nat) (cur : Array Value) (t : TypeId) (cs : List Value)
    (hu : P.underlying dT = some (.slice elem)) (hs : (P.info? elem).map (·.size) = some size)
    (hg : w.heap[g]? = some (.cells cur t (0, 0))) (hn : cs.length = Nat.min sLen dLen * size)
    (hsrc : ∀ j v, cs[j]? = some v → w.cell? (a.add j) = some v) (hfit : o + cs.length ≤ cur.size) (h1 : ∀ v ∈ cs, v.oneCell' = true) :
    (Builtin.copy_ #[dT, sT] ty #[.slice (some ⟨g, o, none⟩) dLen dCap, .slice (some a) sLen sCap]).run P w =
      .ok (goInt (Nat.min sLen dLen)) (w.setRow g (cur.toList.take o ++ cs ++ cur.toList.drop (o + cs.length)).toArray) := by
  have hl := run_loadCells_list (P := P) w a cs hsrc
  have hst := run_storeCells_at P g o t cs 0 cur w hg (by simpa using hfit) h1
  cases hq : P.info? elem with
  | none => simp [hq] at hs
  | some i =>
    have hi : i.size = size := by simpa [hq] using hs
    simp [Builtin.copy_, run_underlying hu, Builtin.lenOf, Builtin.firstCells, sizeOf, typeInfo, hq, hi, ← hn, hl, hst]
theorem run_copy_noneN (w : World) (dT sT ty elem : TypeId) (size : Nat) (dp sp : Option Addr) (dLen dCap sLen sCap : Nat)
    (hu : P.underlying dT = some (.slice elem)) (hs : (P.info? elem).map (·.size) = some size) (hn : Nat.min sLen dLen = 0) :
    (Builtin.copy_ #[dT, sT] ty #[.slice dp dLen dCap, .slice sp sLen sCap]).run P w = .ok (goInt 0) w := by
  cases hq : P.info? elem with
  | none => simp [hq] at hs
  | some i =>
    cases sp with
    | none => cases dp <;> simp [Builtin.copy_, run_underlying hu, Builtin.lenOf, Builtin.firstCells, sizeOf, typeInfo, hq, hn, storeCells]
    | some a =>
      have hl := run_loadCells_list (P := P) w a [] (fun j v h => by simp at h)
      simp at hl
      cases dp <;> simp [Builtin.copy_, run_underlying hu, Builtin.lenOf, Builtin.firstCells, sizeOf, typeInfo, hq, hn, storeCells, hl]
theorem wpList_copyN {w : World} {ops : Array Oper} {rest : List Oper} {o : Oper} {a : Act} {Q : Exit → Act → World → Prop} (hgd : o.guard = none) (d s : Operand) (dT sT : TypeId)
    (ho : o.op = .call { callee := .builtin .copy, args := #[d, s], argTypes := #[dT, sT] }) (elem : TypeId) (hu : P.underlying dT = some (.slice elem)) (size : Nat) (hsz : (P.info? elem).map (·.size) = some size)
    (dp sp : Option Addr) (dLen dCap sLen sCap : Nat) (hd : a.eval d = .slice dp dLen dCap) (hs : a.eval s = .slice sp sLen sCap) (h0 : Nat.min sLen dLen = 0)
    (h : wpList P ops Q rest (a.put o.dst (goInt 0)) w) : wpList P ops Q (o :: rest) a w := by
  refine wpList_plain hgd fun K hK => ?_
  have hrun := run_copy_noneN (P := P) w dT sT o.type elem size dp sp dLen dCap sLen sCap hu hsz h0
  unfold Oper.wp
  simp [execOp, ho, resolve, invoke, builtin, hd, hs, hrun, Result.andThen]
  exact hK _ _ h
theorem _root_.Go.Proofs.YtnjgnbdebkckfaaGreatDoor.K20.Sep.setRows {w : World} {g n c s o : Nat} {xs cs : List Value} {t : TypeId} {F : List Res} (h : Sep w (.row (.slice (some ⟨g, 0, none⟩) n c) t s n xs :: F)) (hf : o + cs.length ≤ n * s) (cur : Array Value) (hg : w.heap[g]? = some (.cells cur t (0, 0))) :
    Sep (w.setRow g (cur.toList.take o ++ cs ++ cur.toList.drop (o + cs.length)).toArray) (.row (.slice (some ⟨g, 0, none⟩) n c) t s n (splice xs o cs) :: F) := by
  have h0 : w.ownsRow 0 t s (.slice (some ⟨g, 0, none⟩) n c) n xs := h.rowAt 0 rfl
  have hsz : (w.setRow g (cur.toList.take o ++ cs ++ cur.toList.drop (o + cs.length)).toArray).heap.size = w.heap.size := by simp [World.setRow]
  refine h.turn (S := fun k => k = g) ⟨rfl, rfl, rfl, Nat.le_of_eq hsz.symm, fun k _ hk => setRow_other w g k _ hk⟩ (fun k _ hk => by subst hk; rfl) ?_ (fun k hk => .inl hk)
  obtain ⟨h1, h2⟩ := h0
  refine ⟨by rw [length_splice _ _ _ (by omega)]; exact h1, ?_⟩
  rcases h2 with ⟨h2, _⟩ | ⟨g', c', cur', h2, _, h4, h5, h6, h7, h8⟩
  · cases h2
  · obtain ⟨rfl, rfl⟩ : g = g' ∧ c = c' := by simpa using h2
    obtain rfl : cur' = cur := by rw [hg] at h4; simpa using h4.symm
    have hns : n * s ≤ cur'.size := by rw [h7]; exact Nat.mul_le_mul_right _ h5
    refine .inr ⟨g, c, _, rfl, Nat.zero_le _, setRow_heap w g cur' _ t _ hg, h5, h6, ?_, ?_⟩
    · rw [List.size_toArray]
      simp only [List.length_append, List.length_take, List.length_drop, Array.length_toList]
      omega
    · unfold splice
      rw [← h8]
      apply List.ext_getElem?
      intro i
      simp only [List.getElem?_take, List.getElem?_append, List.getElem?_drop, List.length_append, List.length_take, List.append_assoc, Array.length_toList, List.toList_toArray]
      have e1 : min o cur'.size = o := by omega
      have e2 : min o (min (n * s) cur'.size) = o := by omega
      simp only [e1, e2]
      by_cases a1 : i < n * s
      · rw [if_pos a1]
        by_cases a2 : i < o
        · simp only [a2, if_true, a1]
        · by_cases a3 : i - o < cs.length
          · simp [a2, a3]
          · simp only [a2, a3, if_false]
            rw [if_pos (by omega)]
      · rw [if_neg a1, if_neg (by omega), if_neg (by omega), if_neg (by omega)]
theorem wpList_copyS {w : World} {ops : Array Oper} {rest : List Oper} {o : Oper} {a : Act} {Q : Exit → Act → World → Prop} (hgd : o.guard = none) (d s : Operand) (dT sT : TypeId)
    (ho : o.op = .call { callee := .builtin .copy, args := #[d, s], argTypes := #[dT, sT] }) (elem : TypeId) (hu : P.underlying dT = some (.slice elem)) (size : Nat) (hsz : (P.info? elem).map (·.size) = some size)
    (dp sp : Option Addr) (dLen dCap sLen sCap : Nat) (hd : a.eval d = .slice dp dLen dCap) (hs : a.eval s = .slice sp sLen sCap)
    (g off n c : Nat) (t : TypeId) (xs : List Value) (F : List Res) (hS : Sep w (.row (.slice (some ⟨g, 0, none⟩) n c) t size n xs :: F))
    (cs : List Value) (hn : cs.length = Nat.min sLen dLen * size)
    (hpos : 0 < Nat.min sLen dLen → dp = some ⟨g, off, none⟩ ∧ ∃ ad, sp = some ad ∧ ∀ j v, cs[j]? = some v → w.cell? (ad.add j) = some v)
    (hfit : off + cs.length ≤ n * size) (h1 : ∀ v ∈ cs, v.oneCell' = true)
    (h : ∀ w', Sep w' (.row (.slice (some ⟨g, 0, none⟩) n c) t size n (splice xs off cs) :: F) → w'.heap.size = w.heap.size → wpList P ops Q rest (a.put o.dst (goInt (Nat.min sLen dLen))) w') :
    wpList P ops Q (o :: rest) a w := by
  by_cases h0 : Nat.min sLen dLen = 0
  · refine wpList_plain hgd fun K hK => ?_
    have hrun := run_copy_noneN (P := P) w dT sT o.type elem size dp sp dLen dCap sLen sCap hu hsz h0
    obtain rfl : cs = [] := List.eq_nil_of_length_eq_zero (by rw [hn, h0, Nat.zero_mul])
    rw [h0] at h
    unfold Oper.wp
    simp [execOp, ho, resolve, invoke, builtin, hd, hs, hrun, Result.andThen]
    exact hK _ _ (h w (by simpa [splice] using hS) rfl)
  · obtain ⟨rfl, ad, rfl, hsrc⟩ := hpos (Nat.pos_of_ne_zero h0)
    obtain ⟨h2, h3⟩ := hS.rowAt 0 rfl
    rcases h3 with ⟨h3, _⟩ | ⟨g', c', cur, h3, _, hg, hnc, _, hcs, ht⟩
    · cases h3
    · obtain ⟨rfl, rfl⟩ : g = g' ∧ c = c' := by simpa using h3
      have hns : n * size ≤ cur.size := by rw [hcs]; exact Nat.mul_le_mul_right _ hnc
      refine wpList_plain hgd fun K hK => ?_
      have hrun := run_copy_rowN (P := P) w dT sT o.type elem size g off dLen dCap ad sLen sCap cur t cs hu hsz hg hn hsrc (by omega) h1
      unfold Oper.wp
      simp only [execOp, ho, resolve, invoke, builtin, Sem.run_bind, Sem.run_pure, Result.andThen_ok, List.map_toArray, List.map_cons, List.map_nil, hd, hs, hrun]
      exact hK _ _ (h _ (hS.setRows hfit cur hg) (by simp [World.setRow]))
end
end Go.Proofs.YtnjgnbdebkckfaaGreatDoor.K31
namespace Go.Proofs.YtnjgnbdebkckfaaGreatDoor.M0
open Go.RowKit
/- looks and cells -/
structure At where
  fg : Int
  bg : Int
  bold : Bool
  under : Bool
  inv : Bool
def At.zero : At := ⟨0, 0, false, false, false⟩
structure Ce where
  r : Int
  a : At
def blankC (a : At) : Ce := ⟨32, ⟨0, a.bg, false, false, false⟩⟩
def atV (a : At) : List Value := [.int .i64 a.fg, .int .i64 a.bg, .bool a.bold, .bool a.under, .bool a.inv]
def ceV (c : Ce) : List Value := [.int .i32 c.r, .int .i64 c.a.fg, .int .i64 c.a.bg, .bool c.a.bold, .bool c.a.under, .bool c.a.inv]
def colorF (n first : Int) : Int × Bool :=
  if first ≤ n ∧ n < first + 8 then (n - first + 1, true)
  else if first + 60 ≤ n ∧ n < first + 68 then (n - first - 60 + 1 + 8, true)
  else if n = first + 9 then (0, true) else (0, false)
def oneF (a : At) (n : Int) : At :=
  if (colorF n 30).2 = true then { a with fg := (colorF n 30).1 }
  else if (colorF n 40).2 = true then { a with bg := (colorF n 40).1 }
  else if n = -1 ∨ n = 0 then At.zero
  else if n = 1 then { a with bold := true } else if n = 22 then { a with bold := false }
  else if n = 4 then { a with under := true } else if n = 24 then { a with under := false }
  else if n = 7 then { a with inv := true } else if n = 27 then { a with inv := false } else a
def wideF (a : At) (l : List Int) : At × Nat :=
  if l.length < 2 then (a, 1) else if l.getD 1 0 = 2 then (a, 5) else if l.getD 1 0 ≠ 5 then (a, 1)
  else if 2 < l.length ∧ 0 ≤ l.getD 2 0 ∧ l.getD 2 0 < 16 then
    (if l.getD 0 0 = 38 then { a with fg := l.getD 2 0 + 1 } else { a with bg := l.getD 2 0 + 1 }, 3)
  else (a, 3)
def sgrG : Nat → At → List Int → At
  | 0, a, _ => a
  | _ + 1, a, [] => a
  | k + 1, a, n :: l => if n = 38 ∨ n = 48 then sgrG k (wideF a (n :: l)).1 ((n :: l).drop (wideF a (n :: l)).2) else sgrG k (oneF a n) l
def sgrF (a : At) (l : List Int) : At := if l = [] then At.zero else sgrG l.length a l
/- grids -/
def segm {α : Type} (l : List α) (o n : Nat) : List α := (l.drop o).take n
def lessL {α : Type} (l : List α) (n : Nat) (c : α) : List α := l.drop n ++ List.replicate n c
def moreL {α : Type} (l : List α) (n : Nat) (c : α) : List α := List.replicate n c ++ l.take (l.length - n)
structure Gr where
  w : Int
  h : Int
  c : List Ce
def endW (w : Int) : Int := min (max w 2) 40
def endH (h : Int) : Int := min (max h 1) 20
def newG (w h : Int) : Gr := ⟨endW w, endH h, List.replicate (endW w * endH h).toNat (blankC At.zero)⟩
/-- where a row's cells begin from a column on, and how many they are -/
def rowO (g : Gr) (x y : Int) : Nat × Nat := if x < 0 ∨ g.w ≤ x ∨ y < 0 ∨ g.h ≤ y then (0, 0) else ((y * g.w + x).toNat, (g.w - x).toNat)
def setG (g : Gr) (x y : Int) (l : List Ce) : Gr := { g with c := splice g.c (rowO g x y).1 (l.take (rowO g x y).2) }
def fillG (g : Gr) (a b : Int) (c : Ce) : Gr :=
  if max a 0 < min b g.c.length then { g with c := splice g.c (max a 0).toNat (List.replicate (min b g.c.length - max a 0).toNat c) } else g
/-- the cells of rows -/
def rowsO (g : Gr) (top bottom : Int) : Nat × Nat := if min bottom g.h ≤ max top 0 then (0, 0) else ((max top 0 * g.w).toNat, ((min bottom g.h - max top 0) * g.w).toNat)
def manyF (g : Gr) (len : Nat) (n : Int) : Nat := min ((min (max n 0) g.h) * (min g.w len)).toNat len
def upG (g : Gr) (top bottom n : Int) (c : Ce) : Gr :=
  { g with c := splice g.c (rowsO g top bottom).1 (lessL (segm g.c (rowsO g top bottom).1 (rowsO g top bottom).2) (manyF g (rowsO g top bottom).2 n) c) }
def downG (g : Gr) (top bottom n : Int) (c : Ce) : Gr :=
  { g with c := splice g.c (rowsO g top bottom).1 (moreL (segm g.c (rowsO g top bottom).1 (rowsO g top bottom).2) (manyF g (rowsO g top bottom).2 n) c) }
def rightG (g : Gr) (x y n : Int) (c : Ce) : Gr :=
  { g with c := splice g.c (rowO g x y).1 (moreL (segm g.c (rowO g x y).1 (rowO g x y).2) (min (max n 0).toNat (rowO g x y).2) c) }
def leftG (g : Gr) (x y n : Int) (c : Ce) : Gr :=
  { g with c := splice g.c (rowO g x y).1 (lessL (segm g.c (rowO g x y).1 (rowO g x y).2) (min (max n 0).toNat (rowO g x y).2) c) }
def sizeG (g : Gr) (w h : Int) : Gr :=
  (List.range (min g.h (endH h)).toNat).foldl (fun o (y : Nat) => setG o 0 (y : Int) (segm g.c (rowO g 0 (y : Int)).1 (rowO g 0 (y : Int)).2)) (newG w h)
/- runes -/
def widthF (b : UInt8) : Nat := if b < 0x80 then 1 else if 0xc2 ≤ b ∧ b ≤ 0xdf then 2 else if 0xe0 ≤ b ∧ b ≤ 0xef then 3 else if 0xf0 ≤ b ∧ b ≤ 0xf4 then 4 else 0
def lowF (h : List UInt8) : UInt8 := if h = [0xe0] then 0xa0 else if h = [0xf0] then 0x90 else 0x80
def highF (h : List UInt8) : UInt8 := if h = [0xed] then 0x9f else if h = [0xf4] then 0x8f else 0xbf
def mayF (h : List UInt8) (b : UInt8) : Bool := decide (lowF h ≤ b) && decide (b ≤ highF h)
def wholeF (s : List UInt8) : Int :=
  match s with
  | [a, b] => (a.toNat % 32 * 64 + b.toNat % 64 : Nat)
  | [a, b, c] => (a.toNat % 16 * 4096 + b.toNat % 64 * 64 + c.toNat % 64 : Nat)
  | [a, b, c, d] => (a.toNat % 8 * 262144 + b.toNat % 64 * 4096 + c.toNat % 64 * 64 + d.toNat % 64 : Nat)
  | _ => 0
def startU (b : UInt8) : List Int × List UInt8 := if widthF b = 0 then ([0xfffd], []) else if widthF b = 1 then ([(b.toNat : Int)], []) else ([], [b])
def stepU (h : List UInt8) (b : UInt8) : List Int × List UInt8 :=
  if h = [] then startU b
  else if mayF h b = false then (0xfffd :: (startU b).1, (startU b).2)
  else if (h ++ [b]).length < widthF (h.headD 0) then ([], h ++ [b])
  else ([wholeF (h ++ [b])], [])
def flushU (h : List UInt8) : List Int := if h = [] then [] else [0xfffd]
/- acts -/
structure Ac where
  kind : Int
  rune : Int
  byte : Int
  mark : Int
  nums : List Int
  inter : List UInt8
  text : List UInt8
def acPrint (r : Int) : Ac := ⟨1, r, 0, 0, [], [], []⟩
structure Pg where
  state : Nat
  half : List UInt8
  inter : List UInt8
  wrong : Bool
  first : Bool
  mark : Int
  nums : List Int
  full : Bool
  text : List UInt8
def Pg.zero : Pg := ⟨0, [], [], false, false, 0, [], false, []⟩
def beginP (p : Pg) (s : Nat) : Pg := ⟨s, p.half, [], false, true, 0, [], false, []⟩
def classF (b : UInt8) : Nat := if b < 32 then 0 else if b < 48 then 1 else if b < 64 then 2 else if b < 127 then 3 else if b = 127 then 4 else 5
def tableL : List Nat := [2, 1, 1, 1, 0, 1, 2, 3, 4, 4, 0, 9, 2, 3, 5, 6, 0, 9, 8, 7, 7, 7, 7, 7, 0, 7, 7, 7, 7, 7]
def endP (p : Pg) : List Ac := if p.state = 3 then [⟨5, 0, 0, 0, [], [], p.text⟩] else if p.state = 4 then [⟨6, 0, 0, 0, [], [], p.text⟩] else []
def interP (p : Pg) (b : UInt8) : Pg := if 2 ≤ p.inter.length then { p with first := false, wrong := true } else { p with first := false, inter := p.inter ++ [b] }
def nextS (p : Pg) (b : UInt8) : Nat := if p.inter = [] then (if b = 91 then 2 else if b = 93 then 3 else if b = 80 then 4 else 0) else 0
def finishP (p : Pg) (b : UInt8) : List Ac × Pg :=
  (if nextS p b = 0 ∧ p.wrong = false then [⟨3, 0, b.toNat, 0, [], p.inter, []⟩] else [], beginP p (nextS p b))
def numberP (p : Pg) : Pg := if p.nums = [] then { p with nums := [-1] } else p
def moreP (p : Pg) : Pg := if 8 ≤ p.nums.length then { p with full := true } else { p with nums := p.nums ++ [-1] }
def digitP (p : Pg) (d : Int) : Pg :=
  if (numberP p).full = true then numberP p
  else { numberP p with nums := (numberP p).nums.set ((numberP p).nums.length - 1) (min (max ((numberP p).nums.getD ((numberP p).nums.length - 1) 0) 0 * 10 + d) 9999) }
def paramP (p : Pg) (b : UInt8) : Pg :=
  if p.inter ≠ [] ∨ b = 58 ∨ (59 < b ∧ p.first = false) then { p with first := false, wrong := true }
  else if 59 < b then { p with first := false, mark := b.toNat }
  else if b = 59 then moreP (numberP { p with first := false })
  else digitP { p with first := false } ((b.toNat : Int) - 48)
def dispatchP (p : Pg) (b : UInt8) : List Ac × Pg :=
  (if p.wrong = true then [] else [⟨4, 0, b.toNat, p.mark, p.nums, p.inter, []⟩], beginP p 0)
def whatF (p : Pg) (b : UInt8) : Nat := tableL.getD (p.state * 6 + classF b) 0
def printP (p : Pg) (b : UInt8) : List Ac × Pg := ((stepU p.half b).1.map acPrint, { p with half := (stepU p.half b).2 })
/-- what stands ahead of a byte: the half of a rune, told -/
def aheadP (p : Pg) (b : UInt8) : List Ac × Pg := if p.state = 0 ∧ (b < 32 ∨ b = 127) then ((flushU p.half).map acPrint, { p with half := [] }) else ([], p)
def actP (p : Pg) (what : Nat) (b : UInt8) : List Ac × Pg :=
  if what = 1 then printP p b
  else if what = 2 then ([⟨2, 0, b.toNat, 0, [], [], []⟩], p)
  else if what = 3 then ([], interP p b)
  else if what = 4 then finishP p b
  else if what = 5 then ([], paramP p b)
  else if what = 6 then dispatchP p b
  else if what = 7 then ([], if p.text.length < 60 then { p with text := p.text ++ [b] } else p)
  else if what = 8 then (if b = 7 then (endP p, beginP p 0) else ([], p))
  else ([], p)
/-- a byte, not ahead of which nothing is flushed; 9: back to the ground, and again -/
def bodyP (p : Pg) (b : UInt8) : List Ac × Pg :=
  if b = 24 ∨ b = 26 then ([], beginP p 0)
  else if b = 27 then (endP p, beginP p 1)
  else if whatF p b = 9 then actP (beginP p 0) (whatF (beginP p 0) b) b
  else actP p (whatF p b) b
def stepP (p : Pg) (b : UInt8) : List Ac × Pg := ((aheadP p b).1 ++ (bodyP (aheadP p b).2 b).1, (bodyP (aheadP p b).2 b).2)
def feedP (p : Pg) : List UInt8 → List Ac × Pg
  | [] => ([], p)
  | b :: l => ((stepP p b).1 ++ (feedP (stepP p b).2 l).1, (feedP (stepP p b).2 l).2)
end Go.Proofs.YtnjgnbdebkckfaaGreatDoor.M0
namespace Go.Proofs.YtnjgnbdebkckfaaGreatDoor.C1
set_option maxRecDepth 100000
open Go.RowKit K1 K3 K5 K11 K12 K14 K20 K21 K22 K25 K30 K31 M0 
attribute [local go_sem] cell_pastA froz_pastA
abbrev atA (a : At) : Value := .agg #[.int .i64 a.fg, .int .i64 a.bg, .bool a.bold, .bool a.under, .bool a.inv]
abbrev ceA (c : Ce) : Value := .agg #[.int .i32 c.r, .int .i64 c.a.fg, .int .i64 c.a.bg, .bool c.a.bold, .bool c.a.under, .bool c.a.inv]
set_option maxHeartbeats 4000000 in
theorem color_any (n f : Int) (w : World) (h0 : -1 ≤ n) (h1 : n ≤ 100000) (h2 : 0 ≤ f) (h3 : f ≤ 1000) :
    Calls Tryz.prog 154 #[.int .i64 n, .int .i64 f] w fun e w' => e = .returned (.tuple #[.int .i64 (colorF n f).1, .bool (colorF n f).2]) ∧ w' = w := by
  unfold colorF
  by_cases a1 : f ≤ n
  · by_cases a2 : n < f + 8
    · have d1 : decide (f ≤ n) = true := by simpa using a1
      rw [if_pos ⟨a1, a2⟩]
      go_enter Tryz.func154, Tryz.ntmps154
      go_wp2_with fail
      go_ret2
      exact ⟨rfl, rfl⟩
    · rw [if_neg (fun h => a2 h.2)]
      by_cases a3 : f + 60 ≤ n
      · by_cases a4 : n < f + 68
        · rw [if_pos ⟨a3, a4⟩]
          go_enter Tryz.func154, Tryz.ntmps154
          go_wp2_with fail
          go_ret2
          exact ⟨rfl, rfl⟩
        · rw [if_neg (fun h => a4 h.2), if_neg (by omega)]
          go_enter Tryz.func154, Tryz.ntmps154
          go_wp2_with fail
          go_ret2
          exact ⟨rfl, rfl⟩
      · rw [if_neg (fun h => a3 h.1)]
        by_cases a5 : n = f + 9
        · rw [if_pos a5]
          go_enter Tryz.func154, Tryz.ntmps154
          go_wp2_with fail
          go_ret2
          exact ⟨rfl, rfl⟩
        · rw [if_neg a5]
          go_enter Tryz.func154, Tryz.ntmps154
          go_wp2_with fail
          go_ret2
          exact ⟨rfl, rfl⟩
  · rw [if_neg (fun h => a1 h.1), if_neg (by omega), if_neg (by omega)]
    go_enter Tryz.func154, Tryz.ntmps154
    go_wp2_with fail
    go_ret2
    exact ⟨rfl, rfl⟩
set_option maxHeartbeats 4000000 in
theorem blank_any (a : At) (w : World) : Calls Tryz.prog 62 #[atA a] w fun e w' => e = .returned (ceA (blankC a)) ∧ Below w.heap.size w w' := by
  go_enter Tryz.func62, Tryz.ntmps62
  go_wp2_with fail
  refine bodyPost_ret (v := ceA (blankC a)) (by simp [results, Tryz.results62, go_sem, blankC]) rfl ⟨rfl, ?_⟩
  repeat' (first | with_reducible assumption | with_reducible exact Below.refl _ _ | with_reducible apply Below.alloc | with_reducible apply Below.setCell | with_reducible apply Below.drew | (refine Below.trans ?_ (Below.mono (by with_reducible assumption) ?_)) | omega | (simp; omega) | (simp; done))
end Go.Proofs.YtnjgnbdebkckfaaGreatDoor.C1
namespace Go.Proofs.YtnjgnbdebkckfaaGreatDoor.G1
set_option maxRecDepth 100000
open Go.RowKit K1 K3 K5 K11 K12 K14 K20 K21 K22 K25 K30 K31 M0 C1
attribute [local go_sem] cell_pastA froz_pastA
/-- a grid lies at b, its cells in block gb -/
structure GrAt (w : World) (b gb gc : Nat) (g : Gr) : Prop where
  w0 : w.cell? ⟨b, 0, none⟩ = some (.int .i64 g.w)
  h0 : w.cell? ⟨b, 1, none⟩ = some (.int .i64 g.h)
  c0 : w.cell? ⟨b, 2, none⟩ = some (.slice (some ⟨gb, 0, none⟩) g.c.length gc)
  lt : b < w.heap.size
/-- the sizes are such that may be -/
structure GrOk (g : Gr) : Prop where
  w2 : 2 ≤ g.w
  w40 : g.w ≤ 40
  h1 : 1 ≤ g.h
  h20 : g.h ≤ 20
  len : (g.c.length : Int) = g.w * g.h
def gcells (g : Gr) (gb gc : Nat) : List Value := [.int .i64 g.w, .int .i64 g.h, .slice (some ⟨gb, 0, none⟩) g.c.length gc]
theorem GrAt.low {w w' : World} {b gb gc : Nat} {g : Gr} (h : GrAt w b gb gc g) (hb : Below w.heap.size w w') : GrAt w' b gb gc g :=
  ⟨(World.cell?_of_block (hb.block b h.lt)).trans h.w0, (World.cell?_of_block (hb.block b h.lt)).trans h.h0, (World.cell?_of_block (hb.block b h.lt)).trans h.c0, Nat.lt_of_lt_of_le h.lt hb.size⟩
theorem GrAt.of {w : World} {L L' : List Res} {b gb gc : Nat} {g : Gr} (h : Sep w L) (hr : Rm L (.blk b (gcells g gb gc) 121) L') : GrAt w b gb gc g :=
  ⟨(h.here hr).1 0, (h.here hr).1 1, (h.here hr).1 2, (h.here hr).2.2⟩
theorem W_any (b gb gc : Nat) (g : Gr) (w : World) (h : GrAt w b gb gc g) : Calls Tryz.prog 47 #[.pointer (some ⟨b, 0, none⟩)] w fun e w' => e = .returned (.int .i64 g.w) ∧ Below w.heap.size w w' := by
  have hc := h.w0
  go_enter Tryz.func47, Tryz.ntmps47
  go_wp2_with fail
  go_ret
  exact ⟨rfl, Below.refl _ _⟩
theorem H_any (b gb gc : Nat) (g : Gr) (w : World) (h : GrAt w b gb gc g) : Calls Tryz.prog 45 #[.pointer (some ⟨b, 0, none⟩)] w fun e w' => e = .returned (.int .i64 g.h) ∧ Below w.heap.size w w' := by
  have hc := h.h0
  go_enter Tryz.func45, Tryz.ntmps45
  go_wp2_with fail
  go_ret
  exact ⟨rfl, Below.refl _ _⟩
theorem GrOk.mul {g : Gr} (h : GrOk g) {y : Int} (y0 : 0 ≤ y) (y1 : y ≤ g.h) : 0 ≤ y * g.w ∧ y * g.w ≤ g.c.length ∧ g.c.length ≤ 800 := by
  have h1 := h.w2; have h2 := h.w40; have h3 := h.h1; have h4 := h.h20; have h5 := h.len
  have a : 0 ≤ y * g.w := Int.mul_nonneg y0 (by omega)
  have b : y * g.w ≤ g.h * g.w := Int.mul_le_mul_of_nonneg_right y1 (by omega)
  have c : g.w * g.h ≤ 40 * g.h := Int.mul_le_mul_of_nonneg_right h2 (by omega)
  rw [Int.mul_comm g.h g.w, ← h5] at b
  rw [← h5] at c
  exact ⟨a, b, by omega⟩
theorem GrOk.rowEnd {g : Gr} (h : GrOk g) {x y : Int} (x0 : 0 ≤ x) (x1 : x < g.w) (y0 : 0 ≤ y) (y1 : y < g.h) : 0 ≤ y * g.w ∧ 0 ≤ (y + 1) * g.w ∧ y * g.w + g.w ≤ (y + 1) * g.w ∧ (y + 1) * g.w ≤ y * g.w + g.w ∧ (y + 1) * g.w ≤ g.c.length ∧ g.c.length ≤ 800 := by
  have h1 := h.mul y0 (by omega)
  have h2 := h.mul (y := y + 1) (by omega) (by omega)
  have e : (y + 1) * g.w = y * g.w + g.w := by rw [Int.add_mul, Int.one_mul]
  omega
theorem ret_slc2 {a a' : Option Addr} {n m c c' : Nat} (h1 : a = a') (h : n = m) (h2 : c = c') : Ending.returned (.slice a n c) = .returned (.slice a' m c') := by rw [h, h1, h2]
theorem ret_slc {a : Option Addr} {n m c : Nat} (h : n = m) : Ending.returned (.slice a n c) = .returned (.slice a m c) := by rw [h]
def rowV (g : Gr) (gb gc : Nat) (x y : Int) : Value :=
  if x < 0 ∨ g.w ≤ x ∨ y < 0 ∨ g.h ≤ y then .slice none 0 0 else .slice (some ⟨gb, (y * g.w + x).toNat * 6, none⟩) (g.w - x).toNat (gc - (y * g.w + x).toNat)
set_option maxHeartbeats 4000000 in
theorem row_in (b gb gc : Nat) (g : Gr) (x y : Int) (w : World) (h : GrAt w b gb gc g) (ok : GrOk g) (hgc : g.c.length ≤ gc) (hgm : gc ≤ 9223372036854775807) (x0 : 0 ≤ x) (x1 : x < g.w) (y0 : 0 ≤ y) (y1 : y < g.h) :
    Calls Tryz.prog 72 #[.pointer (some ⟨b, 0, none⟩), .int .i64 x, .int .i64 y] w fun e w' => e = .returned (.slice (some ⟨gb, (y * g.w + x).toNat * 6, none⟩) (g.w - x).toNat (gc - (y * g.w + x).toNat)) ∧ Below w.heap.size w w' := by
  have hc0 := h.w0
  have hc1 := h.h0
  have hc2 := h.c0
  have hl := h.lt
  obtain ⟨p1, p2, p3, p4, p5, p6⟩ := ok.rowEnd x0 x1 y0 y1
  have q1 := ok.w2
  have q2 := ok.w40
  have q3 := ok.h20
  clear h ok
  go_enter Tryz.func72, Tryz.ntmps72
  go_wp2_with fail
  refine K32.reg0 (w := _) [] [] 21 ?_
  simp only [numbered, List.take_succ_cons, List.take_zero, List.drop_succ_cons, List.drop_zero, List.take_nil, List.drop_nil, Nat.reduceAdd]
  (refine K32.zd ?_; (try go_simp))
  (refine K32.zd ?_; (try go_simp))
  (refine K32.zd ?_; (try go_simp))
  (refine K32.zd ?_; (try go_simp))
  (refine K32.zd ?_; (try go_simp))
  (refine K32.zd ?_; (try go_simp))
  (refine K32.zd ?_; (try go_simp))
  (refine K32.zd ?_; (try go_simp))
  (refine K32.zd ?_; (try go_simp))
  (refine K32.zd ?_; (try go_simp))
  (refine K32.zd ?_; (try go_simp))
  (refine K32.zd ?_; (try go_simp))
  (refine K32.zd ?_; (try go_simp))
  (refine K32.zd ?_; (try go_simp))
  (refine K32.zd ?_; (try go_simp))
  (refine K32.zd ?_; (try go_simp))
  (refine K32.zd ?_; (try go_simp))
  (refine K32.zd ?_; (try go_simp))
  (refine K32.zd ?_; (try go_simp))
  (refine K32.zd ?_; (try go_simp))
  (refine K32.zd ?_; (try go_simp))
  refine wz_nil ?_
  intro wq hbq hLq
  clear hLq 
  have hcwq := cellA hbq
  have hfwq := frozA hbq
  have hzwq := hbq.size
  (try simp at hzwq)
  go_wp2_with fail
  go_ret
  exact ⟨ret_slc (by omega), hbq⟩
set_option maxHeartbeats 4000000 in
theorem row_out (b : Nat) (g : Gr) (x y : Int) (w : World) (h0 : w.cell? ⟨b, 0, none⟩ = some (.int .i64 g.w)) (h1 : w.cell? ⟨b, 1, none⟩ = some (.int .i64 g.h)) (hx : x < 0 ∨ g.w ≤ x ∨ y < 0 ∨ g.h ≤ y) :
    Calls Tryz.prog 72 #[.pointer (some ⟨b, 0, none⟩), .int .i64 x, .int .i64 y] w fun e w' => e = .returned (.slice none 0 0) ∧ Below w.heap.size w w' := by
  have hx2 : (x < 0) ∨ (0 ≤ x ∧ g.w ≤ x) ∨ (0 ≤ x ∧ x < g.w ∧ y < 0) ∨ (0 ≤ x ∧ x < g.w ∧ 0 ≤ y ∧ g.h ≤ y) := by omega
  clear hx
  rcases hx2 with a1 | ⟨a1, a2⟩ | ⟨a1, a2, a3⟩ | ⟨a1, a2, a3, a4⟩
  all_goals
    go_enter Tryz.func72, Tryz.ntmps72
    go_wp2_with fail
    go_ret
    exact ⟨rfl, Below.refl _ _⟩
theorem row_any (b gb gc : Nat) (g : Gr) (x y : Int) (w : World) (h : GrAt w b gb gc g) (ok : GrOk g) (hgc : g.c.length ≤ gc) (hgm : gc ≤ 9223372036854775807) :
    Calls Tryz.prog 72 #[.pointer (some ⟨b, 0, none⟩), .int .i64 x, .int .i64 y] w fun e w' => e = .returned (rowV g gb gc x y) ∧ Below w.heap.size w w' := by
  unfold rowV
  by_cases hx : x < 0 ∨ g.w ≤ x ∨ y < 0 ∨ g.h ≤ y
  · rw [if_pos hx]
    exact row_out b g x y w h.w0 h.h0 hx
  · rw [if_neg hx]
    exact row_in b gb gc g x y w h ok hgc hgm (by omega) (by omega) (by omega) (by omega)
theorem mul_rng {x y : Int} (x0 : 0 ≤ x) (x1 : x ≤ 20) (y0 : 0 ≤ y) (y1 : y ≤ 40) : 0 ≤ x * y ∧ x * y ≤ 800 := by
  have a := Int.mul_nonneg x0 y0
  have b : x * y ≤ 20 * y := Int.mul_le_mul_of_nonneg_right x1 y0
  omega
theorem ret_i64 {a b : Int} (h : a = b) : Ending.returned (.int .i64 a) = .returned (.int .i64 b) := by rw [h]
set_option maxHeartbeats 4000000 in
theorem many00 (b gb gc : Nat) (g : Gr) (ad : Option Addr) (len cap : Nat) (k : Int) (w : World) (h0 : GrAt w b gb gc g) (ok : GrOk g) (hl : len ≤ 1000) (a : k < 0) (c : g.w ≤ len) :
    Calls Tryz.prog 139 #[.pointer (some ⟨b, 0, none⟩), .slice ad len cap, .int .i64 k] w fun e w' => e = .returned (.int .i64 (0 * g.w)) ∧ Below w.heap.size w w' := by
  have h := Lib.hid h0
  have q1 := ok.w2
  have q2 := ok.w40
  have q3 := ok.h20
  have q4 := ok.h1
  obtain ⟨r1, r2⟩ : 0 ≤ 0 * g.w ∧ 0 * g.w ≤ 800 := mul_rng (by omega) (by omega) (by omega) (by omega)
  clear h0 ok
  go_enter Tryz.func139, Tryz.ntmps139
  go_wp2_with (first | (go_at_call 45; ((with_reducible refine (H_any _ gb gc g _ h.out).mono ?_)); rintro e w1 ⟨rfl, hb1⟩; have h := Lib.hid (h.out.low hb1)) | (go_at_call 47; ((with_reducible refine (W_any _ gb gc g _ h.out).mono ?_)); rintro e w2 ⟨rfl, hb2⟩))
  go_ret
  exact ⟨ret_i64 (by first | rfl | omega | simp), hb1.trans (hb2.mono hb1.size)⟩
set_option maxHeartbeats 4000000 in
theorem many01 (b gb gc : Nat) (g : Gr) (ad : Option Addr) (len cap : Nat) (k : Int) (w : World) (h0 : GrAt w b gb gc g) (ok : GrOk g) (hl : len ≤ 1000) (a : k < 0) (c : len < g.w) :
    Calls Tryz.prog 139 #[.pointer (some ⟨b, 0, none⟩), .slice ad len cap, .int .i64 k] w fun e w' => e = .returned (.int .i64 (0 * (len : Int))) ∧ Below w.heap.size w w' := by
  have h := Lib.hid h0
  have q1 := ok.w2
  have q2 := ok.w40
  have q3 := ok.h20
  have q4 := ok.h1
  obtain ⟨r1, r2⟩ : 0 ≤ 0 * (len : Int) ∧ 0 * (len : Int) ≤ 800 := mul_rng (by omega) (by omega) (by omega) (by omega)
  clear h0 ok
  go_enter Tryz.func139, Tryz.ntmps139
  go_wp2_with (first | (go_at_call 45; ((with_reducible refine (H_any _ gb gc g _ h.out).mono ?_)); rintro e w1 ⟨rfl, hb1⟩; have h := Lib.hid (h.out.low hb1)) | (go_at_call 47; ((with_reducible refine (W_any _ gb gc g _ h.out).mono ?_)); rintro e w2 ⟨rfl, hb2⟩))
  go_ret
  exact ⟨ret_i64 (by first | rfl | omega | simp), hb1.trans (hb2.mono hb1.size)⟩
set_option maxHeartbeats 4000000 in
theorem many10 (b gb gc : Nat) (g : Gr) (ad : Option Addr) (len cap : Nat) (k : Int) (w : World) (h0 : GrAt w b gb gc g) (ok : GrOk g) (hl : len ≤ 1000) (a : 0 ≤ k) (a2 : k ≤ g.h) (c : g.w ≤ len) :
    Calls Tryz.prog 139 #[.pointer (some ⟨b, 0, none⟩), .slice ad len cap, .int .i64 k] w fun e w' => e = .returned (.int .i64 (k * g.w)) ∧ Below w.heap.size w w' := by
  have h := Lib.hid h0
  have q1 := ok.w2
  have q2 := ok.w40
  have q3 := ok.h20
  have q4 := ok.h1
  obtain ⟨r1, r2⟩ : 0 ≤ k * g.w ∧ k * g.w ≤ 800 := mul_rng (by omega) (by omega) (by omega) (by omega)
  clear h0 ok
  go_enter Tryz.func139, Tryz.ntmps139
  go_wp2_with (first | (go_at_call 45; ((with_reducible refine (H_any _ gb gc g _ h.out).mono ?_)); rintro e w1 ⟨rfl, hb1⟩; have h := Lib.hid (h.out.low hb1)) | (go_at_call 47; ((with_reducible refine (W_any _ gb gc g _ h.out).mono ?_)); rintro e w2 ⟨rfl, hb2⟩))
  go_ret
  exact ⟨ret_i64 (by first | rfl | omega | simp), hb1.trans (hb2.mono hb1.size)⟩
set_option maxHeartbeats 4000000 in
theorem many11 (b gb gc : Nat) (g : Gr) (ad : Option Addr) (len cap : Nat) (k : Int) (w : World) (h0 : GrAt w b gb gc g) (ok : GrOk g) (hl : len ≤ 1000) (a : 0 ≤ k) (a2 : k ≤ g.h) (c : len < g.w) :
    Calls Tryz.prog 139 #[.pointer (some ⟨b, 0, none⟩), .slice ad len cap, .int .i64 k] w fun e w' => e = .returned (.int .i64 (k * (len : Int))) ∧ Below w.heap.size w w' := by
  have h := Lib.hid h0
  have q1 := ok.w2
  have q2 := ok.w40
  have q3 := ok.h20
  have q4 := ok.h1
  obtain ⟨r1, r2⟩ : 0 ≤ k * (len : Int) ∧ k * (len : Int) ≤ 800 := mul_rng (by omega) (by omega) (by omega) (by omega)
  clear h0 ok
  go_enter Tryz.func139, Tryz.ntmps139
  go_wp2_with (first | (go_at_call 45; ((with_reducible refine (H_any _ gb gc g _ h.out).mono ?_)); rintro e w1 ⟨rfl, hb1⟩; have h := Lib.hid (h.out.low hb1)) | (go_at_call 47; ((with_reducible refine (W_any _ gb gc g _ h.out).mono ?_)); rintro e w2 ⟨rfl, hb2⟩))
  go_ret
  exact ⟨ret_i64 (by first | rfl | omega | simp), hb1.trans (hb2.mono hb1.size)⟩
set_option maxHeartbeats 4000000 in
theorem many20 (b gb gc : Nat) (g : Gr) (ad : Option Addr) (len cap : Nat) (k : Int) (w : World) (h0 : GrAt w b gb gc g) (ok : GrOk g) (hl : len ≤ 1000) (a : 0 ≤ k) (a2 : g.h < k) (c : g.w ≤ len) :
    Calls Tryz.prog 139 #[.pointer (some ⟨b, 0, none⟩), .slice ad len cap, .int .i64 k] w fun e w' => e = .returned (.int .i64 (g.h * g.w)) ∧ Below w.heap.size w w' := by
  have h := Lib.hid h0
  have q1 := ok.w2
  have q2 := ok.w40
  have q3 := ok.h20
  have q4 := ok.h1
  obtain ⟨r1, r2⟩ : 0 ≤ g.h * g.w ∧ g.h * g.w ≤ 800 := mul_rng (by omega) (by omega) (by omega) (by omega)
  clear h0 ok
  go_enter Tryz.func139, Tryz.ntmps139
  go_wp2_with (first | (go_at_call 45; ((with_reducible refine (H_any _ gb gc g _ h.out).mono ?_)); rintro e w1 ⟨rfl, hb1⟩; have h := Lib.hid (h.out.low hb1)) | (go_at_call 47; ((with_reducible refine (W_any _ gb gc g _ h.out).mono ?_)); rintro e w2 ⟨rfl, hb2⟩))
  go_ret
  exact ⟨ret_i64 (by first | rfl | omega | simp), hb1.trans (hb2.mono hb1.size)⟩
set_option maxHeartbeats 4000000 in
theorem many21 (b gb gc : Nat) (g : Gr) (ad : Option Addr) (len cap : Nat) (k : Int) (w : World) (h0 : GrAt w b gb gc g) (ok : GrOk g) (hl : len ≤ 1000) (a : 0 ≤ k) (a2 : g.h < k) (c : len < g.w) :
    Calls Tryz.prog 139 #[.pointer (some ⟨b, 0, none⟩), .slice ad len cap, .int .i64 k] w fun e w' => e = .returned (.int .i64 (g.h * (len : Int))) ∧ Below w.heap.size w w' := by
  have h := Lib.hid h0
  have q1 := ok.w2
  have q2 := ok.w40
  have q3 := ok.h20
  have q4 := ok.h1
  obtain ⟨r1, r2⟩ : 0 ≤ g.h * (len : Int) ∧ g.h * (len : Int) ≤ 800 := mul_rng (by omega) (by omega) (by omega) (by omega)
  clear h0 ok
  go_enter Tryz.func139, Tryz.ntmps139
  go_wp2_with (first | (go_at_call 45; ((with_reducible refine (H_any _ gb gc g _ h.out).mono ?_)); rintro e w1 ⟨rfl, hb1⟩; have h := Lib.hid (h.out.low hb1)) | (go_at_call 47; ((with_reducible refine (W_any _ gb gc g _ h.out).mono ?_)); rintro e w2 ⟨rfl, hb2⟩))
  go_ret
  exact ⟨ret_i64 (by first | rfl | omega | simp), hb1.trans (hb2.mono hb1.size)⟩
theorem many_any (b gb gc : Nat) (g : Gr) (ad : Option Addr) (len cap : Nat) (k : Int) (w : World) (h0 : GrAt w b gb gc g) (ok : GrOk g) (hl : len ≤ 1000) :
    Calls Tryz.prog 139 #[.pointer (some ⟨b, 0, none⟩), .slice ad len cap, .int .i64 k] w fun e w' => e = .returned (.int .i64 (min (max k 0) g.h * min g.w len)) ∧ Below w.heap.size w w' := by
  have q4 := ok.h1
  by_cases a : k < 0
  · rw [show min (max k 0) g.h = 0 by omega]
    by_cases c : g.w ≤ len
    · rw [Int.min_eq_left c]; exact many00 b gb gc g ad len cap k w h0 ok hl a c
    · rw [Int.min_eq_right (by omega)]; exact many01 b gb gc g ad len cap k w h0 ok hl a (by omega)
  · by_cases a2 : k ≤ g.h
    · rw [show min (max k 0) g.h = k by omega]
      by_cases c : g.w ≤ len
      · rw [Int.min_eq_left c]; exact many10 b gb gc g ad len cap k w h0 ok hl (by omega) a2 c
      · rw [Int.min_eq_right (by omega)]; exact many11 b gb gc g ad len cap k w h0 ok hl (by omega) a2 (by omega)
    · rw [show min (max k 0) g.h = g.h by omega]
      by_cases c : g.w ≤ len
      · rw [Int.min_eq_left c]; exact many20 b gb gc g ad len cap k w h0 ok hl (by omega) (by omega) c
      · rw [Int.min_eq_right (by omega)]; exact many21 b gb gc g ad len cap k w h0 ok hl (by omega) (by omega) (by omega)
def rowsV (g : Gr) (gb gc : Nat) (top bottom : Int) : Value :=
  if min bottom g.h ≤ max top 0 then .slice none 0 0 else .slice (some ⟨gb, (max top 0 * g.w).toNat * 6, none⟩) ((min bottom g.h - max top 0) * g.w).toNat (gc - (max top 0 * g.w).toNat)
set_option maxHeartbeats 4000000 in
theorem rowsN00 (b gb gc : Nat) (g : Gr) (top bottom : Int) (w : World) (h0 : GrAt w b gb gc g) (a : top < 0) (c : bottom ≤ g.h) (hx : bottom ≤ 0) :
    Calls Tryz.prog 137 #[.pointer (some ⟨b, 0, none⟩), .int .i64 top, .int .i64 bottom] w fun e w' => e = .returned (.slice none 0 0) ∧ Below w.heap.size w w' := by
  have h := Lib.hid h0
  clear h0
  go_enter Tryz.func137, Tryz.ntmps137
  go_wp2_with (go_at_call 45; ((with_reducible refine (H_any _ gb gc g _ h.out).mono ?_)); rintro e w1 ⟨rfl, hb1⟩)
  go_ret
  exact ⟨rfl, hb1⟩
set_option maxHeartbeats 4000000 in
theorem rowsY00 (b gb gc : Nat) (g : Gr) (top bottom : Int) (w : World) (h0 : GrAt w b gb gc g) (ok : GrOk g) (hgc : g.c.length ≤ gc) (hgm : gc ≤ 9223372036854775807) (a : top < 0) (c : bottom ≤ g.h) (hx : 0 < bottom) :
    Calls Tryz.prog 137 #[.pointer (some ⟨b, 0, none⟩), .int .i64 top, .int .i64 bottom] w fun e w' => e = .returned (.slice (some ⟨gb, (0 * g.w).toNat * 6, none⟩) ((bottom - 0) * g.w).toNat (gc - (0 * g.w).toNat)) ∧ Below w.heap.size w w' := by
  have h := Lib.hid h0
  have hc0 := h0.w0
  have hc2 := h0.c0
  have hl := h0.lt
  have q1 := ok.w2
  have q2 := ok.w40
  have q3 := ok.h20
  obtain ⟨p1, p2, p3⟩ := ok.mul (y := 0) (by omega) (by omega)
  obtain ⟨p4, p5, p6⟩ := ok.mul (y := bottom) (by omega) (by omega)
  have he : (bottom - 0) * g.w = bottom * g.w - 0 * g.w := Int.sub_mul _ _ _
  have hle0 : (0 + 1) * g.w ≤ bottom * g.w := Int.mul_le_mul_of_nonneg_right (by omega) (by omega)
  have hle : 0 * g.w + g.w ≤ bottom * g.w := by rw [Int.add_mul, Int.one_mul] at hle0; exact hle0
  clear hle0
  have HE := Lib.hid he
  clear h0 ok he
  go_enter Tryz.func137, Tryz.ntmps137
  go_wp2_with (go_at_call 45; ((with_reducible refine (H_any _ gb gc g _ h.out).mono ?_)); rintro e w1 ⟨rfl, hb1⟩; have h := Lib.hid (h.out.low hb1))
  have hc0 := h.out.w0
  have hc2 := h.out.c0
  have hl := h.out.lt
  refine K32.reg0 (w := _) [] [] 18 ?_
  simp only [numbered, List.take_succ_cons, List.take_zero, List.drop_succ_cons, List.drop_zero, List.take_nil, List.drop_nil, Nat.reduceAdd]
  (refine K32.zd ?_; (try go_simp))
  (refine K32.zd ?_; (try go_simp))
  (refine K32.zd ?_; (try go_simp))
  (refine K32.zd ?_; (try go_simp))
  (refine K32.zd ?_; (try go_simp))
  (refine K32.zd ?_; (try go_simp))
  (refine K32.zd ?_; (try go_simp))
  (refine K32.zd ?_; (try go_simp))
  (refine K32.zd ?_; (try go_simp))
  (refine K32.zd ?_; (try go_simp))
  (refine K32.zd ?_; (try go_simp))
  (refine K32.zd ?_; (try go_simp))
  (refine K32.zd ?_; (try go_simp))
  (refine K32.zd ?_; (try go_simp))
  (refine K32.zd ?_; (try go_simp))
  (refine K32.zd ?_; (try go_simp))
  (refine K32.zd ?_; (try go_simp))
  (refine K32.zd ?_; (try go_simp))
  refine wz_nil ?_
  intro wq hbq hLq
  clear hLq 
  have hcwq := cellA hbq
  have hfwq := frozA hbq
  have hzwq := hbq.size
  (try simp at hzwq)
  go_wp2_with fail
  go_ret
  exact ⟨ret_slc2 (by first | rfl | simp) (by rw [HE.out]; omega) (by first | rfl | simp), hb1.trans (hbq.mono hb1.size)⟩
set_option maxHeartbeats 4000000 in
theorem rowsN01 (b gb gc : Nat) (g : Gr) (top bottom : Int) (w : World) (h0 : GrAt w b gb gc g) (a : top < 0) (c : g.h < bottom) (hx : g.h ≤ 0) :
    Calls Tryz.prog 137 #[.pointer (some ⟨b, 0, none⟩), .int .i64 top, .int .i64 bottom] w fun e w' => e = .returned (.slice none 0 0) ∧ Below w.heap.size w w' := by
  have h := Lib.hid h0
  clear h0
  go_enter Tryz.func137, Tryz.ntmps137
  go_wp2_with (go_at_call 45; ((with_reducible refine (H_any _ gb gc g _ h.out).mono ?_)); rintro e w1 ⟨rfl, hb1⟩)
  go_ret
  exact ⟨rfl, hb1⟩
set_option maxHeartbeats 4000000 in
theorem rowsY01 (b gb gc : Nat) (g : Gr) (top bottom : Int) (w : World) (h0 : GrAt w b gb gc g) (ok : GrOk g) (hgc : g.c.length ≤ gc) (hgm : gc ≤ 9223372036854775807) (a : top < 0) (c : g.h < bottom) (hx : 0 < g.h) :
    Calls Tryz.prog 137 #[.pointer (some ⟨b, 0, none⟩), .int .i64 top, .int .i64 bottom] w fun e w' => e = .returned (.slice (some ⟨gb, (0 * g.w).toNat * 6, none⟩) ((g.h - 0) * g.w).toNat (gc - (0 * g.w).toNat)) ∧ Below w.heap.size w w' := by
  have h := Lib.hid h0
  have hc0 := h0.w0
  have hc2 := h0.c0
  have hl := h0.lt
  have q1 := ok.w2
  have q2 := ok.w40
  have q3 := ok.h20
  obtain ⟨p1, p2, p3⟩ := ok.mul (y := 0) (by omega) (by omega)
  obtain ⟨p4, p5, p6⟩ := ok.mul (y := g.h) (by omega) (by omega)
  have he : (g.h - 0) * g.w = g.h * g.w - 0 * g.w := Int.sub_mul _ _ _
  have hle0 : (0 + 1) * g.w ≤ g.h * g.w := Int.mul_le_mul_of_nonneg_right (by omega) (by omega)
  have hle : 0 * g.w + g.w ≤ g.h * g.w := by rw [Int.add_mul, Int.one_mul] at hle0; exact hle0
  clear hle0
  have HE := Lib.hid he
  clear h0 ok he
  go_enter Tryz.func137, Tryz.ntmps137
  go_wp2_with (go_at_call 45; ((with_reducible refine (H_any _ gb gc g _ h.out).mono ?_)); rintro e w1 ⟨rfl, hb1⟩; have h := Lib.hid (h.out.low hb1))
  have hc0 := h.out.w0
  have hc2 := h.out.c0
  have hl := h.out.lt
  refine K32.reg0 (w := _) [] [] 18 ?_
  simp only [numbered, List.take_succ_cons, List.take_zero, List.drop_succ_cons, List.drop_zero, List.take_nil, List.drop_nil, Nat.reduceAdd]
  (refine K32.zd ?_; (try go_simp))
  (refine K32.zd ?_; (try go_simp))
  (refine K32.zd ?_; (try go_simp))
  (refine K32.zd ?_; (try go_simp))
  (refine K32.zd ?_; (try go_simp))
  (refine K32.zd ?_; (try go_simp))
  (refine K32.zd ?_; (try go_simp))
  (refine K32.zd ?_; (try go_simp))
  (refine K32.zd ?_; (try go_simp))
  (refine K32.zd ?_; (try go_simp))
  (refine K32.zd ?_; (try go_simp))
  (refine K32.zd ?_; (try go_simp))
  (refine K32.zd ?_; (try go_simp))
  (refine K32.zd ?_; (try go_simp))
  (refine K32.zd ?_; (try go_simp))
  (refine K32.zd ?_; (try go_simp))
  (refine K32.zd ?_; (try go_simp))
  (refine K32.zd ?_; (try go_simp))
  refine wz_nil ?_
  intro wq hbq hLq
  clear hLq 
  have hcwq := cellA hbq
  have hfwq := frozA hbq
  have hzwq := hbq.size
  (try simp at hzwq)
  go_wp2_with fail
  go_ret
  exact ⟨ret_slc2 (by first | rfl | simp) (by rw [HE.out]; omega) (by first | rfl | simp), hb1.trans (hbq.mono hb1.size)⟩
set_option maxHeartbeats 4000000 in
theorem rowsN10 (b gb gc : Nat) (g : Gr) (top bottom : Int) (w : World) (h0 : GrAt w b gb gc g) (a : 0 ≤ top) (c : bottom ≤ g.h) (hx : bottom ≤ top) :
    Calls Tryz.prog 137 #[.pointer (some ⟨b, 0, none⟩), .int .i64 top, .int .i64 bottom] w fun e w' => e = .returned (.slice none 0 0) ∧ Below w.heap.size w w' := by
  have h := Lib.hid h0
  clear h0
  go_enter Tryz.func137, Tryz.ntmps137
  go_wp2_with (go_at_call 45; ((with_reducible refine (H_any _ gb gc g _ h.out).mono ?_)); rintro e w1 ⟨rfl, hb1⟩)
  go_ret
  exact ⟨rfl, hb1⟩
set_option maxHeartbeats 4000000 in
theorem rowsY10 (b gb gc : Nat) (g : Gr) (top bottom : Int) (w : World) (h0 : GrAt w b gb gc g) (ok : GrOk g) (hgc : g.c.length ≤ gc) (hgm : gc ≤ 9223372036854775807) (a : 0 ≤ top) (c : bottom ≤ g.h) (hx : top < bottom) :
    Calls Tryz.prog 137 #[.pointer (some ⟨b, 0, none⟩), .int .i64 top, .int .i64 bottom] w fun e w' => e = .returned (.slice (some ⟨gb, (top * g.w).toNat * 6, none⟩) ((bottom - top) * g.w).toNat (gc - (top * g.w).toNat)) ∧ Below w.heap.size w w' := by
  have h := Lib.hid h0
  have hc0 := h0.w0
  have hc2 := h0.c0
  have hl := h0.lt
  have q1 := ok.w2
  have q2 := ok.w40
  have q3 := ok.h20
  obtain ⟨p1, p2, p3⟩ := ok.mul (y := top) (by omega) (by omega)
  obtain ⟨p4, p5, p6⟩ := ok.mul (y := bottom) (by omega) (by omega)
  have he : (bottom - top) * g.w = bottom * g.w - top * g.w := Int.sub_mul _ _ _
  have hle0 : (top + 1) * g.w ≤ bottom * g.w := Int.mul_le_mul_of_nonneg_right (by omega) (by omega)
  have hle : top * g.w + g.w ≤ bottom * g.w := by rw [Int.add_mul, Int.one_mul] at hle0; exact hle0
  clear hle0
  have HE := Lib.hid he
  clear h0 ok he
  go_enter Tryz.func137, Tryz.ntmps137
  go_wp2_with (go_at_call 45; ((with_reducible refine (H_any _ gb gc g _ h.out).mono ?_)); rintro e w1 ⟨rfl, hb1⟩; have h := Lib.hid (h.out.low hb1))
  have hc0 := h.out.w0
  have hc2 := h.out.c0
  have hl := h.out.lt
  refine K32.reg0 (w := _) [] [] 18 ?_
  simp only [numbered, List.take_succ_cons, List.take_zero, List.drop_succ_cons, List.drop_zero, List.take_nil, List.drop_nil, Nat.reduceAdd]
  (refine K32.zd ?_; (try go_simp))
  (refine K32.zd ?_; (try go_simp))
  (refine K32.zd ?_; (try go_simp))
  (refine K32.zd ?_; (try go_simp))
  (refine K32.zd ?_; (try go_simp))
  (refine K32.zd ?_; (try go_simp))
  (refine K32.zd ?_; (try go_simp))
  (refine K32.zd ?_; (try go_simp))
  (refine K32.zd ?_; (try go_simp))
  (refine K32.zd ?_; (try go_simp))
  (refine K32.zd ?_; (try go_simp))
  (refine K32.zd ?_; (try go_simp))
  (refine K32.zd ?_; (try go_simp))
  (refine K32.zd ?_; (try go_simp))
  (refine K32.zd ?_; (try go_simp))
  (refine K32.zd ?_; (try go_simp))
  (refine K32.zd ?_; (try go_simp))
  (refine K32.zd ?_; (try go_simp))
  refine wz_nil ?_
  intro wq hbq hLq
  clear hLq 
  have hcwq := cellA hbq
  have hfwq := frozA hbq
  have hzwq := hbq.size
  (try simp at hzwq)
  go_wp2_with fail
  go_ret
  exact ⟨ret_slc2 (by first | rfl | simp) (by rw [HE.out]; omega) (by first | rfl | simp), hb1.trans (hbq.mono hb1.size)⟩
set_option maxHeartbeats 4000000 in
theorem rowsN11 (b gb gc : Nat) (g : Gr) (top bottom : Int) (w : World) (h0 : GrAt w b gb gc g) (a : 0 ≤ top) (c : g.h < bottom) (hx : g.h ≤ top) :
    Calls Tryz.prog 137 #[.pointer (some ⟨b, 0, none⟩), .int .i64 top, .int .i64 bottom] w fun e w' => e = .returned (.slice none 0 0) ∧ Below w.heap.size w w' := by
  have h := Lib.hid h0
  clear h0
  go_enter Tryz.func137, Tryz.ntmps137
  go_wp2_with (go_at_call 45; ((with_reducible refine (H_any _ gb gc g _ h.out).mono ?_)); rintro e w1 ⟨rfl, hb1⟩)
  go_ret
  exact ⟨rfl, hb1⟩
set_option maxHeartbeats 4000000 in
theorem rowsY11 (b gb gc : Nat) (g : Gr) (top bottom : Int) (w : World) (h0 : GrAt w b gb gc g) (ok : GrOk g) (hgc : g.c.length ≤ gc) (hgm : gc ≤ 9223372036854775807) (a : 0 ≤ top) (c : g.h < bottom) (hx : top < g.h) :
    Calls Tryz.prog 137 #[.pointer (some ⟨b, 0, none⟩), .int .i64 top, .int .i64 bottom] w fun e w' => e = .returned (.slice (some ⟨gb, (top * g.w).toNat * 6, none⟩) ((g.h - top) * g.w).toNat (gc - (top * g.w).toNat)) ∧ Below w.heap.size w w' := by
  have h := Lib.hid h0
  have hc0 := h0.w0
  have hc2 := h0.c0
  have hl := h0.lt
  have q1 := ok.w2
  have q2 := ok.w40
  have q3 := ok.h20
  obtain ⟨p1, p2, p3⟩ := ok.mul (y := top) (by omega) (by omega)
  obtain ⟨p4, p5, p6⟩ := ok.mul (y := g.h) (by omega) (by omega)
  have he : (g.h - top) * g.w = g.h * g.w - top * g.w := Int.sub_mul _ _ _
  have hle0 : (top + 1) * g.w ≤ g.h * g.w := Int.mul_le_mul_of_nonneg_right (by omega) (by omega)
  have hle : top * g.w + g.w ≤ g.h * g.w := by rw [Int.add_mul, Int.one_mul] at hle0; exact hle0
  clear hle0
  have HE := Lib.hid he
  clear h0 ok he
  go_enter Tryz.func137, Tryz.ntmps137
  go_wp2_with (go_at_call 45; ((with_reducible refine (H_any _ gb gc g _ h.out).mono ?_)); rintro e w1 ⟨rfl, hb1⟩; have h := Lib.hid (h.out.low hb1))
  have hc0 := h.out.w0
  have hc2 := h.out.c0
  have hl := h.out.lt
  refine K32.reg0 (w := _) [] [] 18 ?_
  simp only [numbered, List.take_succ_cons, List.take_zero, List.drop_succ_cons, List.drop_zero, List.take_nil, List.drop_nil, Nat.reduceAdd]
  (refine K32.zd ?_; (try go_simp))
  (refine K32.zd ?_; (try go_simp))
  (refine K32.zd ?_; (try go_simp))
  (refine K32.zd ?_; (try go_simp))
  (refine K32.zd ?_; (try go_simp))
  (refine K32.zd ?_; (try go_simp))
  (refine K32.zd ?_; (try go_simp))
  (refine K32.zd ?_; (try go_simp))
  (refine K32.zd ?_; (try go_simp))
  (refine K32.zd ?_; (try go_simp))
  (refine K32.zd ?_; (try go_simp))
  (refine K32.zd ?_; (try go_simp))
  (refine K32.zd ?_; (try go_simp))
  (refine K32.zd ?_; (try go_simp))
  (refine K32.zd ?_; (try go_simp))
  (refine K32.zd ?_; (try go_simp))
  (refine K32.zd ?_; (try go_simp))
  (refine K32.zd ?_; (try go_simp))
  refine wz_nil ?_
  intro wq hbq hLq
  clear hLq 
  have hcwq := cellA hbq
  have hfwq := frozA hbq
  have hzwq := hbq.size
  (try simp at hzwq)
  go_wp2_with fail
  go_ret
  exact ⟨ret_slc2 (by first | rfl | simp) (by rw [HE.out]; omega) (by first | rfl | simp), hb1.trans (hbq.mono hb1.size)⟩
theorem rows_any (b gb gc : Nat) (g : Gr) (top bottom : Int) (w : World) (h : GrAt w b gb gc g) (ok : GrOk g) (hgc : g.c.length ≤ gc) (hgm : gc ≤ 9223372036854775807) :
    Calls Tryz.prog 137 #[.pointer (some ⟨b, 0, none⟩), .int .i64 top, .int .i64 bottom] w fun e w' => e = .returned (rowsV g gb gc top bottom) ∧ Below w.heap.size w w' := by
  unfold rowsV
  by_cases a : top < 0
  · rw [show max top 0 = 0 by omega]
    by_cases c : bottom ≤ g.h
    · rw [Int.min_eq_left c]
      by_cases hx : bottom ≤ 0
      · rw [if_pos hx]; exact rowsN00 b gb gc g top bottom w h a c hx
      · rw [if_neg hx]; exact rowsY00 b gb gc g top bottom w h ok hgc hgm a c (by omega)
    · rw [Int.min_eq_right (by omega)]
      by_cases hx : g.h ≤ 0
      · rw [if_pos hx]; exact rowsN01 b gb gc g top bottom w h a (by omega) hx
      · rw [if_neg hx]; exact rowsY01 b gb gc g top bottom w h ok hgc hgm a (by omega) (by omega)
  · rw [show max top 0 = top by omega]
    by_cases c : bottom ≤ g.h
    · rw [Int.min_eq_left c]
      by_cases hx : bottom ≤ top
      · rw [if_pos hx]; exact rowsN10 b gb gc g top bottom w h (by omega) c hx
      · rw [if_neg hx]; exact rowsY10 b gb gc g top bottom w h ok hgc hgm (by omega) c (by omega)
    · rw [Int.min_eq_right (by omega)]
      by_cases hx : g.h ≤ top
      · rw [if_pos hx]; exact rowsN11 b gb gc g top bottom w h (by omega) (by omega) hx
      · rw [if_neg hx]; exact rowsY11 b gb gc g top bottom w h ok hgc hgm (by omega) (by omega) (by omega)
end Go.Proofs.YtnjgnbdebkckfaaGreatDoor.G1
namespace Go.Proofs.YtnjgnbdebkckfaaGreatDoor.G2
set_option maxRecDepth 100000
open Go.RowKit K1 K3 K5 K11 K12 K14 K20 K21 K22 K25 K30 K31 M0 C1 G1
attribute [local go_sem] cell_pastA froz_pastA
theorem splice_two {α : Type} (L : List α) (o : Nat) (m m2 : List α) (h : o + m.length + m2.length ≤ L.length) : splice (splice L o m) (o + m.length) m2 = splice L o (m ++ m2) := by
  unfold splice
  apply List.ext_getElem?
  intro i
  simp only [List.getElem?_append, List.getElem?_take, List.getElem?_drop, List.length_append, List.length_take, List.length_drop]
  have e1 : min o L.length = o := by omega
  have e2 : min (o + m.length) (o + (m.length + (L.length - (o + m.length)))) = o + m.length := by omega
  simp only [e1, e2]
  by_cases a1 : i < o
  · have : i < o + m.length := by omega
    simp [a1, this]
  · by_cases a2 : i < o + m.length
    · have b1 : i - o < m.length := by omega
      simp [a1, a2, b1]
      intro h2; omega
    · by_cases a3 : i < o + m.length + m2.length
      · have b1 : ¬ i - o < m.length := by omega
        have b2 : i - (o + m.length) < m2.length := by omega
        have b3 : i - o < m.length + m2.length := by omega
        have b4 : i - o - m.length = i - (o + m.length) := by omega
        simp [a1, a2, b1, b2, b3, b4]
      · have b1 : ¬ i - o < m.length := by omega
        have b2 : ¬ i - (o + m.length) < m2.length := by omega
        have b3 : ¬ i - o < m.length + m2.length := by omega
        have b5 : ¬ (o + m.length + m2.length + (i - (o + m.length) - m2.length) < o) := by omega
        have b6 : ¬ (o + m.length + m2.length + (i - (o + m.length) - m2.length) - o < m.length) := by omega
        simp only [a1, a2, b1, b2, b3, b5, b6, if_false]
        congr 1
        omega
theorem set6 {α : Type} (L : List α) (a : Nat) (v0 v1 v2 v3 v4 v5 : α) (h : a + 6 ≤ L.length) :
    (((((L.set a v0).set (a + 1) v1).set (a + 2) v2).set (a + 3) v3).set (a + 4) v4).set (a + 5) v5 = splice L a [v0, v1, v2, v3, v4, v5] := by
  unfold splice
  apply List.ext_getElem?
  intro i
  simp only [List.getElem?_append, List.getElem?_take, List.getElem?_drop, List.length_take, List.getElem?_set, List.length_set, List.length_cons, List.length_nil]
  have e1 : min a L.length = a := by omega
  simp only [e1]
  by_cases a1 : i < a
  · rw [if_neg (by omega), if_neg (by omega), if_neg (by omega), if_neg (by omega), if_neg (by omega), if_neg (by omega), if_pos a1, if_pos a1]
  · rw [if_neg a1]
    by_cases a2 : i < a + 6
    · rcases (show i = a ∨ i = a + 1 ∨ i = a + 2 ∨ i = a + 3 ∨ i = a + 4 ∨ i = a + 5 by omega) with rfl | rfl | rfl | rfl | rfl | rfl
      all_goals simp
      all_goals omega
    · rw [if_neg (by omega), if_neg (by omega), if_neg (by omega), if_neg (by omega), if_neg (by omega), if_neg (by omega), if_neg (by omega)]
      congr 1
      omega
def repC (k : Nat) (c : Ce) : List Value := (List.replicate k c).flatMap ceV
theorem repC_len (k : Nat) (c : Ce) : (repC k c).length = k * 6 := by
  induction k with
  | zero => rfl
  | succ k ih => unfold repC at *; rw [List.replicate_succ, List.flatMap_cons, List.length_append, ih]; simp [ceV]; omega
theorem repC_succ (k : Nat) (c : Ce) : repC (k + 1) c = repC k c ++ ceV c := by
  unfold repC
  rw [List.replicate_succ', List.flatMap_append]
  simp
structure FillI (gb N gc o n : Nat) (xs : List Value) (c : Ce) (B : Nat) (F : List Res) (v : Value) (wr : World) : Prop where
  out : ∃ k : Nat, k ≤ n ∧ v = .int .i64 k ∧ Sep wr (.row (.slice (some ⟨gb, 0, none⟩) N gc) 58 6 N (splice xs o (repC k c)) :: .blk B (ceV c) 58 :: F)
attribute [local go_sem] ceV
set_option maxHeartbeats 4000000 in
theorem fill_any (gb N gc o n cap : Nat) (ad : Option Addr) (xs : List Value) (c : Ce) (F : List Res) (w : World) (hs : Sep w (.row (.slice (some ⟨gb, 0, none⟩) N gc) 58 6 N xs :: F)) (ha : n = 0 ∨ ad = some ⟨gb, o, none⟩) (hf : o + n * 6 ≤ N * 6) (hn : n ≤ 1000000) :
    Calls Tryz.prog 76 #[.slice ad n cap, ceA c] w fun e w' => e = .returned (.tuple #[]) ∧ Sep w' (.row (.slice (some ⟨gb, 0, none⟩) N gc) 58 6 N (splice xs o (repC n c)) :: F) := by
  have hxl : xs.length = N * 6 := (hs.rowAt 0 rfl).1
  have HS := Lib.hid hs
  have HX := Lib.hid hxl
  clear hs hxl
  go_enter Tryz.func76, Tryz.ntmps76
  go_wp2_with fail
  (with_reducible apply K30.wp_at)
  exact K32.fndG
  intro xw hs
  (try simp only [World.size_alloc, World.size_setCell] at hs)
  have hs2 := hs.perm (List.Perm.swap _ _ _)
  have HS0 := Lib.hid hs2
  clear hs hs2 HS
  go_loopw [7] (fun v wr => FillI gb N gc o n xs c w.heap.size F v wr) (fun v _ => n - (intOf v).toNat)
  case atStart => exact ⟨0, Nat.zero_le _, rfl, by rw [show splice xs o (repC 0 c) = xs by simp [repC, splice]]; exact HS0.out⟩
  case round =>
    obtain ⟨⟨k, hk, rfl, hs⟩⟩ := hrel
    (try clear hcB hzB hlB); obtain ⟨hcB, hzB, hlB⟩ := hs.here (b := w.heap.size) K32.rm
    have hrl := repC_len k c
    have hsl : (splice xs o (repC k c)).length = N * 6 := by rw [length_splice _ _ _ (by rw [hrl, HX.out]; omega), HX.out]
    have HRL := Lib.hid hrl
    have HSL := Lib.hid hsl
    have HS := Lib.hid hs
    obtain ⟨hcR, hzR, hlR, -, -⟩ := K30.row_cells (hs.rowAt 0 rfl)
    clear hs hrl hsl
    by_cases hlt : k < n
    · obtain rfl : ad = some ⟨gb, o, none⟩ := ha.resolve_left (by omega)
      have hex : ∀ j, j < 6 → ∃ u, wr.cell? ⟨gb, o + k * 6 + j, none⟩ = some u := fun j hj => by
        rw [hcR _ (by omega)]
        exact ⟨_, List.getElem?_eq_getElem (by rw [HSL.out]; omega)⟩
      obtain ⟨u0, hu0⟩ := hex 0 (by omega)
      obtain ⟨u1, hu1⟩ := hex 1 (by omega)
      obtain ⟨u2, hu2⟩ := hex 2 (by omega)
      obtain ⟨u3, hu3⟩ := hex 3 (by omega)
      obtain ⟨u4, hu4⟩ := hex 4 (by omega)
      obtain ⟨u5, hu5⟩ := hex 5 (by omega)
      simp only [Nat.add_zero] at hu0
      clear hcR hex ha
      go_wp2_with fail
      go_roundw
      case rel =>
        refine ⟨⟨k + 1, by omega, by go_num, ?_⟩⟩
        (with_reducible apply K30.sep_end)
        exact K32.fndG
        intro hs
        rw [set6 _ _ _ _ _ _ _ _ (by rw [HSL.out]; omega)] at hs
        have e := splice_two xs o (repC k c) (ceV c) (by rw [HRL.out, HX.out]; simp [ceV]; omega)
        rw [HRL.out, ← repC_succ] at e
        rw [← e]
        exact hs
      case measure => simp [intOf]; omega
    · obtain rfl : k = n := by omega
      clear hcR
      go_wp2_with fail
      go_end0
      exact ⟨rfl, HS.out.drop 1⟩
end Go.Proofs.YtnjgnbdebkckfaaGreatDoor.G2
