/- ME, MF, S3, S4 -/
import Derived.Test.YtnjgnbdebkckfaaGreatDoorA3
import Derived.Test.YtnjgnbdebkckfaaGreatDoorA6
import Derived.Test.YtnjgnbdebkckfaaGreatDoorA7
import Derived.Test.YtnjgnbdebkckfaaGreatDoorA8
import Derived.Lib.Hide
set_option linter.unusedVariables false
set_option linter.unusedSimpArgs false
set_option linter.unnecessarySimpa false
namespace Go.Proofs.YtnjgnbdebkckfaaGreatDoor.ME
open Go.RowKit M0
/- stops -/
structure St where
  w : Nat
  f : Nat → Bool
def stopsF (w : Int) : St := ⟨(S2.newC w).toNat, S2.newF (S2.newC w).toNat⟩
def nextS (s : St) (x : Int) : Int := S2.nextF s.w s.f x
def setS (s : St) (x : Int) (is : Bool) : St := if 0 ≤ x ∧ x < s.w then { s with f := S2.upd s.f x.toNat is } else s
def noneS (s : St) : St := { s with f := fun i => if i < s.w then false else s.f i }
abbrev mapF (set r : Int) : Int := S1.mapF set r
def knownB (b : Int) : Bool := b == 66 || b == 65 || b == 48
/- the terminal -/
structure Cu where
  x : Int
  y : Int
  pen : At
  origin : Bool
  s0 : Int
  s1 : Int
  use : Int
structure Em where
  cu : Cu
  kept : Cu
  alt : Bool
  top : Int
  bottom : Int
  wrap : Bool
  ins : Bool
  hidden : Bool
  late : Bool
/-- all that a terminal is, but for its parser and what it replies -/
structure Te where
  m : Em
  g : Gr
  o : Gr
  s : St
def cu0 : Cu := ⟨0, 0, At.zero, false, 66, 66, 0⟩
def newE (w h : Int) : Te := ⟨⟨cu0, cu0, false, 0, (newG w h).h, true, false, false, false⟩, newG w h, newG w h, stopsF (newG w h).w⟩
/-- the grid that is shown -/
def Te.cg (t : Te) : Gr := if t.m.alt = true then t.o else t.g
def Te.setCg (t : Te) (g : Gr) : Te := if t.m.alt = true then { t with o := g } else { t with g := g }
def Te.pen (t : Te) : Ce := blankC t.m.cu.pen
def Te.setX (t : Te) (x : Int) : Te := { t with m := { t.m with cu := { t.m.cu with x := x } } }
def Te.setY (t : Te) (y : Int) : Te := { t with m := { t.m with cu := { t.m.cu with y := y } } }
def Te.setLate (t : Te) (b : Bool) : Te := { t with m := { t.m with late := b } }
def indexE (t : Te) : Te :=
  if t.m.cu.y = t.m.bottom - 1 then t.setCg (upG t.cg t.m.top t.m.bottom 1 t.pen) else if t.m.cu.y < t.cg.h - 1 then t.setY (t.m.cu.y + 1) else t
def reverseE (t : Te) : Te :=
  if t.m.cu.y = t.m.top then t.setCg (downG t.cg t.m.top t.m.bottom 1 t.pen) else if 0 < t.m.cu.y then t.setY (t.m.cu.y - 1) else t
def useSet (t : Te) : Int := if t.m.cu.use = 0 then t.m.cu.s0 else t.m.cu.s1
def wrapE (t : Te) : Te := if t.m.late = true ∧ t.m.wrap = true then indexE (t.setX 0) else t
def insE (t : Te) : Te := if t.m.ins = true then t.setCg (rightG t.cg t.m.cu.x t.m.cu.y 1 t.pen) else t
def putE (t : Te) (r : Int) : Te := t.setCg (setG t.cg t.m.cu.x t.m.cu.y [⟨r, t.m.cu.pen⟩])
def lastE (t : Te) : Te := if t.m.cu.x = t.cg.w - 1 then t.setLate t.m.wrap else (t.setLate false).setX (t.m.cu.x + 1)
def runeE (t : Te) (r : Int) : Int := if r < 128 then mapF (useSet t) r else r
def printE (t : Te) (r : Int) : Te := lastE (putE (insE (wrapE t)) (runeE (wrapE t) r))
def controlE (t : Te) (b : Int) : Te :=
  if b = 8 then (t.setLate false).setX (max (t.m.cu.x - 1) 0)
  else if b = 9 then (t.setLate false).setX (min (nextS t.s t.m.cu.x) (t.cg.w - 1))
  else if b = 10 ∨ b = 11 ∨ b = 12 then indexE (t.setLate false)
  else if b = 13 then (t.setLate false).setX 0
  else if b = 14 then { t with m := { t.m with cu := { t.m.cu with use := 1 } } }
  else if b = 15 then { t with m := { t.m with cu := { t.m.cu with use := 0 } } } else t
def saveE (t : Te) : Te := { t with m := { t.m with kept := t.m.cu } }
def withinE (t : Te) : Te := { t with m := { t.m with cu := { t.m.cu with x := min t.m.cu.x (t.cg.w - 1), y := min t.m.cu.y (t.cg.h - 1) } } }
def restoreE (t : Te) : Te := withinE { t with m := { t.m with cu := t.m.kept, late := false } }
def resetE (t : Te) : Te := newE t.g.w t.g.h
def setE (t : Te) (which b : Int) : Te :=
  if 0 ≤ b ∧ b < 256 ∧ knownB b = true then { t with m := { t.m with cu := if which = 0 then { t.m.cu with s0 := b } else { t.m.cu with s1 := b } } } else t
def setStops (t : Te) (s : St) : Te := { t with s := s }
def plainE (t : Te) (b : Int) : Te :=
  if b = 55 then saveE t else if b = 56 then restoreE t else if b = 72 then { t with s := setS t.s t.m.cu.x true } else if b = 99 then resetE t
  else if b = 68 then indexE (t.setLate false) else if b = 69 then indexE ((t.setLate false).setX 0) else if b = 77 then reverseE (t.setLate false) else t
def escapeE (t : Te) (inter : List UInt8) (b : Int) : Te := if inter = [] then plainE t b else if inter = [40] then setE t 0 b else if inter = [41] then setE t 1 b else t
def atN (l : List Int) (k : Nat) : Int := l.getD k (-1)
def countN (l : List Int) (k : Nat) : Int := max (atN l k) 1
def upE (t : Te) (n : Int) : Te := if t.m.top ≤ t.m.cu.y then t.setY (max (t.m.cu.y - n) t.m.top) else t.setY (max (t.m.cu.y - n) 0)
def lastRow (t : Te) : Int := if t.m.cu.y < t.m.bottom then t.m.bottom - 1 else t.cg.h - 1
def downE (t : Te) (n : Int) : Te := t.setY (min t.m.cu.y (lastRow t) + min n (lastRow t - min t.m.cu.y (lastRow t)))
def rowE (t : Te) (k : Int) : Te := if t.m.cu.origin = true then t.setY (min k (t.m.bottom - 1 - t.m.top) + t.m.top) else t.setY (min k (t.cg.h - 1))
def columnE (t : Te) (k : Int) : Te := t.setX (min k (t.cg.w - 1))
/-- the moves; none: it is none of these -/
def moveE (t : Te) (b n m : Int) : Option Te :=
  if b = 65 then some (upE t n) else if b = 66 then some (downE t n)
  else if b = 67 then some (t.setX (t.m.cu.x + min n (t.cg.w - 1 - t.m.cu.x))) else if b = 68 then some (t.setX (max (t.m.cu.x - n) 0))
  else if b = 69 then some ((downE t n).setX 0) else if b = 70 then some ((upE t n).setX 0)
  else if b = 71 then some (columnE t (n - 1)) else if b = 100 then some (rowE t (n - 1))
  else if b = 72 ∨ b = 102 then some (columnE (rowE t (n - 1)) (m - 1)) else none
def fillE (t : Te) (a b : Int) : Te := t.setCg (fillG t.cg a b t.pen)
def eraseE (t : Te) (how a b : Int) : Te :=
  if how = -1 ∨ how = 0 then (fillE t (t.m.cu.y * t.cg.w + t.m.cu.x) b).setLate false
  else if how = 1 then (fillE t a (t.m.cu.y * t.cg.w + t.m.cu.x + 1)).setLate false
  else if how = 2 then (fillE t a b).setLate false else t
def rowsE (t : Te) (ins : Bool) (n : Int) : Te :=
  if t.m.cu.y < t.m.top ∨ t.m.bottom ≤ t.m.cu.y then t
  else ((if ins = true then t.setCg (downG t.cg t.m.cu.y t.m.bottom n t.pen) else t.setCg (upG t.cg t.m.cu.y t.m.bottom n t.pen)).setX 0).setLate false
def editE (t : Te) (b : Int) (l : List Int) : Option Te :=
  if b = 74 then some (eraseE t (atN l 0) 0 (t.cg.w * t.cg.h))
  else if b = 75 then some (eraseE t (atN l 0) (t.m.cu.y * t.cg.w) (t.m.cu.y * t.cg.w + t.cg.w))
  else if b = 76 then some (rowsE t true (countN l 0)) else if b = 77 then some (rowsE t false (countN l 0))
  else if b = 88 then some ((fillE t (t.m.cu.y * t.cg.w + t.m.cu.x) (t.m.cu.y * t.cg.w + t.m.cu.x + min (countN l 0) (t.cg.w - t.m.cu.x))).setLate false)
  else if b = 64 then some ((t.setCg (rightG t.cg t.m.cu.x t.m.cu.y (countN l 0) t.pen)).setLate false)
  else if b = 80 then some ((t.setCg (leftG t.cg t.m.cu.x t.m.cu.y (countN l 0) t.pen)).setLate false)
  else if b = 83 then some ((t.setCg (upG t.cg t.m.top t.m.bottom (countN l 0) t.pen)).setLate false)
  else if b = 84 then some ((t.setCg (downG t.cg t.m.top t.m.bottom (countN l 0) t.pen)).setLate false) else none
def homeE (t : Te) : Te := { t with m := { t.m with cu := { t.m.cu with x := 0, y := if t.m.cu.origin = true then t.m.top else 0 }, late := false } }
def regionE (t : Te) (l : List Int) : Te :=
  if countN l 0 - 1 < (if atN l 1 < 1 ∨ t.cg.h < atN l 1 then t.cg.h else atN l 1) - 1 then
    homeE { t with m := { t.m with top := countN l 0 - 1, bottom := if atN l 1 < 1 ∨ t.cg.h < atN l 1 then t.cg.h else atN l 1 } } else t
def digN : Nat → Nat → List UInt8
  | 0, _ => []
  | k + 1, n => if n < 10 then [UInt8.ofNat (48 + n)] else digN k (n / 10) ++ [UInt8.ofNat (48 + n % 10)]
def digF (n : Int) : List UInt8 := digN 20 n.toNat
def repY (t : Te) : Int := if t.m.cu.origin = true then max (t.m.cu.y - t.m.top) 0 else t.m.cu.y
def reportR (t : Te) (n : Int) : List UInt8 :=
  if n = 5 then [27, 91, 48, 110] else if n = 6 then [27, 91] ++ digF (repY t + 1) ++ [59] ++ digF (t.m.cu.x + 1) ++ [82] else []
def stateE (t : Te) (b : Int) (l : List Int) : Te :=
  if b = 103 then (if atN l 0 = -1 ∨ atN l 0 = 0 then { t with s := setS t.s t.m.cu.x false } else if atN l 0 = 3 then { t with s := noneS t.s } else t)
  else if b = 114 then regionE t l
  else if b = 109 then { t with m := { t.m with cu := { t.m.cu with pen := sgrF t.m.cu.pen l } } }
  else if b = 104 ∨ b = 108 then (if 4 ∈ l then { t with m := { t.m with ins := decide (b = 104) } } else t)
  else if b = 115 then saveE t else if b = 117 then restoreE t else t
/-- what is replied -/
def stateR (t : Te) (b : Int) (l : List Int) : List UInt8 :=
  if b = 110 then reportR t (atN l 0) else if b = 99 ∧ atN l 0 < 1 then [27, 91, 63, 49, 59, 50, 99] else []
def swapE (t : Te) (on : Bool) : Te :=
  if on = t.m.alt then t
  else if on = false then restoreE { t with m := { t.m with late := false, alt := on } }
  else
    let u := saveE { t with m := { t.m with late := false, alt := on } }
    u.setCg (fillG u.cg 0 (u.cg.w * u.cg.h) u.pen)
def privE (t : Te) (n : Int) (on : Bool) : Te :=
  if n = 6 then homeE { t with m := { t.m with cu := { t.m.cu with origin := on } } }
  else if n = 7 then { t with m := { t.m with wrap := on } }
  else if n = 25 then { t with m := { t.m with hidden := !on } }
  else if n = 1049 then swapE t on else t
def csiE (t : Te) (a : Ac) : Te :=
  if a.inter ≠ [] then t
  else if a.mark = 0 then
    match moveE t a.byte (countN a.nums 0) (countN a.nums 1) with
    | some u => u.setLate false
    | none => match editE t a.byte a.nums with
      | some u => u
      | none => stateE t a.byte a.nums
  else if a.mark = 63 ∧ (a.byte = 104 ∨ a.byte = 108) then a.nums.foldl (fun t n => privE t n (decide (a.byte = 104))) t
  else t
def csiR (t : Te) (a : Ac) : List UInt8 := if a.inter = [] ∧ a.mark = 0 then stateR t a.byte a.nums else []
def actR (t : Te) (a : Ac) : List UInt8 := if a.kind = 4 then csiR t a else []
def actE1 (t : Te) (a : Ac) : Te :=
  if a.kind = 1 then printE t a.rune else if a.kind = 2 then controlE t a.byte else if a.kind = 3 then escapeE t a.inter a.byte else if a.kind = 4 then csiE t a else t
def actsE (t : Te) : List Ac → List UInt8 × Te
  | [] => ([], t)
  | a :: l => (actR t a ++ (actsE (actE1 t a) l).1, (actsE (actE1 t a) l).2)
/-- the terminal and its parser -/
structure Tm where
  t : Te
  p : Pg
def newT (w h : Int) : Tm := ⟨newE w h, Pg.zero⟩
def feedT (m : Tm) (s : List UInt8) : List UInt8 × Tm := ((actsE m.t (feedP m.p s).1).1, ⟨(actsE m.t (feedP m.p s).1).2, (feedP m.p s).2⟩)
def sizeE (t : Te) (w h : Int) : Te :=
  { withinE { t with g := sizeG t.g w h, o := sizeG t.o w h, m := { t.m with top := 0, bottom := endH h, late := false } } with s := stopsF (endW w) }
def sizeT (m : Tm) (w h : Int) : Tm := ⟨sizeE m.t w h, m.p⟩
end Go.Proofs.YtnjgnbdebkckfaaGreatDoor.ME
namespace Go.Proofs.YtnjgnbdebkckfaaGreatDoor.MF
open Go.RowKit M0 ME G1 G2 G3 G4 G5 G8 G9 G11 P6 K31 K20
structure AtOk (a : At) : Prop where
  f0 : 0 ≤ a.fg
  f1 : a.fg ≤ 16
  b0 : 0 ≤ a.bg
  b1 : a.bg ≤ 16
theorem zero_ok : AtOk At.zero := ⟨by decide, by decide, by decide, by decide⟩
structure CeOk (c : Ce) : Prop where
  r0 : 0 ≤ c.r
  r1 : c.r ≤ 1114111
  a : AtOk c.a
theorem blank_ok {a : At} (h : AtOk a) : CeOk (blankC a) := ⟨by show (0 : Int) ≤ 32; decide, by show (32 : Int) ≤ 1114111; decide, ⟨by show (0 : Int) ≤ 0; decide, by show (0 : Int) ≤ 16; decide, h.b0, h.b1⟩⟩
theorem color_ok (n f : Int) : 0 ≤ (colorF n f).1 ∧ (colorF n f).1 ≤ 16 := by
  unfold colorF
  split
  · simp only; omega
  · split
    · simp only; omega
    · split <;> exact ⟨by decide, by decide⟩
theorem one_ok {a : At} (h : AtOk a) (n : Int) : AtOk (oneF a n) := by
  unfold oneF
  repeat' split
  all_goals first | exact h | exact zero_ok | exact ⟨h.f0, h.f1, h.b0, h.b1⟩ | exact ⟨(color_ok n 30).1, (color_ok n 30).2, h.b0, h.b1⟩ | exact ⟨h.f0, h.f1, (color_ok n 40).1, (color_ok n 40).2⟩
theorem wide_ok {a : At} (h : AtOk a) (l : List Int) : AtOk (wideF a l).1 := by
  unfold wideF
  repeat' split
  all_goals first | exact h | (rename_i hh _; exact ⟨by show 0 ≤ l.getD 2 0 + 1; omega, by show l.getD 2 0 + 1 ≤ 16; omega, h.b0, h.b1⟩) | (rename_i hh _; exact ⟨h.f0, h.f1, by show 0 ≤ l.getD 2 0 + 1; omega, by show l.getD 2 0 + 1 ≤ 16; omega⟩)
theorem sgrG_ok : ∀ (k : Nat) {a : At} (_ : AtOk a) (l : List Int), AtOk (sgrG k a l)
  | 0, a, h, l => h
  | k + 1, a, h, [] => h
  | k + 1, a, h, n :: l => by
    unfold sgrG
    split
    · exact sgrG_ok k (wide_ok h _) _
    · exact sgrG_ok k (one_ok h n) _
theorem sgr_ok {a : At} (h : AtOk a) (l : List Int) : AtOk (sgrF a l) := by
  unfold sgrF
  split
  · exact zero_ok
  · exact sgrG_ok _ h l
/- grids -/
theorem mem_splice {α : Type} {l m : List α} {o : Nat} {x : α} (h : x ∈ splice l o m) : x ∈ l ∨ x ∈ m := by
  unfold splice at h
  rw [List.mem_append, List.mem_append] at h
  rcases h with h | h | h
  · exact .inl (List.mem_of_mem_take h)
  · exact .inr h
  · exact .inl (List.mem_of_mem_drop h)
theorem mem_segm {α : Type} {l : List α} {o n : Nat} {x : α} (h : x ∈ segm l o n) : x ∈ l := List.mem_of_mem_drop (List.mem_of_mem_take h)
theorem mem_less {α : Type} {l : List α} {n : Nat} {c x : α} (h : x ∈ lessL l n c) : x ∈ l ∨ x = c := by
  unfold lessL at h
  rw [List.mem_append] at h
  rcases h with h | h
  · exact .inl (List.mem_of_mem_drop h)
  · exact .inr (List.eq_of_mem_replicate h)
theorem mem_more {α : Type} {l : List α} {n : Nat} {c x : α} (h : x ∈ moreL l n c) : x ∈ l ∨ x = c := by
  unfold moreL at h
  rw [List.mem_append] at h
  rcases h with h | h
  · exact .inr (List.eq_of_mem_replicate h)
  · exact .inl (List.mem_of_mem_take h)
/-- a grid that has other cells, of its own or just c -/
structure GOp (g g' : Gr) (c : Ce) : Prop where
  w : g'.w = g.w
  h : g'.h = g.h
  len : g'.c.length = g.c.length
  mem : ∀ x ∈ g'.c, x ∈ g.c ∨ x = c
theorem rowsO_le {g : Gr} (ok : GrOk g) (a b : Int) : (rowsO g a b).1 + (rowsO g a b).2 ≤ g.c.length := by
  unfold rowsO
  split
  · exact Nat.zero_le _
  · have h1 := ok.mul (y := max a 0) (by omega) (by omega)
    have h2 := ok.mul (y := min b g.h) (by omega) (by omega)
    have h3 : (min b g.h - max a 0) * g.w = min b g.h * g.w - max a 0 * g.w := Int.sub_mul _ _ _
    simp only [h3]
    omega
theorem rowO_le {g : Gr} (ok : GrOk g) (x y : Int) : (rowO g x y).1 + (rowO g x y).2 ≤ g.c.length := by
  unfold rowO
  split
  · exact Nat.zero_le _
  · have := ok.rowEnd (x := x) (y := y) (by omega) (by omega) (by omega) (by omega)
    simp only
    omega
theorem many_le (g : Gr) (n : Nat) (k : Int) : manyF g n k ≤ n := by unfold manyF; exact Nat.min_le_right _ _
theorem splice_op {g : Gr} (o : Nat) (m : List Ce) (c : Ce) (hl : o + m.length ≤ g.c.length) (hm : ∀ x ∈ m, x ∈ g.c ∨ x = c) : GOp g { g with c := splice g.c o m } c :=
  ⟨rfl, rfl, length_splice _ _ _ hl, fun x hx => (mem_splice hx).elim .inl (hm x)⟩
theorem less_op {g : Gr} (o n k : Nat) (c : Ce) (hl : o + n ≤ g.c.length) (hk : k ≤ n) : GOp g { g with c := splice g.c o (lessL (segm g.c o n) k c) } c :=
  splice_op o _ c (by rw [less_len _ _ _ (by rw [segm_len _ _ _ hl]; exact hk), segm_len _ _ _ hl]; exact hl) (fun x hx => (mem_less hx).elim (fun h => .inl (mem_segm h)) .inr)
theorem more_op {g : Gr} (o n k : Nat) (c : Ce) (hl : o + n ≤ g.c.length) (hk : k ≤ n) : GOp g { g with c := splice g.c o (moreL (segm g.c o n) k c) } c :=
  splice_op o _ c (by rw [more_len _ _ _ (by rw [segm_len _ _ _ hl]; exact hk), segm_len _ _ _ hl]; exact hl) (fun x hx => (mem_more hx).elim (fun h => .inl (mem_segm h)) .inr)
theorem up_op {g : Gr} (ok : GrOk g) (a b n : Int) (c : Ce) : GOp g (upG g a b n c) c := less_op _ _ _ c (rowsO_le ok a b) (many_le _ _ _)
theorem down_op {g : Gr} (ok : GrOk g) (a b n : Int) (c : Ce) : GOp g (downG g a b n c) c := more_op _ _ _ c (rowsO_le ok a b) (many_le _ _ _)
theorem right_op {g : Gr} (ok : GrOk g) (x y n : Int) (c : Ce) : GOp g (rightG g x y n c) c := more_op _ _ _ c (rowO_le ok x y) (Nat.min_le_right _ _)
theorem left_op {g : Gr} (ok : GrOk g) (x y n : Int) (c : Ce) : GOp g (leftG g x y n c) c := less_op _ _ _ c (rowO_le ok x y) (Nat.min_le_right _ _)
theorem fill_op {g : Gr} (ok : GrOk g) (a b : Int) (c : Ce) : GOp g (fillG g a b c) c := by
  unfold fillG
  split
  · exact splice_op _ _ c (by rw [List.length_replicate]; omega) (fun x hx => .inr (List.eq_of_mem_replicate hx))
  · exact ⟨rfl, rfl, rfl, fun x hx => .inl hx⟩
theorem set_op {g : Gr} (ok : GrOk g) (x y : Int) (c : Ce) : GOp g (setG g x y [c]) c := by
  unfold setG
  refine splice_op _ _ c ?_ (fun x hx => .inr (by simpa using List.mem_of_mem_take hx))
  have := rowO_le ok x y
  rw [List.length_take]
  omega
theorem GOp.ok {g g' : Gr} {c : Ce} (h : GOp g g' c) (ok : GrOk g) : GrOk g' :=
  ⟨by rw [h.w]; exact ok.w2, by rw [h.w]; exact ok.w40, by rw [h.h]; exact ok.h1, by rw [h.h]; exact ok.h20, by rw [h.len, h.w, h.h]; exact ok.len⟩
theorem size_mem (g : Gr) (x y : Int) (k : Nat) : ∀ c ∈ (sizeK g x y k).c, c ∈ g.c ∨ c = blankC At.zero := by
  induction k with
  | zero => intro c hc; exact .inr (List.eq_of_mem_replicate hc)
  | succ k ih =>
    intro c hc
    rw [sizeK_succ] at hc
    rcases mem_splice hc with h | h
    · exact ih c h
    · exact .inl (mem_segm (List.mem_of_mem_take h))
/- the terminal -/
structure CuOk (c : Cu) : Prop where
  x0 : 0 ≤ c.x
  x1 : c.x ≤ 39
  y0 : 0 ≤ c.y
  y1 : c.y ≤ 19
  pen : AtOk c.pen
  s0 : knownB c.s0 = true
  s1 : knownB c.s1 = true
  use : c.use = 0 ∨ c.use = 1
structure TeOk (t : Te) : Prop where
  g : GrOk t.g
  o : GrOk t.o
  ow : t.o.w = t.g.w
  oh : t.o.h = t.g.h
  gc : ∀ c ∈ t.g.c, CeOk c
  oc : ∀ c ∈ t.o.c, CeOk c
  s : (t.s.w : Int) = t.g.w
  cu : CuOk t.m.cu
  kept : CuOk t.m.kept
  xw : t.m.cu.x < t.g.w
  yh : t.m.cu.y < t.g.h
  top : 0 ≤ t.m.top
  tb : t.m.top < t.m.bottom
  bh : t.m.bottom ≤ t.g.h
/-- the grid that is not shown -/
def _root_.Go.Proofs.YtnjgnbdebkckfaaGreatDoor.ME.Te.og (t : Te) : Gr := if t.m.alt = true then t.g else t.o
theorem TeOk.cg {t : Te} (h : TeOk t) : GrOk t.cg := by unfold Te.cg; split <;> first | exact h.o | exact h.g
theorem TeOk.og {t : Te} (h : TeOk t) : GrOk t.og := by unfold Te.og; split <;> first | exact h.o | exact h.g
theorem TeOk.cw {t : Te} (h : TeOk t) : t.cg.w = t.g.w := by unfold Te.cg; split <;> first | exact h.ow | rfl
theorem TeOk.ch {t : Te} (h : TeOk t) : t.cg.h = t.g.h := by unfold Te.cg; split <;> first | exact h.oh | rfl
theorem TeOk.xc {t : Te} (h : TeOk t) : t.m.cu.x < t.cg.w := by rw [h.cw]; exact h.xw
theorem TeOk.yc {t : Te} (h : TeOk t) : t.m.cu.y < t.cg.h := by rw [h.ch]; exact h.yh
theorem TeOk.bc {t : Te} (h : TeOk t) : t.m.bottom ≤ t.cg.h := by rw [h.ch]; exact h.bh
theorem TeOk.cc {t : Te} (h : TeOk t) : ∀ c ∈ t.cg.c, CeOk c := by unfold Te.cg; split <;> first | exact h.oc | exact h.gc
theorem TeOk.pen {t : Te} (h : TeOk t) : CeOk t.pen := blank_ok h.cu.pen
theorem TeOk.st {t : Te} (h : TeOk t) : t.s.w ≤ 40 := by have := h.s; have := h.g.w40; omega
theorem ok_op {t : Te} (h : TeOk t) {g' : Gr} {c : Ce} (hg : GOp t.cg g' c) (hc : CeOk c) : TeOk (t.setCg g') := by
  have k := hg.ok h.cg
  have m : ∀ x ∈ g'.c, CeOk x := fun x hx => (hg.mem x hx).elim (h.cc x) (fun e => e ▸ hc)
  have w := hg.w.trans h.cw
  have hh := hg.h.trans h.ch
  unfold Te.setCg
  split
  · exact ⟨h.g, k, w, hh, h.gc, m, h.s, h.cu, h.kept, h.xw, h.yh, h.top, h.tb, h.bh⟩
  · exact ⟨k, h.o, h.ow.trans w.symm, h.oh.trans hh.symm, m, h.oc, h.s.trans w.symm, h.cu, h.kept, by rw [w]; exact h.xw, by rw [hh]; exact h.yh, h.top, h.tb, by rw [hh]; exact h.bh⟩
theorem ok_m {t : Te} (h : TeOk t) (m : Em) (hc : CuOk m.cu) (hk : CuOk m.kept) (hx : m.cu.x < t.g.w) (hy : m.cu.y < t.g.h) (h0 : 0 ≤ m.top) (h1 : m.top < m.bottom) (h2 : m.bottom ≤ t.g.h) : TeOk { t with m := m } :=
  ⟨h.g, h.o, h.ow, h.oh, h.gc, h.oc, h.s, hc, hk, hx, hy, h0, h1, h2⟩
theorem ok_x {t : Te} (h : TeOk t) {x : Int} (h0 : 0 ≤ x) (h1 : x < t.g.w) : TeOk (t.setX x) :=
  ok_m h _ ⟨h0, by have := h.g.w40; show x ≤ 39; omega, h.cu.y0, h.cu.y1, h.cu.pen, h.cu.s0, h.cu.s1, h.cu.use⟩ h.kept h1 h.yh h.top h.tb h.bh
theorem ok_y {t : Te} (h : TeOk t) {y : Int} (h0 : 0 ≤ y) (h1 : y < t.g.h) : TeOk (t.setY y) :=
  ok_m h _ ⟨h.cu.x0, h.cu.x1, h0, by have := h.g.h20; show y ≤ 19; omega, h.cu.pen, h.cu.s0, h.cu.s1, h.cu.use⟩ h.kept h.xw h1 h.top h.tb h.bh
theorem ok_late {t : Te} (h : TeOk t) (b : Bool) : TeOk (t.setLate b) := ok_m h _ h.cu h.kept h.xw h.yh h.top h.tb h.bh
theorem ok_s {t : Te} (h : TeOk t) (s : St) (hs : s.w = t.s.w) : TeOk { t with s := s } := ⟨h.g, h.o, h.ow, h.oh, h.gc, h.oc, by show (s.w : Int) = _; rw [hs]; exact h.s, h.cu, h.kept, h.xw, h.yh, h.top, h.tb, h.bh⟩
theorem cu0_ok : CuOk cu0 := ⟨by decide, by decide, by decide, by decide, zero_ok, by decide, by decide, .inl rfl⟩
theorem stops_w (w h : Int) : ((stopsF (newG w h).w).w : Int) = (newG w h).w := by
  have h1 := (newG_ok w h).w2; have h2 := (newG_ok w h).w40
  show ((S2.newC (newG w h).w).toNat : Int) = _
  unfold S2.newC
  omega
theorem new_ok (w h : Int) : TeOk (newE w h) := by
  have g := newG_ok w h
  have m : ∀ c ∈ (newG w h).c, CeOk c := fun c hc => (List.eq_of_mem_replicate hc) ▸ blank_ok zero_ok
  refine ⟨g, g, rfl, rfl, m, m, stops_w w h, cu0_ok, cu0_ok, ?_, ?_, Int.le_refl _, ?_, Int.le_refl _⟩
  · have := g.w2; show (0 : Int) < (newG w h).w; omega
  · have := g.h1; show (0 : Int) < (newG w h).h; omega
  · have := g.h1; show (0 : Int) < (newG w h).h; omega
theorem index_ok {t : Te} (h : TeOk t) : TeOk (indexE t) := by
  unfold indexE
  split
  · exact ok_op h (up_op h.cg _ _ _ _) h.pen
  · split
    · rename_i hh
      have := h.ch
      exact ok_y h (by have := h.cu.y0; omega) (by omega)
    · exact h
theorem reverse_ok {t : Te} (h : TeOk t) : TeOk (reverseE t) := by
  unfold reverseE
  split
  · exact ok_op h (down_op h.cg _ _ _ _) h.pen
  · split
    · exact ok_y h (by omega) (by have := h.yh; omega)
    · exact h
theorem wrap_ok {t : Te} (h : TeOk t) : TeOk (wrapE t) := by
  unfold wrapE
  split
  · exact index_ok (ok_x h (by decide) (by have := h.g.w2; omega))
  · exact h
theorem ins_ok {t : Te} (h : TeOk t) : TeOk (insE t) := by
  unfold insE
  split
  · exact ok_op h (right_op h.cg _ _ _ _) h.pen
  · exact h
theorem put_ok {t : Te} (h : TeOk t) {r : Int} (h0 : 0 ≤ r) (h1 : r ≤ 1114111) : TeOk (putE t r) := ok_op h (set_op h.cg _ _ _) ⟨h0, h1, h.cu.pen⟩
theorem setLate_cg (t : Te) (b : Bool) : (t.setLate b).cg = t.cg := rfl
theorem setX_cg (t : Te) (x : Int) : (t.setX x).cg = t.cg := rfl
theorem setY_cg (t : Te) (y : Int) : (t.setY y).cg = t.cg := rfl
theorem last_ok {t : Te} (h : TeOk t) : TeOk (lastE t) := by
  unfold lastE
  split
  · exact ok_late h _
  · rename_i hh
    refine ok_x (ok_late h _) (by have := h.cu.x0; show 0 ≤ t.m.cu.x + 1; omega) ?_
    have := h.xw; have := h.cw
    show t.m.cu.x + 1 < t.g.w
    omega
theorem line_ok (k : Nat) : 0 ≤ S1.lineRunes.getD k 0 ∧ S1.lineRunes.getD k 0 ≤ 1114111 := by
  by_cases h : k < 31
  · have : ∀ k : Fin 31, 0 ≤ S1.lineRunes.getD k.1 0 ∧ S1.lineRunes.getD k.1 0 ≤ 1114111 := by decide
    exact this ⟨k, h⟩
  · have e : S1.lineRunes[k]? = none := List.getElem?_eq_none (by show 31 ≤ k; omega)
    rw [List.getD_eq_getElem?_getD, e]
    exact ⟨by decide, by decide⟩
theorem map_ok (s : Int) {r : Int} (h0 : 0 ≤ r) (h1 : r ≤ 1114111) : 0 ≤ mapF s r ∧ mapF s r ≤ 1114111 := by
  unfold mapF S1.mapF
  split
  · exact ⟨by decide, by decide⟩
  · split
    · exact ⟨by decide, by decide⟩
    · split
      · exact line_ok _
      · exact ⟨h0, h1⟩
theorem rune_ok (t : Te) {r : Int} (h0 : 0 ≤ r) (h1 : r ≤ 1114111) : 0 ≤ runeE t r ∧ runeE t r ≤ 1114111 := by
  unfold runeE
  split
  · exact map_ok _ h0 h1
  · exact ⟨h0, h1⟩
theorem print_ok {t : Te} (h : TeOk t) {r : Int} (h0 : 0 ≤ r) (h1 : r ≤ 1114111) : TeOk (printE t r) := by
  have := rune_ok (wrapE t) h0 h1
  exact last_ok (put_ok (ins_ok (wrap_ok h)) this.1 this.2)
theorem next_ge (f : Nat → Bool) (x : Int) : ∀ d k, 0 ≤ S2.nextK f x k d
  | 0, k => by unfold S2.nextK; omega
  | d + 1, k => by
    unfold S2.nextK
    split
    · omega
    · exact next_ge f x d (k + 1)
theorem next_ge0 (s : St) (x : Int) : 0 ≤ nextS s x := next_ge _ _ _ _
theorem control_ok {t : Te} (h : TeOk t) (b : Int) : TeOk (controlE t b) := by
  have hw := h.g.w2
  have hx0 := h.cu.x0
  have hx := h.xw
  have hl := ok_late h false
  unfold controlE
  split
  · exact ok_x hl (by omega) (by show max (t.m.cu.x - 1) 0 < t.g.w; omega)
  · split
    · have := next_ge0 t.s t.m.cu.x
      have := h.cw
      exact ok_x hl (by omega) (by show min (nextS t.s t.m.cu.x) (t.cg.w - 1) < t.g.w; omega)
    · split
      · exact index_ok hl
      · split
        · exact ok_x hl (by omega) (by show (0 : Int) < t.g.w; omega)
        · split
          · exact ok_m h _ ⟨h.cu.x0, h.cu.x1, h.cu.y0, h.cu.y1, h.cu.pen, h.cu.s0, h.cu.s1, .inr rfl⟩ h.kept h.xw h.yh h.top h.tb h.bh
          · split
            · exact ok_m h _ ⟨h.cu.x0, h.cu.x1, h.cu.y0, h.cu.y1, h.cu.pen, h.cu.s0, h.cu.s1, .inl rfl⟩ h.kept h.xw h.yh h.top h.tb h.bh
            · exact h
theorem save_ok {t : Te} (h : TeOk t) : TeOk (saveE t) := ok_m h _ h.cu h.cu h.xw h.yh h.top h.tb h.bh
/-- the cursor that was kept, brought to the screen -/
theorem restore_ok' {t : Te} (h : TeOk t) (m : Em) (h1 : CuOk m.cu) (h2 : CuOk m.kept) (h0 : 0 ≤ m.top) (h3 : m.top < m.bottom) (h4 : m.bottom ≤ t.g.h) : TeOk (withinE { t with m := m }) := by
  have hw := h.g.w2; have hh := h.g.h1; have hw4 := h.g.w40; have hh2 := h.g.h20
  have e1 : ({ t with m := m } : Te).cg.w = t.g.w := by unfold Te.cg; split <;> first | exact h.ow | rfl
  have e2 : ({ t with m := m } : Te).cg.h = t.g.h := by unfold Te.cg; split <;> first | exact h.oh | rfl
  have a := h1.x0; have b := h1.y0
  unfold withinE
  rw [e1, e2]
  exact ok_m h _ ⟨by show 0 ≤ min m.cu.x (t.g.w - 1); omega, by show min m.cu.x (t.g.w - 1) ≤ 39; omega, by show 0 ≤ min m.cu.y (t.g.h - 1); omega, by show min m.cu.y (t.g.h - 1) ≤ 19; omega, h1.pen, h1.s0, h1.s1, h1.use⟩ h2
    (by show min m.cu.x (t.g.w - 1) < t.g.w; omega) (by show min m.cu.y (t.g.h - 1) < t.g.h; omega) h0 h3 h4
theorem restore_ok {t : Te} (h : TeOk t) : TeOk (restoreE t) := restore_ok' h _ h.kept h.kept h.top h.tb h.bh
theorem reset_ok (t : Te) : TeOk (resetE t) := new_ok _ _
theorem set_ok {t : Te} (h : TeOk t) (k b : Int) : TeOk (setE t k b) := by
  unfold setE
  split
  · rename_i hh
    split
    · exact ok_m h _ ⟨h.cu.x0, h.cu.x1, h.cu.y0, h.cu.y1, h.cu.pen, hh.2.2, h.cu.s1, h.cu.use⟩ h.kept h.xw h.yh h.top h.tb h.bh
    · exact ok_m h _ ⟨h.cu.x0, h.cu.x1, h.cu.y0, h.cu.y1, h.cu.pen, h.cu.s0, hh.2.2, h.cu.use⟩ h.kept h.xw h.yh h.top h.tb h.bh
  · exact h
theorem setS_w (s : St) (x : Int) (b : Bool) : (setS s x b).w = s.w := by unfold setS; split <;> rfl
theorem plain_ok {t : Te} (h : TeOk t) (b : Int) : TeOk (plainE t b) := by
  have hl := ok_late h false
  unfold plainE
  split
  · exact save_ok h
  · split
    · exact restore_ok h
    · split
      · exact ok_s h _ (setS_w _ _ _)
      · split
        · exact reset_ok t
        · split
          · exact index_ok hl
          · split
            · exact index_ok (ok_x hl (by decide) (by have := h.g.w2; show (0 : Int) < t.g.w; omega))
            · split
              · exact reverse_ok hl
              · exact h
theorem escape_ok {t : Te} (h : TeOk t) (i : List UInt8) (b : Int) : TeOk (escapeE t i b) := by
  unfold escapeE
  split
  · exact plain_ok h b
  · split
    · exact set_ok h _ _
    · split
      · exact set_ok h _ _
      · exact h
theorem count_ge (l : List Int) (k : Nat) : 1 ≤ countN l k := by unfold countN; omega
theorem up_ok {t : Te} (h : TeOk t) {n : Int} (hn : 1 ≤ n) : TeOk (upE t n) := by
  have a := h.cu.y0; have b := h.yh; have c := h.top
  unfold upE
  split
  · exact ok_y h (by omega) (by omega)
  · exact ok_y h (by omega) (by omega)
theorem lastRow_ok {t : Te} (h : TeOk t) : 0 ≤ lastRow t ∧ lastRow t < t.g.h := by
  have a := h.ch; have b := h.bh; have c := h.tb; have d := h.top; have e := h.g.h1
  unfold lastRow
  split <;> omega
theorem down_ok {t : Te} (h : TeOk t) {n : Int} (hn : 1 ≤ n) : TeOk (downE t n) := by
  have a := h.cu.y0; have b := h.yh; have c := lastRow_ok h
  exact ok_y h (by omega) (by omega)
theorem row_ok {t : Te} (h : TeOk t) {k : Int} (hk : 0 ≤ k) : TeOk (rowE t k) := by
  have a := h.ch; have b := h.bh; have c := h.tb; have d := h.top; have e := h.g.h1
  unfold rowE
  split
  · exact ok_y h (by omega) (by omega)
  · exact ok_y h (by omega) (by omega)
theorem column_ok {t : Te} (h : TeOk t) {k : Int} (hk : 0 ≤ k) : TeOk (columnE t k) := by
  have a := h.cw; have b := h.g.w2
  exact ok_x h (by omega) (by omega)
theorem move_ok {t : Te} (h : TeOk t) (b : Int) {n m : Int} (hn : 1 ≤ n) (hm : 1 ≤ m) {u : Te} (e : moveE t b n m = some u) : TeOk u := by
  have hw := h.g.w2
  have hx0 := h.cu.x0
  have hx := h.xw
  have hcw := h.cw
  unfold moveE at e
  repeat' split at e
  all_goals first | cases e | (obtain rfl := Option.some.inj e)
  · exact up_ok h hn
  · exact down_ok h hn
  · exact ok_x h (by omega) (by omega)
  · exact ok_x h (by omega) (by omega)
  · exact ok_x (down_ok h hn) (by decide) (by show (0 : Int) < t.g.w; omega)
  · refine ok_x (up_ok h hn) (by decide) ?_
    have := (up_ok h hn).g.w2
    omega
  · exact column_ok h (by omega)
  · exact row_ok h (by omega)
  · exact column_ok (row_ok h (by omega)) (by omega)
theorem fillE_ok {t : Te} (h : TeOk t) (a b : Int) : TeOk (fillE t a b) := ok_op h (fill_op h.cg _ _ _) h.pen
theorem erase_ok {t : Te} (h : TeOk t) (k a b : Int) : TeOk (eraseE t k a b) := by
  unfold eraseE
  repeat' split
  all_goals first | exact ok_late (fillE_ok h _ _) _ | exact h
theorem setCg_gw (t : Te) {g' : Gr} (hw : g'.w = t.cg.w) : (t.setCg g').g.w = t.g.w := by
  unfold Te.setCg
  split
  · rfl
  · rename_i hh
    rw [hw]; unfold Te.cg; rw [if_neg hh]
theorem rowsE_ok {t : Te} (h : TeOk t) (i : Bool) (n : Int) : TeOk (rowsE t i n) := by
  have hw := h.g.w2
  unfold rowsE
  split
  · exact h
  · refine ok_late (ok_x ?_ (by decide) ?_) _
    · split
      · exact ok_op h (down_op h.cg _ _ _ _) h.pen
      · exact ok_op h (up_op h.cg _ _ _ _) h.pen
    · split
      · have := setCg_gw t (g' := downG t.cg t.m.cu.y t.m.bottom n t.pen) rfl
        omega
      · have := setCg_gw t (g' := upG t.cg t.m.cu.y t.m.bottom n t.pen) rfl
        omega
theorem edit_ok {t : Te} (h : TeOk t) (b : Int) (l : List Int) {u : Te} (e : editE t b l = some u) : TeOk u := by
  unfold editE at e
  repeat' split at e
  all_goals first | cases e | (obtain rfl := Option.some.inj e)
  · exact erase_ok h _ _ _
  · exact erase_ok h _ _ _
  · exact rowsE_ok h _ _
  · exact rowsE_ok h _ _
  · exact ok_late (fillE_ok h _ _) _
  · exact ok_late (ok_op h (right_op h.cg _ _ _ _) h.pen) _
  · exact ok_late (ok_op h (left_op h.cg _ _ _ _) h.pen) _
  · exact ok_late (ok_op h (up_op h.cg _ _ _ _) h.pen) _
  · exact ok_late (ok_op h (down_op h.cg _ _ _ _) h.pen) _
theorem home_ok {t : Te} (h : TeOk t) : TeOk (homeE t) := by
  have a := h.top; have b := h.tb; have c := h.bh; have d := h.g.h20; have e := h.g.w2; have f := h.g.h1
  unfold homeE
  refine ok_m h _ ⟨by show (0 : Int) ≤ 0; decide, by show (0 : Int) ≤ 39; decide, ?_, ?_, h.cu.pen, h.cu.s0, h.cu.s1, h.cu.use⟩ h.kept (by show (0 : Int) < t.g.w; omega) ?_ h.top h.tb h.bh
  · show 0 ≤ (if t.m.cu.origin = true then t.m.top else 0)
    split <;> omega
  · show (if t.m.cu.origin = true then t.m.top else 0) ≤ 19
    split <;> omega
  · show (if t.m.cu.origin = true then t.m.top else 0) < t.g.h
    split <;> omega
theorem region_ok {t : Te} (h : TeOk t) (l : List Int) : TeOk (regionE t l) := by
  have a := h.ch; have b := count_ge l 0
  have c : (if atN l 1 < 1 ∨ t.cg.h < atN l 1 then t.cg.h else atN l 1) ≤ t.g.h := by split <;> omega
  unfold regionE
  generalize (if atN l 1 < 1 ∨ t.cg.h < atN l 1 then t.cg.h else atN l 1) = B at c ⊢
  by_cases hh : countN l 0 - 1 < B - 1
  · rw [if_pos hh]
    exact home_ok (ok_m h { t.m with top := countN l 0 - 1, bottom := B } h.cu h.kept h.xw h.yh (by show 0 ≤ countN l 0 - 1; omega) (by show countN l 0 - 1 < B; omega) c)
  · rw [if_neg hh]
    exact h
theorem state_ok {t : Te} (h : TeOk t) (b : Int) (l : List Int) : TeOk (stateE t b l) := by
  unfold stateE
  repeat' split
  all_goals first
    | exact h
    | exact ok_s h _ (setS_w _ _ _)
    | exact ok_s h _ rfl
    | exact region_ok h l
    | exact ok_m h _ ⟨h.cu.x0, h.cu.x1, h.cu.y0, h.cu.y1, sgr_ok h.cu.pen l, h.cu.s0, h.cu.s1, h.cu.use⟩ h.kept h.xw h.yh h.top h.tb h.bh
    | exact ok_m h _ h.cu h.kept h.xw h.yh h.top h.tb h.bh
    | exact save_ok h
    | exact restore_ok h
theorem alt_ok {t : Te} (h : TeOk t) (b c : Bool) : TeOk { t with m := { t.m with late := b, alt := c } } := ok_m h _ h.cu h.kept h.xw h.yh h.top h.tb h.bh
theorem swap_ok {t : Te} (h : TeOk t) (on : Bool) : TeOk (swapE t on) := by
  unfold swapE
  split
  · exact h
  · split
    · exact restore_ok (alt_ok h _ _)
    · have k := save_ok (alt_ok h false on)
      exact ok_op k (fill_op k.cg _ _ _) k.pen
theorem priv_ok {t : Te} (h : TeOk t) (n : Int) (on : Bool) : TeOk (privE t n on) := by
  unfold privE
  split
  · exact home_ok (ok_m h _ ⟨h.cu.x0, h.cu.x1, h.cu.y0, h.cu.y1, h.cu.pen, h.cu.s0, h.cu.s1, h.cu.use⟩ h.kept h.xw h.yh h.top h.tb h.bh)
  · split
    · exact ok_m h _ h.cu h.kept h.xw h.yh h.top h.tb h.bh
    · split
      · exact ok_m h _ h.cu h.kept h.xw h.yh h.top h.tb h.bh
      · split
        · exact swap_ok h on
        · exact h
theorem privs_ok (on : Bool) : ∀ (l : List Int) {t : Te} (_ : TeOk t), TeOk (l.foldl (fun t n => privE t n on) t)
  | [], t, h => h
  | n :: l, t, h => privs_ok on l (priv_ok h n on)
theorem csi_ok {t : Te} (h : TeOk t) (a : Ac) : TeOk (csiE t a) := by
  unfold csiE
  split
  · exact h
  · split
    · split
      · rename_i u e; exact ok_late (move_ok h _ (count_ge _ _) (count_ge _ _) e) _
      · split
        · rename_i u e; exact edit_ok h _ _ e
        · exact state_ok h _ _
    · split
      · exact privs_ok _ _ h
      · exact h
/-- an act as a parser tells it -/
structure AcOk (a : Ac) : Prop where
  r0 : 0 ≤ a.rune
  r1 : a.rune ≤ 1114111
  b0 : 0 ≤ a.byte
  b1 : a.byte ≤ 255
  n8 : a.nums.length ≤ 8
  nums : ∀ n ∈ a.nums, -1 ≤ n ∧ n ≤ 9999
  inter : a.inter.length ≤ 2
theorem act_ok {t : Te} (h : TeOk t) {a : Ac} (k : AcOk a) : TeOk (actE1 t a) := by
  unfold actE1
  split
  · exact print_ok h k.r0 k.r1
  · split
    · exact control_ok h _
    · split
      · exact escape_ok h _ _
      · split
        · exact csi_ok h a
        · exact h
theorem acts_ok : ∀ (l : List Ac) {t : Te} (_ : TeOk t), (∀ a ∈ l, AcOk a) → TeOk (actsE t l).2
  | [], t, h, _ => h
  | a :: l, t, h, k => acts_ok l (act_ok h (k a (by simp))) (fun b hb => k b (by simp [hb]))
theorem sizeE_ok {t : Te} (h : TeOk t) (w hh : Int) : TeOk (sizeE t w hh) := by
  obtain ⟨a1, a2, a3, a4⟩ := sizeK_all t.g w hh (min t.g.h (endH hh)).toNat
  obtain ⟨b1, b2, b3, b4⟩ := sizeK_all t.o w hh (min t.o.h (endH hh)).toNat
  have e1 := newG_ok w hh
  have m1 : ∀ c ∈ (sizeG t.g w hh).c, CeOk c := fun c hc => (size_mem _ _ _ _ c hc).elim (h.gc c) (fun e => e ▸ blank_ok zero_ok)
  have m2 : ∀ c ∈ (sizeG t.o w hh).c, CeOk c := fun c hc => (size_mem _ _ _ _ c hc).elim (h.oc c) (fun e => e ▸ blank_ok zero_ok)
  rw [← sizeG_eq] at a1 a2 a3 a4 b1 b2 b3 b4
  have k1 := h.cu.x0; have k2 := h.cu.y0; have k3 := h.cu.x1; have k4 := h.cu.y1
  have w1 := e1.w2; have w2 := e1.h1; have w3 := e1.w40; have w4 := e1.h20
  change 2 ≤ endW w at w1
  change 1 ≤ endH hh at w2
  change endW w ≤ 40 at w3
  change endH hh ≤ 20 at w4
  have c1 : ({ t with g := sizeG t.g w hh, o := sizeG t.o w hh, m := { t.m with top := 0, bottom := endH hh, late := false } } : Te).cg.w = endW w := by unfold Te.cg; split <;> first | exact b1 | exact a1
  have c2 : ({ t with g := sizeG t.g w hh, o := sizeG t.o w hh, m := { t.m with top := 0, bottom := endH hh, late := false } } : Te).cg.h = endH hh := by unfold Te.cg; split <;> first | exact b2 | exact a2
  unfold sizeE withinE
  rw [c1, c2]
  refine ⟨a4, b4, b1.trans a1.symm, b2.trans a2.symm, m1, m2, ?_, ⟨?_, ?_, ?_, ?_, h.cu.pen, h.cu.s0, h.cu.s1, h.cu.use⟩, h.kept, ?_, ?_, Int.le_refl _, ?_, ?_⟩
  · show ((S2.newC (endW w)).toNat : Int) = (sizeG t.g w hh).w
    rw [a1]; unfold S2.newC; omega
  · show 0 ≤ min t.m.cu.x (endW w - 1); omega
  · show min t.m.cu.x (endW w - 1) ≤ 39; omega
  · show 0 ≤ min t.m.cu.y (endH hh - 1); omega
  · show min t.m.cu.y (endH hh - 1) ≤ 19; omega
  · show min t.m.cu.x (endW w - 1) < (sizeG t.g w hh).w; rw [a1]; omega
  · show min t.m.cu.y (endH hh - 1) < (sizeG t.g w hh).h; rw [a2]; omega
  · show (0 : Int) < endH hh; omega
  · show endH hh ≤ (sizeG t.g w hh).h; rw [a2]; exact Int.le_refl _
end Go.Proofs.YtnjgnbdebkckfaaGreatDoor.MF
namespace Go.Proofs.YtnjgnbdebkckfaaGreatDoor.S3
set_option maxRecDepth 100000
open Go.RowKit K1 K3 K5 K11 K12 K14 K20 K21 K22 K25 K30 K31 M0 ME
attribute [local go_sem] cell_pastA froz_pastA
def scells (s : St) : List Value := (S2.stopsArr (s.w : Int) s.f).toList
structure StOk (s : St) : Prop where
  w40 : s.w ≤ 40
theorem stops_of {w : World} {L L' : List Res} {b : Nat} {s : St} (h : Sep w L) (hr : Rm L (.blk b (scells s) 126) L') (ok : StOk s) : S2.Stops w b (s.w : Int) s.f :=
  ⟨by have := (h.pick hr).mem (r := .blk b (scells s) 126) (by simp); simpa [Res.holds, scells] using this, by omega, by have := ok.w40; omega⟩
theorem to_stops {w : World} {b : Nat} {c : Int} {f : Nat → Bool} (h : S2.Stops w b c f) (s : St) (hc : c = s.w) (hf : f = s.f) : (Res.blk b (scells s) 126).holds w := by
  subst hc hf
  simpa [Res.holds, scells] using h.blk
theorem next_q (b : Nat) (s : St) (x : Int) (w : World) (h : S2.Stops w b (s.w : Int) s.f) : Calls Tryz.prog 81 #[.pointer (some ⟨b, 0, none⟩), .int .i64 x] w fun e w' => e = .returned (.int .i64 (nextS s x)) ∧ Below w.heap.size w w' :=
  (S2.next_any x h).mono fun e w' ⟨h1, h2⟩ => ⟨h1, h2 ▸ Below.refl _ _⟩
theorem turn_stops {w w' : World} {F : List Res} {b : Nat} {s s' : St} {c : Int} {f : Nat → Bool} (h : Sep w (.blk b (scells s) 126 :: F)) (h1 : S2.Stops w' b c f) (hf : Fr w.heap.size [b] w w') (hc : c = s'.w) (hff : f = s'.f) : Sep w' (.blk b (scells s') 126 :: F) :=
  h.turn (Leaves.of_fr hf) (fun k _ hk => by obtain rfl : k = b := by simpa using hk
                                             rfl) (to_stops h1 s' hc hff) (fun k hk => .inl hk)
theorem set_s (b g cap : Nat) (s : St) (x : Int) (F : List Res) (w : World) (hs : Sep w (.blk b (scells s) 126 :: F)) (ok : StOk s) (hg : g ≠ b) (hc : 1 ≤ cap) (hx : w.cell? ⟨g, 0, none⟩ = some (.int .i64 x)) (hgl : g < w.heap.size) :
    Calls Tryz.prog 104 #[.pointer (some ⟨b, 0, none⟩), .slice (some ⟨g, 0, none⟩) 1 cap] w fun e w' => e = .returned (.tuple #[]) ∧ Sep w' (.blk b (scells (setS s x true)) 126 :: F) := by
  have h := stops_of hs .here ok
  have hx1 : ∀ k, k < 1 → w.cell? ⟨g, 0 + k, none⟩ = some (.int .i64 x) := by
    intro k hk
    obtain rfl : k = 0 := by omega
    exact hx
  refine (S2.set_any h (some ⟨g, 0, none⟩) g 0 1 cap (fun _ => x) (.inl rfl) hg hc (by omega) hx1).mono ?_
  rintro e w' ⟨rfl, h1, hf⟩
  refine ⟨rfl, turn_stops hs h1 hf ?_ ?_⟩
  · unfold setS; split <;> rfl
  · show (if 0 ≤ x ∧ x < (s.w : Int) then S2.upd s.f x.toNat true else s.f) = _
    unfold setS
    split <;> rfl
theorem clear_s (b g cap : Nat) (s : St) (x : Int) (F : List Res) (w : World) (hs : Sep w (.blk b (scells s) 126 :: F)) (ok : StOk s) (hg : g ≠ b) (hc : 1 ≤ cap) (hx : w.cell? ⟨g, 0, none⟩ = some (.int .i64 x)) (hgl : g < w.heap.size) :
    Calls Tryz.prog 117 #[.pointer (some ⟨b, 0, none⟩), .slice (some ⟨g, 0, none⟩) 1 cap] w fun e w' => e = .returned (.tuple #[]) ∧ Sep w' (.blk b (scells (setS s x false)) 126 :: F) := by
  have h := stops_of hs .here ok
  have hx1 : ∀ k, k < 1 → w.cell? ⟨g, 0 + k, none⟩ = some (.int .i64 x) := by
    intro k hk
    obtain rfl : k = 0 := by omega
    exact hx
  refine (S2.clear_any h (some ⟨g, 0, none⟩) g 0 1 cap (fun _ => x) (.inl rfl) hg hc (by omega) hx1).mono ?_
  rintro e w' ⟨rfl, h1, hf⟩
  refine ⟨rfl, turn_stops hs h1 hf ?_ ?_⟩
  · unfold setS; split <;> rfl
  · show (if 0 ≤ x ∧ x < (s.w : Int) then S2.upd s.f x.toNat false else s.f) = _
    unfold setS
    split <;> rfl
theorem new_s (x : Int) (F : List Res) (w : World) (hs : Sep w F) : Calls Tryz.prog 46 #[.int .i64 x] w fun e w' => ∃ b, e = .returned (.pointer (some ⟨b, 0, none⟩)) ∧ Sep w' (.blk b (scells (stopsF x)) 126 :: F) := by
  refine (S2.new_any x w).mono ?_
  rintro e w' ⟨rfl, h1, hb⟩
  exact ⟨_, rfl, hs.new hb (to_stops h1 (stopsF x) rfl rfl) (fun k hk => by obtain rfl : k = _ := hk
                                                                            exact Nat.le_refl _)⟩
theorem copy_s (b : Nat) (s : St) (F : List Res) (w : World) (hs : Sep w (.blk b (scells s) 126 :: F)) (ok : StOk s) : Calls Tryz.prog 57 #[.pointer (some ⟨b, 0, none⟩)] w fun e w' => ∃ k, e = .returned (.pointer (some ⟨k, 0, none⟩)) ∧ Sep w' (.blk k (scells s) 126 :: .blk b (scells s) 126 :: F) := by
  refine (S2.copy_any (stops_of hs .here ok)).mono ?_
  rintro e w' ⟨rfl, h1, hb⟩
  exact ⟨_, rfl, hs.new hb (to_stops h1 s rfl rfl) (fun k hk => by obtain rfl : k = _ := hk
                                                                   exact Nat.le_refl _)⟩
theorem stopsF_ok (x : Int) : StOk (stopsF x) := ⟨by unfold stopsF S2.newC; simp only; omega⟩
theorem setS_ok {s : St} (h : StOk s) (x : Int) (v : Bool) : StOk (setS s x v) := ⟨by unfold setS; split <;> exact h.w40⟩
theorem noneS_ok {s : St} (h : StOk s) : StOk (noneS s) := ⟨h.w40⟩
end Go.Proofs.YtnjgnbdebkckfaaGreatDoor.S3
namespace Go.Proofs.YtnjgnbdebkckfaaGreatDoor.S4
set_option maxRecDepth 100000
open Go.RowKit K1 K3 K5 K11 K12 K14 K20 K21 K22 K25 K30 K31 M0 ME S3
attribute [local go_sem] cell_pastA froz_pastA
theorem putF_out (c : Int) (L : Nat → Int) (f : Nat → Bool) (i : Nat) : ∀ N, (∀ k, k < N → ¬ (0 ≤ L k ∧ L k < c ∧ (L k).toNat = i)) → S2.putF c false L f N i = f i
  | 0, _ => rfl
  | N + 1, h => by
    show (if 0 ≤ L N ∧ L N < c then S2.upd (S2.putF c false L f N) (L N).toNat false else S2.putF c false L f N) i = f i
    have ih := putF_out c L f i N fun k hk => h k (by omega)
    split
    · rename_i hh
      unfold S2.upd
      rw [if_neg (fun e => h N (by omega) ⟨hh.1, hh.2, e.symm⟩)]
      exact ih
    · exact ih
theorem putF_in (c : Int) (L : Nat → Int) (f : Nat → Bool) (i k : Nat) (h0 : 0 ≤ L k) (h1 : L k < c) (h2 : (L k).toNat = i) : ∀ N, k < N → S2.putF c false L f N i = false
  | 0, h => by omega
  | N + 1, h => by
    show (if 0 ≤ L N ∧ L N < c then S2.upd (S2.putF c false L f N) (L N).toNat false else S2.putF c false L f N) i = false
    by_cases hk : k = N
    · subst hk
      rw [if_pos ⟨h0, h1⟩]
      unfold S2.upd
      rw [if_pos h2.symm]
    · have ih := putF_in c L f i k h0 h1 h2 N (by omega)
      split
      · unfold S2.upd
        split
        · rfl
        · exact ih
      · exact ih
theorem none_eq (s : St) (L : Nat → Int) (hL : ∀ k (h : k < (S2.allL s.f s.w).length), L k = ((S2.allL s.f s.w)[k] : Int)) : S2.putF (s.w : Int) false L s.f (S2.allL s.f s.w).length = (noneS s).f := by
  funext i
  show _ = if i < s.w then false else s.f i
  by_cases hi : i < s.w
  · rw [if_pos hi]
    by_cases hf : s.f i = true
    · have hm : i ∈ S2.allL s.f s.w := by unfold S2.allL; rw [List.mem_filter]; exact ⟨List.mem_range.2 hi, hf⟩
      obtain ⟨k, hk, e⟩ := List.mem_iff_getElem.1 hm
      have e2 := hL k hk
      rw [e] at e2
      exact putF_in _ L s.f i k (by omega) (by omega) (by omega) _ hk
    · have hf2 : s.f i = false := by simpa using hf
      rw [putF_out _ L s.f i _ ?_, hf2]
      intro k hk h
      have e2 := hL k hk
      have hm : (S2.allL s.f s.w)[k] ∈ S2.allL s.f s.w := List.getElem_mem hk
      have e3 : (S2.allL s.f s.w)[k] = i := by omega
      rw [e3] at hm
      unfold S2.allL at hm
      rw [List.mem_filter] at hm
      exact hf hm.2
  · rw [if_neg hi]
    refine putF_out _ L s.f i _ ?_
    intro k hk h
    omega
set_option maxHeartbeats 4000000 in
theorem none_s (b : Nat) (s : St) (F : List Res) (w : World) (hs : Sep w (.blk b (scells s) 126 :: F)) (ok : StOk s) : Calls Tryz.prog 118 #[.pointer (some ⟨b, 0, none⟩)] w fun e w' => e = .returned (.tuple #[]) ∧ Sep w' (.blk b (scells (noneS s)) 126 :: F) := by
  have h := stops_of hs .here ok
  have HS := Lib.hid hs
  have H := Lib.hid h
  have hblt := h.lt
  clear hs h
  go_enter Tryz.func118, Tryz.ntmps118
  go_wp2_with (go_at_call 141; refine (S2.all_any H.out).mono ?_; rintro e w1 ⟨v, rfl, ho, hb⟩)
  have hs1 := HS.out.below hb
  have h1 := stops_of hs1 .here ok
  have HS1 := Lib.hid hs1
  have H1 := Lib.hid h1
  clear hs1 h1
  have hlen := S2.allL_le s.f s.w
  have ok40 := ok.w40
  rcases ho.2 with ⟨rfl, h0⟩ | ⟨g, cap, cur, rfl, hg0, hg, hnc, hcm, hcs, htk⟩
  · refine (S2.put_any H1.out false none (b + 1) 0 0 0 (fun _ => 0) (.inr rfl) (by omega) (Nat.le_refl _) (by omega) (fun k hk => by omega)).mono ?_
    rintro e w2 ⟨rfl, h2, hf⟩
    go_wp2_with fail
    go_end0
    refine ⟨rfl, turn_stops HS1.out h2 hf rfl ?_⟩
    rw [← none_eq s (fun _ => 0) (fun k hk => by omega), h0]
  · have hcell : ∀ k, k < (S2.allL s.f s.w).length → w1.cell? ⟨g, 0 + k, none⟩ = some (.int .i64 ((S2.allL s.f s.w).getD k 0 : Nat)) := by
      intro k hk
      obtain ⟨hr, _⟩ := K30.row_cells (own_base ho)
      rw [Nat.zero_add, hr k (by omega)]
      unfold S2.ints
      rw [List.getElem?_map, List.getElem?_eq_getElem hk]
      simp [List.getD, hk]
    have HC := Lib.hid hcell
    clear hcell htk hg
    refine (S2.put_any H1.out false (some ⟨g, 0, none⟩) g 0 _ cap (fun k => ((S2.allL s.f s.w).getD k 0 : Nat)) (.inl rfl) (by omega) hnc (by omega) HC.out).mono ?_
    rintro e w2 ⟨rfl, h2, hf⟩
    go_wp2_with fail
    go_end0
    refine ⟨rfl, turn_stops HS1.out h2 hf rfl ?_⟩
    exact none_eq s _ (fun k hk => by simp [List.getD, hk])
end Go.Proofs.YtnjgnbdebkckfaaGreatDoor.S4
