/- the document's Reader -/
import Derived.Test.YtemdhbjcdibpfaaDoorW1
namespace Go.Proofs.YtemdhbjcdibpfaaDoor.W2
set_option linter.unusedVariables false
set_option linter.unusedSimpArgs false
set_option linter.unnecessarySimpa false
set_option maxRecDepth 100000
open Go.RowKit K1 K3 K5 K11 K12 K14 K20 K21 K22 W0 W1 N0 N1 N2

attribute [local go_sem] cell_pastA froz_pastA
structure Dr where
  bin : Bool
  cr : Bool
  cmd : List UInt8
  inn : Bool
  opt : Int
  body : List UInt8
  long : Bool
  iac : Bool
def drL (b : Nat) (cv bv : Value) (d : Dr) : List Res := [.blk b [.bool d.bin, .bool d.cr, cv, .bool d.inn, .int .i64 d.opt, bv, .bool d.long, .bool d.iac] 67, .row cv 5 1 d.cmd.length (d.cmd.map u8), .row bv 5 1 d.body.length (d.body.map u8)]
def D1 (c : UInt8) : Tok := ⟨0, 0, 0, [c]⟩
structure DrP (F : List Res) (b : Nat) (d : Dr) (ts : List Tok) (e : Ending) (w' : World) : Prop where
  out : ∃ v cv bv, e = .returned v ∧ Sep w' (.row v 61 4 ts.length (ts.flatMap tokCells) :: (drL b cv bv d ++ F))
structure TkP (F : List Res) (ts : List Tok) (e : Ending) (w' : World) : Prop where
  out : ∃ v, e = .returned v ∧ Sep w' (.row v 61 4 ts.length (ts.flatMap tokCells) :: F)
def dcmd (d : Dr) (c : UInt8) : Dr × List Tok :=
  if c.toNat = 255 then ({ d with cmd := [] }, [D1 c]) else if 250 ≤ c.toNat then ({ d with cmd := [255, c] }, []) else ({ d with cmd := [] }, [⟨1, c.toNat, 0, []⟩])
def dsub (d : Dr) (c : UInt8) : Dr × List Tok :=
  if d.iac = false ∧ c.toNat = 255 then ({ d with iac := true }, [])
  else if d.iac = true ∧ c.toNat ≠ 255 then
    if c.toNat ≠ 240 then dcmd { d with inn := false, body := [], iac := false, long := false } c
    else if d.long = true then ({ d with inn := false, body := [], iac := false, long := false }, []) else ({ d with inn := false, body := [], iac := false, long := false }, [⟨3, 0, d.opt, d.body⟩])
  else if 40 ≤ d.body.length then ({ d with iac := false, long := true }, []) else ({ d with iac := false, body := d.body ++ [c] }, [])
def dfeed (d : Dr) (c : UInt8) : Dr × List Tok :=
  if d.inn = true then dsub d c
  else if d.cmd.length = 0 then
    if c.toNat = 255 then ({ d with cr := false, cmd := [c] }, []) else if d.cr = true ∧ c.toNat = 0 ∧ d.bin = false then ({ d with cr := false }, []) else ({ d with cr := decide (c.toNat = 13) }, [D1 c])
  else if d.cmd.length = 2 then
    if (d.cmd.getD 1 0).toNat = 250 then ({ d with cmd := [], inn := true, opt := c.toNat, body := [], long := false, iac := false }, []) else ({ d with cmd := [] }, [⟨2, (d.cmd.getD 1 0).toNat, c.toNat, []⟩])
  else dcmd d c
theorem infoT : (Tryd.prog.info? 61).map (fun i => (i.zero, i.size, i.bytes)) = some (some (.agg #[.int .i64 0, .int .i64 0, .int .i64 0, .string ByteArray.empty]), 4, 40) := by kernel_rfl
/-- one new token in a slice -/
theorem Sep.tok {w : World} {L : List Res} {cs : Array Value} {b : Nat} (t : Tok) (h : Sep w L) (hb : b = w.heap.size) (e : cs.toList = tokCells t) : Sep (w.alloc (.cells cs 61)) (.row (.slice (some ⟨b, 0, none⟩) 1 1) 61 4 [t].length ([t].flatMap tokCells) :: L) := by
  have h1 := Sep.alloc (xs := tokCells t) (t := 61) h hb e.symm
  exact Sep.asRow (c := 1) h1 (by simp [tokCells]) (by simp) (by decide) (by simp [tokCells])
set_option maxHeartbeats 4000000 in
theorem data_sep (c : UInt8) (F : List Res) (w : World) (h : Sep w F) : Calls Tryd.prog 47 #[.int .u8 c.toNat] w (TkP F [D1 c]) := by
  have HCV : (convert 54 9 (.slice (some ⟨w.heap.size, 0, none⟩) 1 1)).run Tryd.prog (w.alloc (.cells #[.int .u8 c.toNat] 5)) = .ok (.string ⟨[c].toArray⟩) (w.alloc (.cells #[.int .u8 c.toNat] 5)) :=
    conv_own (l := [c]) (own_new w #[.int .u8 c.toNat] 5 1 (by decide) rfl) rfl
  go_enter Tryd.func47, Tryd.ntmps47
  go_wp2_with fail
  go_ret
  exact ⟨⟨_, rfl, Sep.tok (D1 c) h.alloc0 (by simp) (by simp [tokCells, D1])⟩⟩
set_option maxHeartbeats 4000000 in
theorem cmd_sep (b : Nat) (cv bv : Value) (d : Dr) (c : UInt8) (F : List Res) (w : World) (h : Sep w (drL b cv bv d ++ F)) : Calls Tryd.prog 48 #[.pointer (some ⟨b, 0, none⟩), .int .u8 c.toNat] w (DrP F b ((dcmd d c).1) ((dcmd d c).2)) := by
  have HS := Lib.hid h
  clear h
  obtain ⟨ec, ef, el⟩ := HS.out.cells (b := b) (List.mem_cons_self ..)
  have h0 : Sep (w.setCell ⟨b, 2, none⟩ (.slice none 0 0)) (drL b (.slice none 0 0) bv { d with cmd := [] } ++ F) := by
    exact (HS.out.set (i := 2) (v := .slice none 0 0) rfl).toNil 1 5 1 (by simp)
  have H0 := Lib.hid h0
  clear h0
  have hcl := c.toNat_lt
  by_cases h1 : c.toNat = 255
  · have e : dcmd d c = ({ d with cmd := [] }, [D1 c]) := if_pos h1
    rw [e]
    have hd : ((c.toNat : Int) == 255) = true := by simp [h1]
    clear h1 e
    go_enter Tryd.func48, Tryd.ntmps48
    go_wp2_with (go_at_call 47; refine (data_sep c _ _ (H0.out)).mono ?_; rintro e w1 ⟨⟨v1, rfl, hs1⟩⟩; have HS1 := Lib.hid hs1; clear hs1)
    go_ret
    exact ⟨⟨_, _, _, rfl, HS1.out⟩⟩
  · have hd : ((c.toNat : Int) == 255) = false := by simp; omega
    by_cases h2 : 250 ≤ c.toNat
    · have e : dcmd d c = ({ d with cmd := [255, c] }, []) := by unfold dcmd; rw [if_neg h1, if_pos h2]
      rw [e]
      have hd2 : decide ((250 : Int) ≤ (c.toNat : Int)) = true := by simp; omega
      clear h1 h2 e
      go_enter Tryd.func48, Tryd.ntmps48
      go_wp2_with fail
      go_ret
      have h1 := Sep.alloc (b := w.heap.size) (cs := #[.int .u8 255, .int .u8 c.toNat]) (xs := [255, c].map u8) (t := 5) (H0.out.set (i := 2) (v := .slice (some ⟨w.heap.size, 0, none⟩) 2 2) rfl) (by simp) rfl
      exact ⟨⟨_, _, _, rfl, ((Sep.asRow (n := 2) (c := 2) (s := 1) h1 (by simp) (by simp) (by decide) rfl).over 1 (by simp [drL])).nilRow⟩⟩
    · have e : dcmd d c = ({ d with cmd := [] }, [⟨1, c.toNat, 0, []⟩]) := by unfold dcmd; rw [if_neg h1, if_neg h2]
      rw [e]
      have hd2 : decide ((250 : Int) ≤ (c.toNat : Int)) = false := by simp; omega
      have hw : wrap64 (c.toNat : Int) = (c.toNat : Int) := by unfold wrap64; omega
      clear h1 h2 e
      go_enter Tryd.func48, Tryd.ntmps48
      go_wp2_with fail
      go_ret
      exact ⟨⟨_, _, _, rfl, Sep.tok ⟨1, c.toNat, 0, []⟩ H0.out (by simp) (by simp [tokCells])⟩⟩
set_option maxHeartbeats 8000000 in
theorem sub_sep (b : Nat) (cv bv : Value) (d : Dr) (c : UInt8) (F : List Res) (w : World) (h : Sep w (drL b cv bv d ++ F)) (hb40 : d.body.length ≤ 40) : Calls Tryd.prog 46 #[.pointer (some ⟨b, 0, none⟩), .int .u8 c.toNat] w (DrP F b ((dsub d c).1) ((dsub d c).2)) := by
  have HS := Lib.hid h
  obtain ⟨ba, bc, rfl, -⟩ := own_slice (h.rowAt 2 rfl)
  have HCV : ∀ x, Below w.heap.size w x → (convert 54 9 (.slice ba d.body.length bc)).run Tryd.prog x = .ok (.string ⟨d.body.toArray⟩) x := fun x hx => conv_own ((h.below hx).rowAt 2 rfl) rfl
  clear h
  obtain ⟨ec, ef, el⟩ := HS.out.cells (b := b) (List.mem_cons_self ..)
  have hcl := c.toNat_lt
  obtain ⟨i0, ih, ia, ib, ic⟩ := info_parts info5'
  have iI := Lib.hid ih
  clear ih
  by_cases h1 : d.iac = false ∧ c.toNat = 255
  · have e : dsub d c = ({ d with iac := true }, []) := if_pos h1
    rw [e]
    have hd : ((c.toNat : Int) == 255) = true := by simp [h1.2]
    have hi := h1.1
    clear h1 e
    go_enter Tryd.func46, Tryd.ntmps46
    go_wp2_with fail
    go_ret
    exact ⟨⟨_, _, _, rfl, (HS.out.set rfl).nilRow⟩⟩
  · by_cases h2 : d.iac = true ∧ c.toNat ≠ 255
    · have hi := h2.1
      have hd : ((c.toNat : Int) == 255) = false := by have := h2.2; simp; omega
      by_cases h3 : c.toNat ≠ 240
      · have e : dsub d c = dcmd { d with inn := false, body := [], iac := false, long := false } c := by unfold dsub; rw [if_neg h1, if_pos h2, if_pos h3]
        rw [e]
        have hd2 : ((c.toNat : Int) == 240) = false := by simp; omega
        clear h1 h2 h3 e
        go_enter Tryd.func46, Tryd.ntmps46
        go_wp2_with fail
        refine wp_region_quiet0 (w := _) [10] [] 11 (by kernel_rfl) (by kernel_rfl) (fun _ _ dx _ _ hx => by cases dx <;> exact hx) ?_
        simp only [numbered, List.take_succ_cons, List.take_zero, List.drop_succ_cons, List.drop_zero, List.take_nil, List.drop_nil, Nat.reduceAdd]
        (refine wz_do (by decide) (by decide) C0e.es (growsB (by simp)) ?_ ?_; (focus (first | rfl | (go_simp; done))); apply Exists.intro; refine ⟨fun bs hok wx hwx hL => ?_, ?_⟩; (focus ((have hwx : Below _ _ wx := hwx; have hcx := cellA hwx; have hfx := frozA hwx; have hzx := hwx.size; (try simp at hzx)); unfold zAt; (try simp [go_sem, BigFrame.eval_const, BigFrame.eval_global, BigFrame.eval_func, ↓IntWalk.iteOmega, *]); (try simp only [zUpon]); (first | exact ⟨rfl, Below.refl _ _⟩ | fail))); (try go_simp))
        (refine wz_do (by decide) (by decide) C0e.es (growsB (by simp)) ?_ ?_; (focus (first | rfl | (go_simp; done))); apply Exists.intro; refine ⟨fun bs hok wx hwx hL => ?_, ?_⟩; (focus ((have hwx : Below _ _ wx := hwx; have hcx := cellA hwx; have hfx := frozA hwx; have hzx := hwx.size; (try simp at hzx)); unfold zAt; (try simp [go_sem, BigFrame.eval_const, BigFrame.eval_global, BigFrame.eval_func, ↓IntWalk.iteOmega, *]); (try simp only [zUpon]); (first | exact ⟨rfl, Below.refl _ _⟩ | fail))); (try go_simp))
        (refine wz_do (by decide) (by decide) C0e.es (growsB (by simp)) ?_ ?_; (focus (first | rfl | (go_simp; done))); apply Exists.intro; refine ⟨fun bs hok wx hwx hL => ?_, ?_⟩; (focus ((have hwx : Below _ _ wx := hwx; have hcx := cellA hwx; have hfx := frozA hwx; have hzx := hwx.size; (try simp at hzx)); unfold zAt; (try simp [go_sem, BigFrame.eval_const, BigFrame.eval_global, BigFrame.eval_func, ↓IntWalk.iteOmega, *]); (try simp only [zUpon]); (first | exact ⟨rfl, Below.refl _ _⟩ | fail))); (try go_simp))
        (refine wz_do (by decide) (by decide) C0e.es (growsB (by simp)) ?_ ?_; (focus (first | rfl | (go_simp; done))); apply Exists.intro; refine ⟨fun bs hok wx hwx hL => ?_, ?_⟩; (focus ((have hwx : Below _ _ wx := hwx; have hcx := cellA hwx; have hfx := frozA hwx; have hzx := hwx.size; (try simp at hzx)); unfold zAt; (try simp [go_sem, BigFrame.eval_const, BigFrame.eval_global, BigFrame.eval_func, ↓IntWalk.iteOmega, *]); (try simp only [zUpon]); (first | exact ⟨rfl, Below.refl _ _⟩ | fail))); (try go_simp))
        (refine wz_do (by decide) (by decide) C0e.es (growsB (by simp)) ?_ ?_; (focus (first | rfl | (go_simp; done))); apply Exists.intro; refine ⟨fun bs hok wx hwx hL => ?_, ?_⟩; (focus ((have hwx : Below _ _ wx := hwx; have hcx := cellA hwx; have hfx := frozA hwx; have hzx := hwx.size; (try simp at hzx)); unfold zAt; (try simp [go_sem, BigFrame.eval_const, BigFrame.eval_global, BigFrame.eval_func, ↓IntWalk.iteOmega, *]); (try simp only [zUpon]); (first | exact ⟨rfl, Below.refl _ _⟩ | fail))); (try go_simp))
        (refine wz_do (by decide) (by decide) C0e.es (growsB (by simp)) ?_ ?_; (focus (first | rfl | (go_simp; done))); apply Exists.intro; refine ⟨fun bs hok wx hwx hL => ?_, ?_⟩; (focus ((have hwx : Below _ _ wx := hwx; have hcx := cellA hwx; have hfx := frozA hwx; have hzx := hwx.size; (try simp at hzx)); unfold zAt; (try simp [go_sem, BigFrame.eval_const, BigFrame.eval_global, BigFrame.eval_func, ↓IntWalk.iteOmega, *]); (try simp only [zUpon]); (first | exact ⟨rfl, Below.refl _ _⟩ | fail))); (try go_simp))
        (refine wz_do (by decide) (by decide) C0e.es (growsB (by simp)) ?_ ?_; (focus (first | rfl | (go_simp; done))); apply Exists.intro; refine ⟨fun bs hok wx hwx hL => ?_, ?_⟩; (focus ((have hwx : Below _ _ wx := hwx; have hcx := cellA hwx; have hfx := frozA hwx; have hzx := hwx.size; (try simp at hzx)); unfold zAt; (try simp [go_sem, BigFrame.eval_const, BigFrame.eval_global, BigFrame.eval_func, ↓IntWalk.iteOmega, *]); (try simp only [zUpon]); (first | exact ⟨rfl, Below.refl _ _⟩ | fail))); (try go_simp))
        (refine wz_do (by decide) (by decide) C0e.es (growsB (by simp)) ?_ ?_; (focus (first | rfl | (go_simp; done))); apply Exists.intro; refine ⟨fun bs hok wx hwx hL => ?_, ?_⟩; (focus ((have hwx : Below _ _ wx := hwx; have hcx := cellA hwx; have hfx := frozA hwx; have hzx := hwx.size; (try simp at hzx)); unfold zAt; (try simp [go_sem, BigFrame.eval_const, BigFrame.eval_global, BigFrame.eval_func, ↓IntWalk.iteOmega, *]); (try simp only [zUpon]); (first | exact ⟨rfl, Below.refl _ _⟩ | fail))); (try go_simp))
        (refine wz_do (by decide) (by decide) C0e.es (growsB (by simp)) ?_ ?_; (focus (first | rfl | (go_simp; done))); apply Exists.intro; refine ⟨fun bs hok wx hwx hL => ?_, ?_⟩; (focus ((have hwx : Below _ _ wx := hwx; have hcx := cellA hwx; have hfx := frozA hwx; have hzx := hwx.size; (try simp at hzx)); unfold zAt; (try simp [go_sem, BigFrame.eval_const, BigFrame.eval_global, BigFrame.eval_func, ↓IntWalk.iteOmega, *]); (try simp only [zUpon]); (first | exact ⟨rfl, Below.refl _ _⟩ | fail))); (try go_simp))
        (refine wz_do (by decide) (by decide) C0e.es (growsB (by simp)) ?_ ?_; (focus (first | rfl | (go_simp; done))); apply Exists.intro; refine ⟨fun bs hok wx hwx hL => ?_, ?_⟩; (focus ((have hwx : Below _ _ wx := hwx; have hcx := cellA hwx; have hfx := frozA hwx; have hzx := hwx.size; (try simp at hzx)); unfold zAt; (try simp [go_sem, BigFrame.eval_const, BigFrame.eval_global, BigFrame.eval_func, ↓IntWalk.iteOmega, *]); (try simp only [zUpon]); (first | exact ⟨rfl, Below.refl _ _⟩ | fail))); (try go_simp))
        (refine wz_new (fun b => .pointer (some ⟨b, 0, none⟩)) _ _ (by decide) (by decide) (by decide) C0e.es (growsB (by simp)) (by first | rfl | (go_simp; done)) (by intro b b' h; simp at h; omega) (by simp) (fun _ _ h => Below.size h) (fun bs hok wx hwx hL => by (have hwx : Below _ _ wx := hwx; have hcx := cellA hwx; have hfx := frozA hwx; have hzx := hwx.size; (try simp at hzx)); (try simp [go_sem, BigFrame.eval_const, BigFrame.eval_global, BigFrame.eval_func, ↓IntWalk.iteOmega, *]); first | done | rfl) ?_; intro b10 hb10 F10 hF10; (try simp at hb10); (try go_simp))
        refine wz_nil ?_
        intro wq hbq hLq
        have hm10 := hF10 _ (hLq.get 10 (by simp))
        obtain ⟨hk10, hx10, hg10, hy10, hl10⟩ := blk hm10
        clear hLq hF10
        have hcwq := cellA hbq
        have hfwq := frozA hbq
        have hzwq := hbq.size
        try simp at hzwq
        have HQ := Lib.hid (HS.out.addBlk hbq hm10 hb10 rfl)
        go_wp2_with (go_at_call 48; refine (cmd_sep b cv (.slice none 0 0) { d with inn := false, body := [], iac := false, long := false } c F _ ((((((((((HQ.out.setAt 0 rfl rfl).setAt 0 rfl rfl).setAt 0 rfl rfl).setAt 0 rfl rfl).setAt 1 rfl rfl).setAt 1 rfl rfl).setAt 1 rfl rfl).setAt 1 rfl rfl).tail).toNil 2 5 1 (by simp [drL, ins, del]))).mono ?_; rintro e w1 ⟨⟨v1, cv1, bv1, rfl, hs1⟩⟩; have HS1 := Lib.hid hs1; clear hs1)
        go_ret
        exact ⟨⟨_, _, _, rfl, HS1.out⟩⟩
      · have h4 : c.toNat = 240 := by omega
        have hd2 : ((c.toNat : Int) == 240) = true := by simp; omega
        cases hlg : d.long
        · have e : dsub d c = ({ d with inn := false, body := [], iac := false, long := false }, [⟨3, 0, d.opt, d.body⟩]) := by unfold dsub; rw [if_neg h1, if_pos h2, if_neg h3, if_neg (by simp [hlg])]
          rw [e]
          clear h1 h2 h3 e h4
          go_enter Tryd.func46, Tryd.ntmps46
          go_wp2_with fail
          refine wp_region_quiet0 (w := _) [10] [] 11 (by kernel_rfl) (by kernel_rfl) (fun _ _ dx _ _ hx => by cases dx <;> exact hx) ?_
          simp only [numbered, List.take_succ_cons, List.take_zero, List.drop_succ_cons, List.drop_zero, List.take_nil, List.drop_nil, Nat.reduceAdd]
          (refine wz_do (by decide) (by decide) C0e.es (growsB (by simp)) ?_ ?_; (focus (first | rfl | (go_simp; done))); apply Exists.intro; refine ⟨fun bs hok wx hwx hL => ?_, ?_⟩; (focus ((have hwx : Below _ _ wx := hwx; have hcx := cellA hwx; have hfx := frozA hwx; have hzx := hwx.size; (try simp at hzx)); unfold zAt; (try simp [go_sem, BigFrame.eval_const, BigFrame.eval_global, BigFrame.eval_func, ↓IntWalk.iteOmega, *]); (try simp only [zUpon]); (first | exact ⟨rfl, Below.refl _ _⟩ | fail))); (try go_simp))
          (refine wz_do (by decide) (by decide) C0e.es (growsB (by simp)) ?_ ?_; (focus (first | rfl | (go_simp; done))); apply Exists.intro; refine ⟨fun bs hok wx hwx hL => ?_, ?_⟩; (focus ((have hwx : Below _ _ wx := hwx; have hcx := cellA hwx; have hfx := frozA hwx; have hzx := hwx.size; (try simp at hzx)); unfold zAt; (try simp [go_sem, BigFrame.eval_const, BigFrame.eval_global, BigFrame.eval_func, ↓IntWalk.iteOmega, *]); (try simp only [zUpon]); (first | exact ⟨rfl, Below.refl _ _⟩ | fail))); (try go_simp))
          (refine wz_do (by decide) (by decide) C0e.es (growsB (by simp)) ?_ ?_; (focus (first | rfl | (go_simp; done))); apply Exists.intro; refine ⟨fun bs hok wx hwx hL => ?_, ?_⟩; (focus ((have hwx : Below _ _ wx := hwx; have hcx := cellA hwx; have hfx := frozA hwx; have hzx := hwx.size; (try simp at hzx)); unfold zAt; (try simp [go_sem, BigFrame.eval_const, BigFrame.eval_global, BigFrame.eval_func, ↓IntWalk.iteOmega, *]); (try simp only [zUpon]); (first | exact ⟨rfl, Below.refl _ _⟩ | fail))); (try go_simp))
          (refine wz_do (by decide) (by decide) C0e.es (growsB (by simp)) ?_ ?_; (focus (first | rfl | (go_simp; done))); apply Exists.intro; refine ⟨fun bs hok wx hwx hL => ?_, ?_⟩; (focus ((have hwx : Below _ _ wx := hwx; have hcx := cellA hwx; have hfx := frozA hwx; have hzx := hwx.size; (try simp at hzx)); unfold zAt; (try simp [go_sem, BigFrame.eval_const, BigFrame.eval_global, BigFrame.eval_func, ↓IntWalk.iteOmega, *]); (try simp only [zUpon]); (first | exact ⟨rfl, Below.refl _ _⟩ | fail))); (try go_simp))
          (refine wz_do (by decide) (by decide) C0e.es (growsB (by simp)) ?_ ?_; (focus (first | rfl | (go_simp; done))); apply Exists.intro; refine ⟨fun bs hok wx hwx hL => ?_, ?_⟩; (focus ((have hwx : Below _ _ wx := hwx; have hcx := cellA hwx; have hfx := frozA hwx; have hzx := hwx.size; (try simp at hzx)); unfold zAt; (try simp [go_sem, BigFrame.eval_const, BigFrame.eval_global, BigFrame.eval_func, ↓IntWalk.iteOmega, *]); (try simp only [zUpon]); (first | exact ⟨rfl, Below.refl _ _⟩ | fail))); (try go_simp))
          (refine wz_do (by decide) (by decide) C0e.es (growsB (by simp)) ?_ ?_; (focus (first | rfl | (go_simp; done))); apply Exists.intro; refine ⟨fun bs hok wx hwx hL => ?_, ?_⟩; (focus ((have hwx : Below _ _ wx := hwx; have hcx := cellA hwx; have hfx := frozA hwx; have hzx := hwx.size; (try simp at hzx)); unfold zAt; (try simp [go_sem, BigFrame.eval_const, BigFrame.eval_global, BigFrame.eval_func, ↓IntWalk.iteOmega, *]); (try simp only [zUpon]); (first | exact ⟨rfl, Below.refl _ _⟩ | fail))); (try go_simp))
          (refine wz_do (by decide) (by decide) C0e.es (growsB (by simp)) ?_ ?_; (focus (first | rfl | (go_simp; done))); apply Exists.intro; refine ⟨fun bs hok wx hwx hL => ?_, ?_⟩; (focus ((have hwx : Below _ _ wx := hwx; have hcx := cellA hwx; have hfx := frozA hwx; have hzx := hwx.size; (try simp at hzx)); unfold zAt; (try simp [go_sem, BigFrame.eval_const, BigFrame.eval_global, BigFrame.eval_func, ↓IntWalk.iteOmega, *]); (try simp only [zUpon]); (first | exact ⟨rfl, Below.refl _ _⟩ | fail))); (try go_simp))
          (refine wz_do (by decide) (by decide) C0e.es (growsB (by simp)) ?_ ?_; (focus (first | rfl | (go_simp; done))); apply Exists.intro; refine ⟨fun bs hok wx hwx hL => ?_, ?_⟩; (focus ((have hwx : Below _ _ wx := hwx; have hcx := cellA hwx; have hfx := frozA hwx; have hzx := hwx.size; (try simp at hzx)); unfold zAt; (try simp [go_sem, BigFrame.eval_const, BigFrame.eval_global, BigFrame.eval_func, ↓IntWalk.iteOmega, *]); (try simp only [zUpon]); (first | exact ⟨rfl, Below.refl _ _⟩ | fail))); (try go_simp))
          (refine wz_do (by decide) (by decide) C0e.es (growsB (by simp)) ?_ ?_; (focus (first | rfl | (go_simp; done))); apply Exists.intro; refine ⟨fun bs hok wx hwx hL => ?_, ?_⟩; (focus ((have hwx : Below _ _ wx := hwx; have hcx := cellA hwx; have hfx := frozA hwx; have hzx := hwx.size; (try simp at hzx)); unfold zAt; (try simp [go_sem, BigFrame.eval_const, BigFrame.eval_global, BigFrame.eval_func, ↓IntWalk.iteOmega, *]); (try simp only [zUpon]); (first | exact ⟨rfl, Below.refl _ _⟩ | fail))); (try go_simp))
          (refine wz_do (by decide) (by decide) C0e.es (growsB (by simp)) ?_ ?_; (focus (first | rfl | (go_simp; done))); apply Exists.intro; refine ⟨fun bs hok wx hwx hL => ?_, ?_⟩; (focus ((have hwx : Below _ _ wx := hwx; have hcx := cellA hwx; have hfx := frozA hwx; have hzx := hwx.size; (try simp at hzx)); unfold zAt; (try simp [go_sem, BigFrame.eval_const, BigFrame.eval_global, BigFrame.eval_func, ↓IntWalk.iteOmega, *]); (try simp only [zUpon]); (first | exact ⟨rfl, Below.refl _ _⟩ | fail))); (try go_simp))
          (refine wz_new (fun b => .pointer (some ⟨b, 0, none⟩)) _ _ (by decide) (by decide) (by decide) C0e.es (growsB (by simp)) (by first | rfl | (go_simp; done)) (by intro b b' h; simp at h; omega) (by simp) (fun _ _ h => Below.size h) (fun bs hok wx hwx hL => by (have hwx : Below _ _ wx := hwx; have hcx := cellA hwx; have hfx := frozA hwx; have hzx := hwx.size; (try simp at hzx)); (try simp [go_sem, BigFrame.eval_const, BigFrame.eval_global, BigFrame.eval_func, ↓IntWalk.iteOmega, *]); first | done | rfl) ?_; intro b10 hb10 F10 hF10; (try simp at hb10); (try go_simp))
          refine wz_nil ?_
          intro wq hbq hLq
          have hm10 := hF10 _ (hLq.get 10 (by simp))
          obtain ⟨hk10, hx10, hg10, hy10, hl10⟩ := blk hm10
          clear hLq hF10
          have hcwq := cellA hbq
          have hfwq := frozA hbq
          have hzwq := hbq.size
          try simp at hzwq
          have HQ := Lib.hid (HS.out.addBlk hbq hm10 hb10 rfl)
          go_wp2_with fail
          go_ret
          exact ⟨⟨_, _, _, rfl, Sep.tok ⟨3, 0, d.opt, d.body⟩ ((((((((((HQ.out.setAt 0 rfl rfl).setAt 0 rfl rfl).setAt 0 rfl rfl).setAt 0 rfl rfl).setAt 1 rfl rfl).setAt 1 rfl rfl).setAt 1 rfl rfl).setAt 1 rfl rfl).tail).toNil 2 5 1 (by simp [drL, ins, del])) (by simp) (by simp [tokCells])⟩⟩
        · have e : dsub d c = ({ d with inn := false, body := [], iac := false, long := false }, []) := by unfold dsub; rw [if_neg h1, if_pos h2, if_neg h3, if_pos hlg]
          rw [e]
          clear h1 h2 h3 e h4
          go_enter Tryd.func46, Tryd.ntmps46
          go_wp2_with fail
          refine wp_region_quiet0 (w := _) [10] [] 11 (by kernel_rfl) (by kernel_rfl) (fun _ _ dx _ _ hx => by cases dx <;> exact hx) ?_
          simp only [numbered, List.take_succ_cons, List.take_zero, List.drop_succ_cons, List.drop_zero, List.take_nil, List.drop_nil, Nat.reduceAdd]
          (refine wz_do (by decide) (by decide) C0e.es (growsB (by simp)) ?_ ?_; (focus (first | rfl | (go_simp; done))); apply Exists.intro; refine ⟨fun bs hok wx hwx hL => ?_, ?_⟩; (focus ((have hwx : Below _ _ wx := hwx; have hcx := cellA hwx; have hfx := frozA hwx; have hzx := hwx.size; (try simp at hzx)); unfold zAt; (try simp [go_sem, BigFrame.eval_const, BigFrame.eval_global, BigFrame.eval_func, ↓IntWalk.iteOmega, *]); (try simp only [zUpon]); (first | exact ⟨rfl, Below.refl _ _⟩ | fail))); (try go_simp))
          (refine wz_do (by decide) (by decide) C0e.es (growsB (by simp)) ?_ ?_; (focus (first | rfl | (go_simp; done))); apply Exists.intro; refine ⟨fun bs hok wx hwx hL => ?_, ?_⟩; (focus ((have hwx : Below _ _ wx := hwx; have hcx := cellA hwx; have hfx := frozA hwx; have hzx := hwx.size; (try simp at hzx)); unfold zAt; (try simp [go_sem, BigFrame.eval_const, BigFrame.eval_global, BigFrame.eval_func, ↓IntWalk.iteOmega, *]); (try simp only [zUpon]); (first | exact ⟨rfl, Below.refl _ _⟩ | fail))); (try go_simp))
          (refine wz_do (by decide) (by decide) C0e.es (growsB (by simp)) ?_ ?_; (focus (first | rfl | (go_simp; done))); apply Exists.intro; refine ⟨fun bs hok wx hwx hL => ?_, ?_⟩; (focus ((have hwx : Below _ _ wx := hwx; have hcx := cellA hwx; have hfx := frozA hwx; have hzx := hwx.size; (try simp at hzx)); unfold zAt; (try simp [go_sem, BigFrame.eval_const, BigFrame.eval_global, BigFrame.eval_func, ↓IntWalk.iteOmega, *]); (try simp only [zUpon]); (first | exact ⟨rfl, Below.refl _ _⟩ | fail))); (try go_simp))
          (refine wz_do (by decide) (by decide) C0e.es (growsB (by simp)) ?_ ?_; (focus (first | rfl | (go_simp; done))); apply Exists.intro; refine ⟨fun bs hok wx hwx hL => ?_, ?_⟩; (focus ((have hwx : Below _ _ wx := hwx; have hcx := cellA hwx; have hfx := frozA hwx; have hzx := hwx.size; (try simp at hzx)); unfold zAt; (try simp [go_sem, BigFrame.eval_const, BigFrame.eval_global, BigFrame.eval_func, ↓IntWalk.iteOmega, *]); (try simp only [zUpon]); (first | exact ⟨rfl, Below.refl _ _⟩ | fail))); (try go_simp))
          (refine wz_do (by decide) (by decide) C0e.es (growsB (by simp)) ?_ ?_; (focus (first | rfl | (go_simp; done))); apply Exists.intro; refine ⟨fun bs hok wx hwx hL => ?_, ?_⟩; (focus ((have hwx : Below _ _ wx := hwx; have hcx := cellA hwx; have hfx := frozA hwx; have hzx := hwx.size; (try simp at hzx)); unfold zAt; (try simp [go_sem, BigFrame.eval_const, BigFrame.eval_global, BigFrame.eval_func, ↓IntWalk.iteOmega, *]); (try simp only [zUpon]); (first | exact ⟨rfl, Below.refl _ _⟩ | fail))); (try go_simp))
          (refine wz_do (by decide) (by decide) C0e.es (growsB (by simp)) ?_ ?_; (focus (first | rfl | (go_simp; done))); apply Exists.intro; refine ⟨fun bs hok wx hwx hL => ?_, ?_⟩; (focus ((have hwx : Below _ _ wx := hwx; have hcx := cellA hwx; have hfx := frozA hwx; have hzx := hwx.size; (try simp at hzx)); unfold zAt; (try simp [go_sem, BigFrame.eval_const, BigFrame.eval_global, BigFrame.eval_func, ↓IntWalk.iteOmega, *]); (try simp only [zUpon]); (first | exact ⟨rfl, Below.refl _ _⟩ | fail))); (try go_simp))
          (refine wz_do (by decide) (by decide) C0e.es (growsB (by simp)) ?_ ?_; (focus (first | rfl | (go_simp; done))); apply Exists.intro; refine ⟨fun bs hok wx hwx hL => ?_, ?_⟩; (focus ((have hwx : Below _ _ wx := hwx; have hcx := cellA hwx; have hfx := frozA hwx; have hzx := hwx.size; (try simp at hzx)); unfold zAt; (try simp [go_sem, BigFrame.eval_const, BigFrame.eval_global, BigFrame.eval_func, ↓IntWalk.iteOmega, *]); (try simp only [zUpon]); (first | exact ⟨rfl, Below.refl _ _⟩ | fail))); (try go_simp))
          (refine wz_do (by decide) (by decide) C0e.es (growsB (by simp)) ?_ ?_; (focus (first | rfl | (go_simp; done))); apply Exists.intro; refine ⟨fun bs hok wx hwx hL => ?_, ?_⟩; (focus ((have hwx : Below _ _ wx := hwx; have hcx := cellA hwx; have hfx := frozA hwx; have hzx := hwx.size; (try simp at hzx)); unfold zAt; (try simp [go_sem, BigFrame.eval_const, BigFrame.eval_global, BigFrame.eval_func, ↓IntWalk.iteOmega, *]); (try simp only [zUpon]); (first | exact ⟨rfl, Below.refl _ _⟩ | fail))); (try go_simp))
          (refine wz_do (by decide) (by decide) C0e.es (growsB (by simp)) ?_ ?_; (focus (first | rfl | (go_simp; done))); apply Exists.intro; refine ⟨fun bs hok wx hwx hL => ?_, ?_⟩; (focus ((have hwx : Below _ _ wx := hwx; have hcx := cellA hwx; have hfx := frozA hwx; have hzx := hwx.size; (try simp at hzx)); unfold zAt; (try simp [go_sem, BigFrame.eval_const, BigFrame.eval_global, BigFrame.eval_func, ↓IntWalk.iteOmega, *]); (try simp only [zUpon]); (first | exact ⟨rfl, Below.refl _ _⟩ | fail))); (try go_simp))
          (refine wz_do (by decide) (by decide) C0e.es (growsB (by simp)) ?_ ?_; (focus (first | rfl | (go_simp; done))); apply Exists.intro; refine ⟨fun bs hok wx hwx hL => ?_, ?_⟩; (focus ((have hwx : Below _ _ wx := hwx; have hcx := cellA hwx; have hfx := frozA hwx; have hzx := hwx.size; (try simp at hzx)); unfold zAt; (try simp [go_sem, BigFrame.eval_const, BigFrame.eval_global, BigFrame.eval_func, ↓IntWalk.iteOmega, *]); (try simp only [zUpon]); (first | exact ⟨rfl, Below.refl _ _⟩ | fail))); (try go_simp))
          (refine wz_new (fun b => .pointer (some ⟨b, 0, none⟩)) _ _ (by decide) (by decide) (by decide) C0e.es (growsB (by simp)) (by first | rfl | (go_simp; done)) (by intro b b' h; simp at h; omega) (by simp) (fun _ _ h => Below.size h) (fun bs hok wx hwx hL => by (have hwx : Below _ _ wx := hwx; have hcx := cellA hwx; have hfx := frozA hwx; have hzx := hwx.size; (try simp at hzx)); (try simp [go_sem, BigFrame.eval_const, BigFrame.eval_global, BigFrame.eval_func, ↓IntWalk.iteOmega, *]); first | done | rfl) ?_; intro b10 hb10 F10 hF10; (try simp at hb10); (try go_simp))
          refine wz_nil ?_
          intro wq hbq hLq
          have hm10 := hF10 _ (hLq.get 10 (by simp))
          obtain ⟨hk10, hx10, hg10, hy10, hl10⟩ := blk hm10
          clear hLq hF10
          have hcwq := cellA hbq
          have hfwq := frozA hbq
          have hzwq := hbq.size
          try simp at hzwq
          have HQ := Lib.hid (HS.out.addBlk hbq hm10 hb10 rfl)
          go_wp2_with fail
          go_ret
          exact ⟨⟨_, _, _, rfl, ((((((((((HQ.out.setAt 0 rfl rfl).setAt 0 rfl rfl).setAt 0 rfl rfl).setAt 0 rfl rfl).setAt 1 rfl rfl).setAt 1 rfl rfl).setAt 1 rfl rfl).setAt 1 rfl rfl).tail).toNil 2 5 1 (by simp [drL, ins, del])).nilRow⟩⟩
    · have h5 : (d.iac = false ∧ ((c.toNat : Int) == 255) = false) ∨ (d.iac = true ∧ ((c.toNat : Int) == 255) = true) := by
        cases hi : d.iac
        · left; simp [hi] at h1; refine ⟨rfl, ?_⟩; simp; omega
        · right; simp [hi] at h2; refine ⟨rfl, ?_⟩; simp; omega
      by_cases h6 : 40 ≤ d.body.length
      · have e : dsub d c = ({ d with iac := false, long := true }, []) := by unfold dsub; rw [if_neg h1, if_neg h2, if_pos h6]
        rw [e]
        have hd2 : decide ((40 : Int) ≤ (d.body.length : Int)) = true := by simp; omega
        clear h1 h2 h6 e
        rcases h5 with ⟨hi, hd⟩ | ⟨hi, hd⟩
        all_goals
          go_enter Tryd.func46, Tryd.ntmps46
          go_wp2_with fail
          go_ret
          exact ⟨⟨_, _, _, rfl, Sep.nilRow ((HS.out.setAt 0 rfl rfl).setAt 0 rfl rfl)⟩⟩
      · have e : dsub d c = ({ d with iac := false, body := d.body ++ [c] }, []) := by unfold dsub; rw [if_neg h1, if_neg h2, if_neg h6]
        rw [e]
        have hd2 : decide ((40 : Int) ≤ (d.body.length : Int)) = false := by simp; omega
        clear h1 h2 h6 e
        rcases h5 with ⟨hi, hd⟩ | ⟨hi, hd⟩
        all_goals
          go_enter Tryd.func46, Tryd.ntmps46
          go_wp2_with (at_builtin; refine wpList_appS rfl (.tmp 77) (.tmp 79) 54 rfl 5 i0 (.int .u8 0) 1 1 Tryd.underlying54 iI.out ia ib ic rfl (by decide) _ _ _ _ rfl (Sep.alloc0 (Sep.front (HS.out.setAt 0 rfl rfl) 2 rfl)) ⟨_, 0, none⟩ 1 _ [_] rfl (by rfl) (news1 _ _ _ _ (by simp)) (by simp [Value.oneCell']) (by first | decide | omega) (by first | omega | (simp; omega)) (by decide) ?_; intro g2 cap2 w2 hs2 hz2; have HS2 := Lib.hid hs2; clear hs2; obtain ⟨ec2, ef2, el2⟩ := HS2.out.cellsAt 1 rfl)
          go_ret
          have h7 := (HS2.out.setAt 1 (i := 5) (v := .slice (some ⟨g2, 0, none⟩) (d.body.length + 1) cap2) rfl rfl).back 2
          exact ⟨⟨_, _, _, rfl, Sep.nilRow (by simpa [drL, u8, ins, del] using h7)⟩⟩
end Go.Proofs.YtemdhbjcdibpfaaDoor.W2
