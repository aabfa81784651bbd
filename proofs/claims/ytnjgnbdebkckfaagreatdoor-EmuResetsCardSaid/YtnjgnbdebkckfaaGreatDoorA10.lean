/- T1, E2, E3, E4 -/
import Derived.Test.YtnjgnbdebkckfaaGreatDoorA2
import Derived.Test.YtnjgnbdebkckfaaGreatDoorA7
import Derived.Test.YtnjgnbdebkckfaaGreatDoorA9
import Derived.Lib.Hide
set_option linter.unusedVariables false
set_option linter.unusedSimpArgs false
set_option linter.unnecessarySimpa false
namespace Go.Proofs.YtnjgnbdebkckfaaGreatDoor.T1
set_option maxRecDepth 100000
open Go.RowKit K1 K3 K5 K11 K12 K14 K20 K21 K22 K25 K30 K31 M0 C1 G1 G2 G3 G4 G5 G6 G7 G8 ME MF S3
attribute [local go_sem] cell_pastA froz_pastA
def emV (e0 e1 e2 e3 e4 e5 e6 e7 e8 e9 e10 e11 e12 e13 e14 e15 e16 e17 e18 e19 e20 e21 e22 e23 e24 e25 e26 e27 e28 e29 e30 e31 e32 e33 : Value) : List Value := [e0, e1, e2, e3, e4, e5, e6, e7, e8, e9, e10, e11, e12, e13, e14, e15, e16, e17, e18, e19, e20, e21, e22, e23, e24, e25, e26, e27, e28, e29, e30, e31, e32, e33]
@[reducible] def emQ (m : Em) (pv : Value) (pm po : Option Addr) (sv av : Value) : List Value := emV (.int .i64 m.cu.x) (.int .i64 m.cu.y) (.int .i64 m.cu.pen.fg) (.int .i64 m.cu.pen.bg) (.bool m.cu.pen.bold) (.bool m.cu.pen.under) (.bool m.cu.pen.inv) (.bool m.cu.origin) (.int .u8 m.cu.s0) (.int .u8 m.cu.s1) (.int .i64 m.cu.use) (.int .i64 m.kept.x) (.int .i64 m.kept.y) (.int .i64 m.kept.pen.fg) (.int .i64 m.kept.pen.bg) (.bool m.kept.pen.bold) (.bool m.kept.pen.under) (.bool m.kept.pen.inv) (.bool m.kept.origin) (.int .u8 m.kept.s0) (.int .u8 m.kept.s1) (.int .i64 m.kept.use) pv (.pointer pm) (.pointer po) (.bool m.alt) (.int .i64 m.top) (.int .i64 m.bottom) (.bool m.wrap) (.bool m.ins) (.bool m.hidden) (.bool m.late) sv av
section
variable (e0 e1 e2 e3 e4 e5 e6 e7 e8 e9 e10 e11 e12 e13 e14 e15 e16 e17 e18 e19 e20 e21 e22 e23 e24 e25 e26 e27 e28 e29 e30 e31 e32 e33 z : Value)
theorem emV_0 : (emV e0 e1 e2 e3 e4 e5 e6 e7 e8 e9 e10 e11 e12 e13 e14 e15 e16 e17 e18 e19 e20 e21 e22 e23 e24 e25 e26 e27 e28 e29 e30 e31 e32 e33)[0]? = some e0 := rfl
theorem emV_set0 : (emV e0 e1 e2 e3 e4 e5 e6 e7 e8 e9 e10 e11 e12 e13 e14 e15 e16 e17 e18 e19 e20 e21 e22 e23 e24 e25 e26 e27 e28 e29 e30 e31 e32 e33).set 0 z = emV z e1 e2 e3 e4 e5 e6 e7 e8 e9 e10 e11 e12 e13 e14 e15 e16 e17 e18 e19 e20 e21 e22 e23 e24 e25 e26 e27 e28 e29 e30 e31 e32 e33 := rfl
theorem emV_1 : (emV e0 e1 e2 e3 e4 e5 e6 e7 e8 e9 e10 e11 e12 e13 e14 e15 e16 e17 e18 e19 e20 e21 e22 e23 e24 e25 e26 e27 e28 e29 e30 e31 e32 e33)[1]? = some e1 := rfl
theorem emV_set1 : (emV e0 e1 e2 e3 e4 e5 e6 e7 e8 e9 e10 e11 e12 e13 e14 e15 e16 e17 e18 e19 e20 e21 e22 e23 e24 e25 e26 e27 e28 e29 e30 e31 e32 e33).set 1 z = emV e0 z e2 e3 e4 e5 e6 e7 e8 e9 e10 e11 e12 e13 e14 e15 e16 e17 e18 e19 e20 e21 e22 e23 e24 e25 e26 e27 e28 e29 e30 e31 e32 e33 := rfl
theorem emV_2 : (emV e0 e1 e2 e3 e4 e5 e6 e7 e8 e9 e10 e11 e12 e13 e14 e15 e16 e17 e18 e19 e20 e21 e22 e23 e24 e25 e26 e27 e28 e29 e30 e31 e32 e33)[2]? = some e2 := rfl
theorem emV_set2 : (emV e0 e1 e2 e3 e4 e5 e6 e7 e8 e9 e10 e11 e12 e13 e14 e15 e16 e17 e18 e19 e20 e21 e22 e23 e24 e25 e26 e27 e28 e29 e30 e31 e32 e33).set 2 z = emV e0 e1 z e3 e4 e5 e6 e7 e8 e9 e10 e11 e12 e13 e14 e15 e16 e17 e18 e19 e20 e21 e22 e23 e24 e25 e26 e27 e28 e29 e30 e31 e32 e33 := rfl
theorem emV_3 : (emV e0 e1 e2 e3 e4 e5 e6 e7 e8 e9 e10 e11 e12 e13 e14 e15 e16 e17 e18 e19 e20 e21 e22 e23 e24 e25 e26 e27 e28 e29 e30 e31 e32 e33)[3]? = some e3 := rfl
theorem emV_set3 : (emV e0 e1 e2 e3 e4 e5 e6 e7 e8 e9 e10 e11 e12 e13 e14 e15 e16 e17 e18 e19 e20 e21 e22 e23 e24 e25 e26 e27 e28 e29 e30 e31 e32 e33).set 3 z = emV e0 e1 e2 z e4 e5 e6 e7 e8 e9 e10 e11 e12 e13 e14 e15 e16 e17 e18 e19 e20 e21 e22 e23 e24 e25 e26 e27 e28 e29 e30 e31 e32 e33 := rfl
theorem emV_4 : (emV e0 e1 e2 e3 e4 e5 e6 e7 e8 e9 e10 e11 e12 e13 e14 e15 e16 e17 e18 e19 e20 e21 e22 e23 e24 e25 e26 e27 e28 e29 e30 e31 e32 e33)[4]? = some e4 := rfl
theorem emV_set4 : (emV e0 e1 e2 e3 e4 e5 e6 e7 e8 e9 e10 e11 e12 e13 e14 e15 e16 e17 e18 e19 e20 e21 e22 e23 e24 e25 e26 e27 e28 e29 e30 e31 e32 e33).set 4 z = emV e0 e1 e2 e3 z e5 e6 e7 e8 e9 e10 e11 e12 e13 e14 e15 e16 e17 e18 e19 e20 e21 e22 e23 e24 e25 e26 e27 e28 e29 e30 e31 e32 e33 := rfl
theorem emV_5 : (emV e0 e1 e2 e3 e4 e5 e6 e7 e8 e9 e10 e11 e12 e13 e14 e15 e16 e17 e18 e19 e20 e21 e22 e23 e24 e25 e26 e27 e28 e29 e30 e31 e32 e33)[5]? = some e5 := rfl
theorem emV_set5 : (emV e0 e1 e2 e3 e4 e5 e6 e7 e8 e9 e10 e11 e12 e13 e14 e15 e16 e17 e18 e19 e20 e21 e22 e23 e24 e25 e26 e27 e28 e29 e30 e31 e32 e33).set 5 z = emV e0 e1 e2 e3 e4 z e6 e7 e8 e9 e10 e11 e12 e13 e14 e15 e16 e17 e18 e19 e20 e21 e22 e23 e24 e25 e26 e27 e28 e29 e30 e31 e32 e33 := rfl
theorem emV_6 : (emV e0 e1 e2 e3 e4 e5 e6 e7 e8 e9 e10 e11 e12 e13 e14 e15 e16 e17 e18 e19 e20 e21 e22 e23 e24 e25 e26 e27 e28 e29 e30 e31 e32 e33)[6]? = some e6 := rfl
theorem emV_set6 : (emV e0 e1 e2 e3 e4 e5 e6 e7 e8 e9 e10 e11 e12 e13 e14 e15 e16 e17 e18 e19 e20 e21 e22 e23 e24 e25 e26 e27 e28 e29 e30 e31 e32 e33).set 6 z = emV e0 e1 e2 e3 e4 e5 z e7 e8 e9 e10 e11 e12 e13 e14 e15 e16 e17 e18 e19 e20 e21 e22 e23 e24 e25 e26 e27 e28 e29 e30 e31 e32 e33 := rfl
theorem emV_7 : (emV e0 e1 e2 e3 e4 e5 e6 e7 e8 e9 e10 e11 e12 e13 e14 e15 e16 e17 e18 e19 e20 e21 e22 e23 e24 e25 e26 e27 e28 e29 e30 e31 e32 e33)[7]? = some e7 := rfl
theorem emV_set7 : (emV e0 e1 e2 e3 e4 e5 e6 e7 e8 e9 e10 e11 e12 e13 e14 e15 e16 e17 e18 e19 e20 e21 e22 e23 e24 e25 e26 e27 e28 e29 e30 e31 e32 e33).set 7 z = emV e0 e1 e2 e3 e4 e5 e6 z e8 e9 e10 e11 e12 e13 e14 e15 e16 e17 e18 e19 e20 e21 e22 e23 e24 e25 e26 e27 e28 e29 e30 e31 e32 e33 := rfl
theorem emV_8 : (emV e0 e1 e2 e3 e4 e5 e6 e7 e8 e9 e10 e11 e12 e13 e14 e15 e16 e17 e18 e19 e20 e21 e22 e23 e24 e25 e26 e27 e28 e29 e30 e31 e32 e33)[8]? = some e8 := rfl
theorem emV_set8 : (emV e0 e1 e2 e3 e4 e5 e6 e7 e8 e9 e10 e11 e12 e13 e14 e15 e16 e17 e18 e19 e20 e21 e22 e23 e24 e25 e26 e27 e28 e29 e30 e31 e32 e33).set 8 z = emV e0 e1 e2 e3 e4 e5 e6 e7 z e9 e10 e11 e12 e13 e14 e15 e16 e17 e18 e19 e20 e21 e22 e23 e24 e25 e26 e27 e28 e29 e30 e31 e32 e33 := rfl
theorem emV_9 : (emV e0 e1 e2 e3 e4 e5 e6 e7 e8 e9 e10 e11 e12 e13 e14 e15 e16 e17 e18 e19 e20 e21 e22 e23 e24 e25 e26 e27 e28 e29 e30 e31 e32 e33)[9]? = some e9 := rfl
theorem emV_set9 : (emV e0 e1 e2 e3 e4 e5 e6 e7 e8 e9 e10 e11 e12 e13 e14 e15 e16 e17 e18 e19 e20 e21 e22 e23 e24 e25 e26 e27 e28 e29 e30 e31 e32 e33).set 9 z = emV e0 e1 e2 e3 e4 e5 e6 e7 e8 z e10 e11 e12 e13 e14 e15 e16 e17 e18 e19 e20 e21 e22 e23 e24 e25 e26 e27 e28 e29 e30 e31 e32 e33 := rfl
theorem emV_10 : (emV e0 e1 e2 e3 e4 e5 e6 e7 e8 e9 e10 e11 e12 e13 e14 e15 e16 e17 e18 e19 e20 e21 e22 e23 e24 e25 e26 e27 e28 e29 e30 e31 e32 e33)[10]? = some e10 := rfl
theorem emV_set10 : (emV e0 e1 e2 e3 e4 e5 e6 e7 e8 e9 e10 e11 e12 e13 e14 e15 e16 e17 e18 e19 e20 e21 e22 e23 e24 e25 e26 e27 e28 e29 e30 e31 e32 e33).set 10 z = emV e0 e1 e2 e3 e4 e5 e6 e7 e8 e9 z e11 e12 e13 e14 e15 e16 e17 e18 e19 e20 e21 e22 e23 e24 e25 e26 e27 e28 e29 e30 e31 e32 e33 := rfl
theorem emV_11 : (emV e0 e1 e2 e3 e4 e5 e6 e7 e8 e9 e10 e11 e12 e13 e14 e15 e16 e17 e18 e19 e20 e21 e22 e23 e24 e25 e26 e27 e28 e29 e30 e31 e32 e33)[11]? = some e11 := rfl
theorem emV_set11 : (emV e0 e1 e2 e3 e4 e5 e6 e7 e8 e9 e10 e11 e12 e13 e14 e15 e16 e17 e18 e19 e20 e21 e22 e23 e24 e25 e26 e27 e28 e29 e30 e31 e32 e33).set 11 z = emV e0 e1 e2 e3 e4 e5 e6 e7 e8 e9 e10 z e12 e13 e14 e15 e16 e17 e18 e19 e20 e21 e22 e23 e24 e25 e26 e27 e28 e29 e30 e31 e32 e33 := rfl
theorem emV_12 : (emV e0 e1 e2 e3 e4 e5 e6 e7 e8 e9 e10 e11 e12 e13 e14 e15 e16 e17 e18 e19 e20 e21 e22 e23 e24 e25 e26 e27 e28 e29 e30 e31 e32 e33)[12]? = some e12 := rfl
theorem emV_set12 : (emV e0 e1 e2 e3 e4 e5 e6 e7 e8 e9 e10 e11 e12 e13 e14 e15 e16 e17 e18 e19 e20 e21 e22 e23 e24 e25 e26 e27 e28 e29 e30 e31 e32 e33).set 12 z = emV e0 e1 e2 e3 e4 e5 e6 e7 e8 e9 e10 e11 z e13 e14 e15 e16 e17 e18 e19 e20 e21 e22 e23 e24 e25 e26 e27 e28 e29 e30 e31 e32 e33 := rfl
theorem emV_13 : (emV e0 e1 e2 e3 e4 e5 e6 e7 e8 e9 e10 e11 e12 e13 e14 e15 e16 e17 e18 e19 e20 e21 e22 e23 e24 e25 e26 e27 e28 e29 e30 e31 e32 e33)[13]? = some e13 := rfl
theorem emV_set13 : (emV e0 e1 e2 e3 e4 e5 e6 e7 e8 e9 e10 e11 e12 e13 e14 e15 e16 e17 e18 e19 e20 e21 e22 e23 e24 e25 e26 e27 e28 e29 e30 e31 e32 e33).set 13 z = emV e0 e1 e2 e3 e4 e5 e6 e7 e8 e9 e10 e11 e12 z e14 e15 e16 e17 e18 e19 e20 e21 e22 e23 e24 e25 e26 e27 e28 e29 e30 e31 e32 e33 := rfl
theorem emV_14 : (emV e0 e1 e2 e3 e4 e5 e6 e7 e8 e9 e10 e11 e12 e13 e14 e15 e16 e17 e18 e19 e20 e21 e22 e23 e24 e25 e26 e27 e28 e29 e30 e31 e32 e33)[14]? = some e14 := rfl
theorem emV_set14 : (emV e0 e1 e2 e3 e4 e5 e6 e7 e8 e9 e10 e11 e12 e13 e14 e15 e16 e17 e18 e19 e20 e21 e22 e23 e24 e25 e26 e27 e28 e29 e30 e31 e32 e33).set 14 z = emV e0 e1 e2 e3 e4 e5 e6 e7 e8 e9 e10 e11 e12 e13 z e15 e16 e17 e18 e19 e20 e21 e22 e23 e24 e25 e26 e27 e28 e29 e30 e31 e32 e33 := rfl
theorem emV_15 : (emV e0 e1 e2 e3 e4 e5 e6 e7 e8 e9 e10 e11 e12 e13 e14 e15 e16 e17 e18 e19 e20 e21 e22 e23 e24 e25 e26 e27 e28 e29 e30 e31 e32 e33)[15]? = some e15 := rfl
theorem emV_set15 : (emV e0 e1 e2 e3 e4 e5 e6 e7 e8 e9 e10 e11 e12 e13 e14 e15 e16 e17 e18 e19 e20 e21 e22 e23 e24 e25 e26 e27 e28 e29 e30 e31 e32 e33).set 15 z = emV e0 e1 e2 e3 e4 e5 e6 e7 e8 e9 e10 e11 e12 e13 e14 z e16 e17 e18 e19 e20 e21 e22 e23 e24 e25 e26 e27 e28 e29 e30 e31 e32 e33 := rfl
theorem emV_16 : (emV e0 e1 e2 e3 e4 e5 e6 e7 e8 e9 e10 e11 e12 e13 e14 e15 e16 e17 e18 e19 e20 e21 e22 e23 e24 e25 e26 e27 e28 e29 e30 e31 e32 e33)[16]? = some e16 := rfl
theorem emV_set16 : (emV e0 e1 e2 e3 e4 e5 e6 e7 e8 e9 e10 e11 e12 e13 e14 e15 e16 e17 e18 e19 e20 e21 e22 e23 e24 e25 e26 e27 e28 e29 e30 e31 e32 e33).set 16 z = emV e0 e1 e2 e3 e4 e5 e6 e7 e8 e9 e10 e11 e12 e13 e14 e15 z e17 e18 e19 e20 e21 e22 e23 e24 e25 e26 e27 e28 e29 e30 e31 e32 e33 := rfl
theorem emV_17 : (emV e0 e1 e2 e3 e4 e5 e6 e7 e8 e9 e10 e11 e12 e13 e14 e15 e16 e17 e18 e19 e20 e21 e22 e23 e24 e25 e26 e27 e28 e29 e30 e31 e32 e33)[17]? = some e17 := rfl
theorem emV_set17 : (emV e0 e1 e2 e3 e4 e5 e6 e7 e8 e9 e10 e11 e12 e13 e14 e15 e16 e17 e18 e19 e20 e21 e22 e23 e24 e25 e26 e27 e28 e29 e30 e31 e32 e33).set 17 z = emV e0 e1 e2 e3 e4 e5 e6 e7 e8 e9 e10 e11 e12 e13 e14 e15 e16 z e18 e19 e20 e21 e22 e23 e24 e25 e26 e27 e28 e29 e30 e31 e32 e33 := rfl
theorem emV_18 : (emV e0 e1 e2 e3 e4 e5 e6 e7 e8 e9 e10 e11 e12 e13 e14 e15 e16 e17 e18 e19 e20 e21 e22 e23 e24 e25 e26 e27 e28 e29 e30 e31 e32 e33)[18]? = some e18 := rfl
theorem emV_set18 : (emV e0 e1 e2 e3 e4 e5 e6 e7 e8 e9 e10 e11 e12 e13 e14 e15 e16 e17 e18 e19 e20 e21 e22 e23 e24 e25 e26 e27 e28 e29 e30 e31 e32 e33).set 18 z = emV e0 e1 e2 e3 e4 e5 e6 e7 e8 e9 e10 e11 e12 e13 e14 e15 e16 e17 z e19 e20 e21 e22 e23 e24 e25 e26 e27 e28 e29 e30 e31 e32 e33 := rfl
theorem emV_19 : (emV e0 e1 e2 e3 e4 e5 e6 e7 e8 e9 e10 e11 e12 e13 e14 e15 e16 e17 e18 e19 e20 e21 e22 e23 e24 e25 e26 e27 e28 e29 e30 e31 e32 e33)[19]? = some e19 := rfl
theorem emV_set19 : (emV e0 e1 e2 e3 e4 e5 e6 e7 e8 e9 e10 e11 e12 e13 e14 e15 e16 e17 e18 e19 e20 e21 e22 e23 e24 e25 e26 e27 e28 e29 e30 e31 e32 e33).set 19 z = emV e0 e1 e2 e3 e4 e5 e6 e7 e8 e9 e10 e11 e12 e13 e14 e15 e16 e17 e18 z e20 e21 e22 e23 e24 e25 e26 e27 e28 e29 e30 e31 e32 e33 := rfl
theorem emV_20 : (emV e0 e1 e2 e3 e4 e5 e6 e7 e8 e9 e10 e11 e12 e13 e14 e15 e16 e17 e18 e19 e20 e21 e22 e23 e24 e25 e26 e27 e28 e29 e30 e31 e32 e33)[20]? = some e20 := rfl
theorem emV_set20 : (emV e0 e1 e2 e3 e4 e5 e6 e7 e8 e9 e10 e11 e12 e13 e14 e15 e16 e17 e18 e19 e20 e21 e22 e23 e24 e25 e26 e27 e28 e29 e30 e31 e32 e33).set 20 z = emV e0 e1 e2 e3 e4 e5 e6 e7 e8 e9 e10 e11 e12 e13 e14 e15 e16 e17 e18 e19 z e21 e22 e23 e24 e25 e26 e27 e28 e29 e30 e31 e32 e33 := rfl
theorem emV_21 : (emV e0 e1 e2 e3 e4 e5 e6 e7 e8 e9 e10 e11 e12 e13 e14 e15 e16 e17 e18 e19 e20 e21 e22 e23 e24 e25 e26 e27 e28 e29 e30 e31 e32 e33)[21]? = some e21 := rfl
theorem emV_set21 : (emV e0 e1 e2 e3 e4 e5 e6 e7 e8 e9 e10 e11 e12 e13 e14 e15 e16 e17 e18 e19 e20 e21 e22 e23 e24 e25 e26 e27 e28 e29 e30 e31 e32 e33).set 21 z = emV e0 e1 e2 e3 e4 e5 e6 e7 e8 e9 e10 e11 e12 e13 e14 e15 e16 e17 e18 e19 e20 z e22 e23 e24 e25 e26 e27 e28 e29 e30 e31 e32 e33 := rfl
theorem emV_22 : (emV e0 e1 e2 e3 e4 e5 e6 e7 e8 e9 e10 e11 e12 e13 e14 e15 e16 e17 e18 e19 e20 e21 e22 e23 e24 e25 e26 e27 e28 e29 e30 e31 e32 e33)[22]? = some e22 := rfl
theorem emV_set22 : (emV e0 e1 e2 e3 e4 e5 e6 e7 e8 e9 e10 e11 e12 e13 e14 e15 e16 e17 e18 e19 e20 e21 e22 e23 e24 e25 e26 e27 e28 e29 e30 e31 e32 e33).set 22 z = emV e0 e1 e2 e3 e4 e5 e6 e7 e8 e9 e10 e11 e12 e13 e14 e15 e16 e17 e18 e19 e20 e21 z e23 e24 e25 e26 e27 e28 e29 e30 e31 e32 e33 := rfl
theorem emV_23 : (emV e0 e1 e2 e3 e4 e5 e6 e7 e8 e9 e10 e11 e12 e13 e14 e15 e16 e17 e18 e19 e20 e21 e22 e23 e24 e25 e26 e27 e28 e29 e30 e31 e32 e33)[23]? = some e23 := rfl
theorem emV_set23 : (emV e0 e1 e2 e3 e4 e5 e6 e7 e8 e9 e10 e11 e12 e13 e14 e15 e16 e17 e18 e19 e20 e21 e22 e23 e24 e25 e26 e27 e28 e29 e30 e31 e32 e33).set 23 z = emV e0 e1 e2 e3 e4 e5 e6 e7 e8 e9 e10 e11 e12 e13 e14 e15 e16 e17 e18 e19 e20 e21 e22 z e24 e25 e26 e27 e28 e29 e30 e31 e32 e33 := rfl
theorem emV_24 : (emV e0 e1 e2 e3 e4 e5 e6 e7 e8 e9 e10 e11 e12 e13 e14 e15 e16 e17 e18 e19 e20 e21 e22 e23 e24 e25 e26 e27 e28 e29 e30 e31 e32 e33)[24]? = some e24 := rfl
theorem emV_set24 : (emV e0 e1 e2 e3 e4 e5 e6 e7 e8 e9 e10 e11 e12 e13 e14 e15 e16 e17 e18 e19 e20 e21 e22 e23 e24 e25 e26 e27 e28 e29 e30 e31 e32 e33).set 24 z = emV e0 e1 e2 e3 e4 e5 e6 e7 e8 e9 e10 e11 e12 e13 e14 e15 e16 e17 e18 e19 e20 e21 e22 e23 z e25 e26 e27 e28 e29 e30 e31 e32 e33 := rfl
theorem emV_25 : (emV e0 e1 e2 e3 e4 e5 e6 e7 e8 e9 e10 e11 e12 e13 e14 e15 e16 e17 e18 e19 e20 e21 e22 e23 e24 e25 e26 e27 e28 e29 e30 e31 e32 e33)[25]? = some e25 := rfl
theorem emV_set25 : (emV e0 e1 e2 e3 e4 e5 e6 e7 e8 e9 e10 e11 e12 e13 e14 e15 e16 e17 e18 e19 e20 e21 e22 e23 e24 e25 e26 e27 e28 e29 e30 e31 e32 e33).set 25 z = emV e0 e1 e2 e3 e4 e5 e6 e7 e8 e9 e10 e11 e12 e13 e14 e15 e16 e17 e18 e19 e20 e21 e22 e23 e24 z e26 e27 e28 e29 e30 e31 e32 e33 := rfl
theorem emV_26 : (emV e0 e1 e2 e3 e4 e5 e6 e7 e8 e9 e10 e11 e12 e13 e14 e15 e16 e17 e18 e19 e20 e21 e22 e23 e24 e25 e26 e27 e28 e29 e30 e31 e32 e33)[26]? = some e26 := rfl
theorem emV_set26 : (emV e0 e1 e2 e3 e4 e5 e6 e7 e8 e9 e10 e11 e12 e13 e14 e15 e16 e17 e18 e19 e20 e21 e22 e23 e24 e25 e26 e27 e28 e29 e30 e31 e32 e33).set 26 z = emV e0 e1 e2 e3 e4 e5 e6 e7 e8 e9 e10 e11 e12 e13 e14 e15 e16 e17 e18 e19 e20 e21 e22 e23 e24 e25 z e27 e28 e29 e30 e31 e32 e33 := rfl
theorem emV_27 : (emV e0 e1 e2 e3 e4 e5 e6 e7 e8 e9 e10 e11 e12 e13 e14 e15 e16 e17 e18 e19 e20 e21 e22 e23 e24 e25 e26 e27 e28 e29 e30 e31 e32 e33)[27]? = some e27 := rfl
theorem emV_set27 : (emV e0 e1 e2 e3 e4 e5 e6 e7 e8 e9 e10 e11 e12 e13 e14 e15 e16 e17 e18 e19 e20 e21 e22 e23 e24 e25 e26 e27 e28 e29 e30 e31 e32 e33).set 27 z = emV e0 e1 e2 e3 e4 e5 e6 e7 e8 e9 e10 e11 e12 e13 e14 e15 e16 e17 e18 e19 e20 e21 e22 e23 e24 e25 e26 z e28 e29 e30 e31 e32 e33 := rfl
theorem emV_28 : (emV e0 e1 e2 e3 e4 e5 e6 e7 e8 e9 e10 e11 e12 e13 e14 e15 e16 e17 e18 e19 e20 e21 e22 e23 e24 e25 e26 e27 e28 e29 e30 e31 e32 e33)[28]? = some e28 := rfl
theorem emV_set28 : (emV e0 e1 e2 e3 e4 e5 e6 e7 e8 e9 e10 e11 e12 e13 e14 e15 e16 e17 e18 e19 e20 e21 e22 e23 e24 e25 e26 e27 e28 e29 e30 e31 e32 e33).set 28 z = emV e0 e1 e2 e3 e4 e5 e6 e7 e8 e9 e10 e11 e12 e13 e14 e15 e16 e17 e18 e19 e20 e21 e22 e23 e24 e25 e26 e27 z e29 e30 e31 e32 e33 := rfl
theorem emV_29 : (emV e0 e1 e2 e3 e4 e5 e6 e7 e8 e9 e10 e11 e12 e13 e14 e15 e16 e17 e18 e19 e20 e21 e22 e23 e24 e25 e26 e27 e28 e29 e30 e31 e32 e33)[29]? = some e29 := rfl
theorem emV_set29 : (emV e0 e1 e2 e3 e4 e5 e6 e7 e8 e9 e10 e11 e12 e13 e14 e15 e16 e17 e18 e19 e20 e21 e22 e23 e24 e25 e26 e27 e28 e29 e30 e31 e32 e33).set 29 z = emV e0 e1 e2 e3 e4 e5 e6 e7 e8 e9 e10 e11 e12 e13 e14 e15 e16 e17 e18 e19 e20 e21 e22 e23 e24 e25 e26 e27 e28 z e30 e31 e32 e33 := rfl
theorem emV_30 : (emV e0 e1 e2 e3 e4 e5 e6 e7 e8 e9 e10 e11 e12 e13 e14 e15 e16 e17 e18 e19 e20 e21 e22 e23 e24 e25 e26 e27 e28 e29 e30 e31 e32 e33)[30]? = some e30 := rfl
theorem emV_set30 : (emV e0 e1 e2 e3 e4 e5 e6 e7 e8 e9 e10 e11 e12 e13 e14 e15 e16 e17 e18 e19 e20 e21 e22 e23 e24 e25 e26 e27 e28 e29 e30 e31 e32 e33).set 30 z = emV e0 e1 e2 e3 e4 e5 e6 e7 e8 e9 e10 e11 e12 e13 e14 e15 e16 e17 e18 e19 e20 e21 e22 e23 e24 e25 e26 e27 e28 e29 z e31 e32 e33 := rfl
theorem emV_31 : (emV e0 e1 e2 e3 e4 e5 e6 e7 e8 e9 e10 e11 e12 e13 e14 e15 e16 e17 e18 e19 e20 e21 e22 e23 e24 e25 e26 e27 e28 e29 e30 e31 e32 e33)[31]? = some e31 := rfl
theorem emV_set31 : (emV e0 e1 e2 e3 e4 e5 e6 e7 e8 e9 e10 e11 e12 e13 e14 e15 e16 e17 e18 e19 e20 e21 e22 e23 e24 e25 e26 e27 e28 e29 e30 e31 e32 e33).set 31 z = emV e0 e1 e2 e3 e4 e5 e6 e7 e8 e9 e10 e11 e12 e13 e14 e15 e16 e17 e18 e19 e20 e21 e22 e23 e24 e25 e26 e27 e28 e29 e30 z e32 e33 := rfl
theorem emV_32 : (emV e0 e1 e2 e3 e4 e5 e6 e7 e8 e9 e10 e11 e12 e13 e14 e15 e16 e17 e18 e19 e20 e21 e22 e23 e24 e25 e26 e27 e28 e29 e30 e31 e32 e33)[32]? = some e32 := rfl
theorem emV_set32 : (emV e0 e1 e2 e3 e4 e5 e6 e7 e8 e9 e10 e11 e12 e13 e14 e15 e16 e17 e18 e19 e20 e21 e22 e23 e24 e25 e26 e27 e28 e29 e30 e31 e32 e33).set 32 z = emV e0 e1 e2 e3 e4 e5 e6 e7 e8 e9 e10 e11 e12 e13 e14 e15 e16 e17 e18 e19 e20 e21 e22 e23 e24 e25 e26 e27 e28 e29 e30 e31 z e33 := rfl
theorem emV_33 : (emV e0 e1 e2 e3 e4 e5 e6 e7 e8 e9 e10 e11 e12 e13 e14 e15 e16 e17 e18 e19 e20 e21 e22 e23 e24 e25 e26 e27 e28 e29 e30 e31 e32 e33)[33]? = some e33 := rfl
theorem emV_set33 : (emV e0 e1 e2 e3 e4 e5 e6 e7 e8 e9 e10 e11 e12 e13 e14 e15 e16 e17 e18 e19 e20 e21 e22 e23 e24 e25 e26 e27 e28 e29 e30 e31 e32 e33).set 33 z = emV e0 e1 e2 e3 e4 e5 e6 e7 e8 e9 e10 e11 e12 e13 e14 e15 e16 e17 e18 e19 e20 e21 e22 e23 e24 e25 e26 e27 e28 e29 e30 e31 e32 z := rfl
end
structure EmAt (w : World) (b : Nat) (cs : List Value) : Prop where
  cell : ∀ i, w.cell? ⟨b, i, none⟩ = cs[i]?
  lt : b < w.heap.size
theorem EmAt.low {w w' : World} {b : Nat} {cs : List Value} (h : EmAt w b cs) (hb : Below w.heap.size w w') : EmAt w' b cs := ⟨fun i => (World.cell?_of_block (hb.block b h.lt)).trans (h.cell i), Nat.lt_of_lt_of_le h.lt hb.size⟩
theorem EmAt.of {w : World} {L L' : List Res} {b : Nat} {cs : List Value} (h : Sep w L) (hr : Rm L (.blk b cs 108) L') : EmAt w b cs := ⟨(h.here hr).1, (h.here hr).2.2⟩
structure EmP (b cb gb gc : Nat) (pv : Value) (pm po : Option Addr) (sv av : Value) (m : Em) (g : Gr) (F : List Res) (e : Ending) (w' : World) : Prop where
  out : e = .returned (.tuple #[]) ∧ Sep w' (.blk b (emV (.int .i64 m.cu.x) (.int .i64 m.cu.y) (.int .i64 m.cu.pen.fg) (.int .i64 m.cu.pen.bg) (.bool m.cu.pen.bold) (.bool m.cu.pen.under) (.bool m.cu.pen.inv) (.bool m.cu.origin) (.int .u8 m.cu.s0) (.int .u8 m.cu.s1) (.int .i64 m.cu.use) (.int .i64 m.kept.x) (.int .i64 m.kept.y) (.int .i64 m.kept.pen.fg) (.int .i64 m.kept.pen.bg) (.bool m.kept.pen.bold) (.bool m.kept.pen.under) (.bool m.kept.pen.inv) (.bool m.kept.origin) (.int .u8 m.kept.s0) (.int .u8 m.kept.s1) (.int .i64 m.kept.use) pv (.pointer pm) (.pointer po) (.bool m.alt) (.int .i64 m.top) (.int .i64 m.bottom) (.bool m.wrap) (.bool m.ins) (.bool m.hidden) (.bool m.late) sv av) 108 :: gL cb gb gc g F)
theorem setCg_m (t : Te) (g : Gr) : (t.setCg g).m = t.m := by unfold Te.setCg; split <;> rfl
theorem setCg_cg (t : Te) (g : Gr) : (t.setCg g).cg = g := by unfold Te.setCg Te.cg; split <;> (rename_i h; simp [h])
theorem setCg_s (t : Te) (g : Gr) : (t.setCg g).s = t.s := by unfold Te.setCg; split <;> rfl
theorem setCg_og (t : Te) (g : Gr) : (t.setCg g).og = t.og := by unfold Te.setCg Te.og; split <;> (rename_i h; simp [h])
theorem grid_any (b : Nat) (alt : Bool) (pm po p : Option Addr) (w : World) (h25 : w.cell? ⟨b, 25, none⟩ = some (.bool alt)) (h23 : w.cell? ⟨b, 23, none⟩ = some (.pointer pm)) (h24 : w.cell? ⟨b, 24, none⟩ = some (.pointer po)) (hp : (if alt = true then po else pm) = p) :
    Calls Tryz.prog 51 #[.pointer (some ⟨b, 0, none⟩)] w fun e w' => e = .returned (.pointer p) ∧ Below w.heap.size w w' := by
  subst hp
  cases alt with
  | true =>
    go_enter Tryz.func51, Tryz.ntmps51
    go_wp2_with fail
    go_ret
    exact ⟨rfl, Below.refl _ _⟩
  | false =>
    go_enter Tryz.func51, Tryz.ntmps51
    go_wp2_with fail
    go_ret
    exact ⟨rfl, Below.refl _ _⟩
theorem grid_c (b : Nat) (cs : List Value) (alt : Bool) (pm po p : Option Addr) (w : World) (h : EmAt w b cs) (h25 : cs[25]? = some (.bool alt)) (h23 : cs[23]? = some (.pointer pm)) (h24 : cs[24]? = some (.pointer po)) (hp : (if alt = true then po else pm) = p) :
    Calls Tryz.prog 51 #[.pointer (some ⟨b, 0, none⟩)] w fun e w' => e = .returned (.pointer p) ∧ Below w.heap.size w w' :=
  grid_any b alt pm po p w ((h.cell 25).trans h25) ((h.cell 23).trans h23) ((h.cell 24).trans h24) hp
theorem blankE_any (b : Nat) (a : At) (w : World) (hb : b < w.heap.size) (h2 : w.cell? ⟨b, 2, none⟩ = some (.int .i64 a.fg)) (h3 : w.cell? ⟨b, 3, none⟩ = some (.int .i64 a.bg)) (h4 : w.cell? ⟨b, 4, none⟩ = some (.bool a.bold)) (h5 : w.cell? ⟨b, 5, none⟩ = some (.bool a.under)) (h6 : w.cell? ⟨b, 6, none⟩ = some (.bool a.inv)) :
    Calls Tryz.prog 80 #[.pointer (some ⟨b, 0, none⟩)] w fun e w' => e = .returned (ceA (blankC a)) ∧ Below w.heap.size w w' := by
  go_enter Tryz.func80, Tryz.ntmps80
  go_wp2_with (first | (go_at_call 62; refine (blank_any a _).mono ?_; rintro e w1 ⟨rfl, hb1⟩; obtain ⟨hc1, hf1, hz1⟩ := aft hb1; try simp at hz1))
  refine bodyPost_ret (v := ceA (blankC a)) (by simp [results, Tryz.results80, go_sem, blankC, ceA, ↓IntWalk.iteOmega, *]) rfl (And.intro rfl ?_)
  repeat' (first | with_reducible assumption | with_reducible exact Below.refl _ _ | with_reducible apply Below.alloc | with_reducible apply Below.setCell | with_reducible apply Below.drew | (refine Below.trans ?_ (Below.mono (by with_reducible assumption) ?_)) | omega | (simp; omega) | (simp; done))
theorem blankE_c (b : Nat) (cs : List Value) (a : At) (w : World) (h : EmAt w b cs) (h2 : cs[2]? = some (.int .i64 a.fg)) (h3 : cs[3]? = some (.int .i64 a.bg)) (h4 : cs[4]? = some (.bool a.bold)) (h5 : cs[5]? = some (.bool a.under)) (h6 : cs[6]? = some (.bool a.inv)) :
    Calls Tryz.prog 80 #[.pointer (some ⟨b, 0, none⟩)] w fun e w' => e = .returned (ceA (blankC a)) ∧ Below w.heap.size w w' :=
  blankE_any b a w h.lt ((h.cell 2).trans h2) ((h.cell 3).trans h3) ((h.cell 4).trans h4) ((h.cell 5).trans h5) ((h.cell 6).trans h6)
theorem emV_sets : type_of% @World.size_alloc ∧ type_of% @World.size_setCell ∧ type_of% @emV_set0 ∧ type_of% @emV_set1 ∧ type_of% @emV_set2 ∧ type_of% @emV_set3 ∧ type_of% @emV_set4 ∧ type_of% @emV_set5 ∧ type_of% @emV_set6 ∧ type_of% @emV_set7 ∧ type_of% @emV_set8 ∧ type_of% @emV_set9 ∧ type_of% @emV_set10 ∧ type_of% @emV_set11 ∧ type_of% @emV_set12 ∧ type_of% @emV_set13 ∧ type_of% @emV_set14 ∧ type_of% @emV_set15 ∧ type_of% @emV_set16 ∧ type_of% @emV_set17 ∧ type_of% @emV_set18 ∧ type_of% @emV_set19 ∧ type_of% @emV_set20 ∧ type_of% @emV_set21 ∧ type_of% @emV_set22 ∧ type_of% @emV_set23 ∧ type_of% @emV_set24 ∧ type_of% @emV_set25 ∧ type_of% @emV_set26 ∧ type_of% @emV_set27 ∧ type_of% @emV_set28 ∧ type_of% @emV_set29 ∧ type_of% @emV_set30 ∧ type_of% @emV_set31 ∧ type_of% @emV_set32 ∧ type_of% @emV_set33 := ⟨@World.size_alloc, @World.size_setCell, @emV_set0, @emV_set1, @emV_set2, @emV_set3, @emV_set4, @emV_set5, @emV_set6, @emV_set7, @emV_set8, @emV_set9, @emV_set10, @emV_set11, @emV_set12, @emV_set13, @emV_set14, @emV_set15, @emV_set16, @emV_set17, @emV_set18, @emV_set19, @emV_set20, @emV_set21, @emV_set22, @emV_set23, @emV_set24, @emV_set25, @emV_set26, @emV_set27, @emV_set28, @emV_set29, @emV_set30, @emV_set31, @emV_set32, @emV_set33⟩
section
variable {w : World} {L L1 : List Res} {b : Nat} {t : TypeId} {e0 e1 e2 e3 e4 e5 e6 e7 e8 e9 e10 e11 e12 e13 e14 e15 e16 e17 e18 e19 e20 e21 e22 e23 e24 e25 e26 e27 e28 e29 e30 e31 e32 e33 : Value}
theorem f0 (h : Sep w L) (h1 : Rm L (.blk b (emV e0 e1 e2 e3 e4 e5 e6 e7 e8 e9 e10 e11 e12 e13 e14 e15 e16 e17 e18 e19 e20 e21 e22 e23 e24 e25 e26 e27 e28 e29 e30 e31 e32 e33) t) L1) : w.cell? ⟨b, 0, none⟩ = some e0 ∧ (∀ i, w.frozen? ⟨b, i, none⟩ = false) ∧ b < w.heap.size := ⟨(h.here h1).1 0, (h.here h1).2⟩
theorem f0_1 (h : Sep w L) (h1 : Rm L (.blk b (emV e0 e1 e2 e3 e4 e5 e6 e7 e8 e9 e10 e11 e12 e13 e14 e15 e16 e17 e18 e19 e20 e21 e22 e23 e24 e25 e26 e27 e28 e29 e30 e31 e32 e33) t) L1) : w.cell? ⟨b, 0, none⟩ = some e0 ∧ w.cell? ⟨b, 1, none⟩ = some e1 ∧ (∀ i, w.frozen? ⟨b, i, none⟩ = false) ∧ b < w.heap.size := ⟨(h.here h1).1 0, (h.here h1).1 1, (h.here h1).2⟩
theorem f0_1_2_3_4_5_6_7_8_9_10_11_12_13_14_15_16_17_18_19_20_21_31 (h : Sep w L) (h1 : Rm L (.blk b (emV e0 e1 e2 e3 e4 e5 e6 e7 e8 e9 e10 e11 e12 e13 e14 e15 e16 e17 e18 e19 e20 e21 e22 e23 e24 e25 e26 e27 e28 e29 e30 e31 e32 e33) t) L1) : w.cell? ⟨b, 0, none⟩ = some e0 ∧ w.cell? ⟨b, 1, none⟩ = some e1 ∧ w.cell? ⟨b, 2, none⟩ = some e2 ∧ w.cell? ⟨b, 3, none⟩ = some e3 ∧ w.cell? ⟨b, 4, none⟩ = some e4 ∧ w.cell? ⟨b, 5, none⟩ = some e5 ∧ w.cell? ⟨b, 6, none⟩ = some e6 ∧ w.cell? ⟨b, 7, none⟩ = some e7 ∧ w.cell? ⟨b, 8, none⟩ = some e8 ∧ w.cell? ⟨b, 9, none⟩ = some e9 ∧ w.cell? ⟨b, 10, none⟩ = some e10 ∧ w.cell? ⟨b, 11, none⟩ = some e11 ∧ w.cell? ⟨b, 12, none⟩ = some e12 ∧ w.cell? ⟨b, 13, none⟩ = some e13 ∧ w.cell? ⟨b, 14, none⟩ = some e14 ∧ w.cell? ⟨b, 15, none⟩ = some e15 ∧ w.cell? ⟨b, 16, none⟩ = some e16 ∧ w.cell? ⟨b, 17, none⟩ = some e17 ∧ w.cell? ⟨b, 18, none⟩ = some e18 ∧ w.cell? ⟨b, 19, none⟩ = some e19 ∧ w.cell? ⟨b, 20, none⟩ = some e20 ∧ w.cell? ⟨b, 21, none⟩ = some e21 ∧ w.cell? ⟨b, 31, none⟩ = some e31 ∧ (∀ i, w.frozen? ⟨b, i, none⟩ = false) ∧ b < w.heap.size := ⟨(h.here h1).1 0, (h.here h1).1 1, (h.here h1).1 2, (h.here h1).1 3, (h.here h1).1 4, (h.here h1).1 5, (h.here h1).1 6, (h.here h1).1 7, (h.here h1).1 8, (h.here h1).1 9, (h.here h1).1 10, (h.here h1).1 11, (h.here h1).1 12, (h.here h1).1 13, (h.here h1).1 14, (h.here h1).1 15, (h.here h1).1 16, (h.here h1).1 17, (h.here h1).1 18, (h.here h1).1 19, (h.here h1).1 20, (h.here h1).1 21, (h.here h1).1 31, (h.here h1).2⟩
theorem f0_1_2_3_4_5_6_7_25_26_28_30_31 (h : Sep w L) (h1 : Rm L (.blk b (emV e0 e1 e2 e3 e4 e5 e6 e7 e8 e9 e10 e11 e12 e13 e14 e15 e16 e17 e18 e19 e20 e21 e22 e23 e24 e25 e26 e27 e28 e29 e30 e31 e32 e33) t) L1) : w.cell? ⟨b, 0, none⟩ = some e0 ∧ w.cell? ⟨b, 1, none⟩ = some e1 ∧ w.cell? ⟨b, 2, none⟩ = some e2 ∧ w.cell? ⟨b, 3, none⟩ = some e3 ∧ w.cell? ⟨b, 4, none⟩ = some e4 ∧ w.cell? ⟨b, 5, none⟩ = some e5 ∧ w.cell? ⟨b, 6, none⟩ = some e6 ∧ w.cell? ⟨b, 7, none⟩ = some e7 ∧ w.cell? ⟨b, 25, none⟩ = some e25 ∧ w.cell? ⟨b, 26, none⟩ = some e26 ∧ w.cell? ⟨b, 28, none⟩ = some e28 ∧ w.cell? ⟨b, 30, none⟩ = some e30 ∧ w.cell? ⟨b, 31, none⟩ = some e31 ∧ (∀ i, w.frozen? ⟨b, i, none⟩ = false) ∧ b < w.heap.size := ⟨(h.here h1).1 0, (h.here h1).1 1, (h.here h1).1 2, (h.here h1).1 3, (h.here h1).1 4, (h.here h1).1 5, (h.here h1).1 6, (h.here h1).1 7, (h.here h1).1 25, (h.here h1).1 26, (h.here h1).1 28, (h.here h1).1 30, (h.here h1).1 31, (h.here h1).2⟩
theorem f0_1_2_3_4_5_6_28_31 (h : Sep w L) (h1 : Rm L (.blk b (emV e0 e1 e2 e3 e4 e5 e6 e7 e8 e9 e10 e11 e12 e13 e14 e15 e16 e17 e18 e19 e20 e21 e22 e23 e24 e25 e26 e27 e28 e29 e30 e31 e32 e33) t) L1) : w.cell? ⟨b, 0, none⟩ = some e0 ∧ w.cell? ⟨b, 1, none⟩ = some e1 ∧ w.cell? ⟨b, 2, none⟩ = some e2 ∧ w.cell? ⟨b, 3, none⟩ = some e3 ∧ w.cell? ⟨b, 4, none⟩ = some e4 ∧ w.cell? ⟨b, 5, none⟩ = some e5 ∧ w.cell? ⟨b, 6, none⟩ = some e6 ∧ w.cell? ⟨b, 28, none⟩ = some e28 ∧ w.cell? ⟨b, 31, none⟩ = some e31 ∧ (∀ i, w.frozen? ⟨b, i, none⟩ = false) ∧ b < w.heap.size := ⟨(h.here h1).1 0, (h.here h1).1 1, (h.here h1).1 2, (h.here h1).1 3, (h.here h1).1 4, (h.here h1).1 5, (h.here h1).1 6, (h.here h1).1 28, (h.here h1).1 31, (h.here h1).2⟩
theorem f0_1_2_3_4_5_6_29 (h : Sep w L) (h1 : Rm L (.blk b (emV e0 e1 e2 e3 e4 e5 e6 e7 e8 e9 e10 e11 e12 e13 e14 e15 e16 e17 e18 e19 e20 e21 e22 e23 e24 e25 e26 e27 e28 e29 e30 e31 e32 e33) t) L1) : w.cell? ⟨b, 0, none⟩ = some e0 ∧ w.cell? ⟨b, 1, none⟩ = some e1 ∧ w.cell? ⟨b, 2, none⟩ = some e2 ∧ w.cell? ⟨b, 3, none⟩ = some e3 ∧ w.cell? ⟨b, 4, none⟩ = some e4 ∧ w.cell? ⟨b, 5, none⟩ = some e5 ∧ w.cell? ⟨b, 6, none⟩ = some e6 ∧ w.cell? ⟨b, 29, none⟩ = some e29 ∧ (∀ i, w.frozen? ⟨b, i, none⟩ = false) ∧ b < w.heap.size := ⟨(h.here h1).1 0, (h.here h1).1 1, (h.here h1).1 2, (h.here h1).1 3, (h.here h1).1 4, (h.here h1).1 5, (h.here h1).1 6, (h.here h1).1 29, (h.here h1).2⟩
theorem f0_1_2_3_4_5_6_29_31_32 (h : Sep w L) (h1 : Rm L (.blk b (emV e0 e1 e2 e3 e4 e5 e6 e7 e8 e9 e10 e11 e12 e13 e14 e15 e16 e17 e18 e19 e20 e21 e22 e23 e24 e25 e26 e27 e28 e29 e30 e31 e32 e33) t) L1) : w.cell? ⟨b, 0, none⟩ = some e0 ∧ w.cell? ⟨b, 1, none⟩ = some e1 ∧ w.cell? ⟨b, 2, none⟩ = some e2 ∧ w.cell? ⟨b, 3, none⟩ = some e3 ∧ w.cell? ⟨b, 4, none⟩ = some e4 ∧ w.cell? ⟨b, 5, none⟩ = some e5 ∧ w.cell? ⟨b, 6, none⟩ = some e6 ∧ w.cell? ⟨b, 29, none⟩ = some e29 ∧ w.cell? ⟨b, 31, none⟩ = some e31 ∧ w.cell? ⟨b, 32, none⟩ = some e32 ∧ (∀ i, w.frozen? ⟨b, i, none⟩ = false) ∧ b < w.heap.size := ⟨(h.here h1).1 0, (h.here h1).1 1, (h.here h1).1 2, (h.here h1).1 3, (h.here h1).1 4, (h.here h1).1 5, (h.here h1).1 6, (h.here h1).1 29, (h.here h1).1 31, (h.here h1).1 32, (h.here h1).2⟩
theorem f0_1_7_26 (h : Sep w L) (h1 : Rm L (.blk b (emV e0 e1 e2 e3 e4 e5 e6 e7 e8 e9 e10 e11 e12 e13 e14 e15 e16 e17 e18 e19 e20 e21 e22 e23 e24 e25 e26 e27 e28 e29 e30 e31 e32 e33) t) L1) : w.cell? ⟨b, 0, none⟩ = some e0 ∧ w.cell? ⟨b, 1, none⟩ = some e1 ∧ w.cell? ⟨b, 7, none⟩ = some e7 ∧ w.cell? ⟨b, 26, none⟩ = some e26 ∧ (∀ i, w.frozen? ⟨b, i, none⟩ = false) ∧ b < w.heap.size := ⟨(h.here h1).1 0, (h.here h1).1 1, (h.here h1).1 7, (h.here h1).1 26, (h.here h1).2⟩
theorem f0_1_23_25_26_27_30 (h : Sep w L) (h1 : Rm L (.blk b (emV e0 e1 e2 e3 e4 e5 e6 e7 e8 e9 e10 e11 e12 e13 e14 e15 e16 e17 e18 e19 e20 e21 e22 e23 e24 e25 e26 e27 e28 e29 e30 e31 e32 e33) t) L1) : w.cell? ⟨b, 0, none⟩ = some e0 ∧ w.cell? ⟨b, 1, none⟩ = some e1 ∧ w.cell? ⟨b, 23, none⟩ = some e23 ∧ w.cell? ⟨b, 25, none⟩ = some e25 ∧ w.cell? ⟨b, 26, none⟩ = some e26 ∧ w.cell? ⟨b, 27, none⟩ = some e27 ∧ w.cell? ⟨b, 30, none⟩ = some e30 ∧ (∀ i, w.frozen? ⟨b, i, none⟩ = false) ∧ b < w.heap.size := ⟨(h.here h1).1 0, (h.here h1).1 1, (h.here h1).1 23, (h.here h1).1 25, (h.here h1).1 26, (h.here h1).1 27, (h.here h1).1 30, (h.here h1).2⟩
theorem f0_1_26_27_31 (h : Sep w L) (h1 : Rm L (.blk b (emV e0 e1 e2 e3 e4 e5 e6 e7 e8 e9 e10 e11 e12 e13 e14 e15 e16 e17 e18 e19 e20 e21 e22 e23 e24 e25 e26 e27 e28 e29 e30 e31 e32 e33) t) L1) : w.cell? ⟨b, 0, none⟩ = some e0 ∧ w.cell? ⟨b, 1, none⟩ = some e1 ∧ w.cell? ⟨b, 26, none⟩ = some e26 ∧ w.cell? ⟨b, 27, none⟩ = some e27 ∧ w.cell? ⟨b, 31, none⟩ = some e31 ∧ (∀ i, w.frozen? ⟨b, i, none⟩ = false) ∧ b < w.heap.size := ⟨(h.here h1).1 0, (h.here h1).1 1, (h.here h1).1 26, (h.here h1).1 27, (h.here h1).1 31, (h.here h1).2⟩
theorem f0_1_28_31 (h : Sep w L) (h1 : Rm L (.blk b (emV e0 e1 e2 e3 e4 e5 e6 e7 e8 e9 e10 e11 e12 e13 e14 e15 e16 e17 e18 e19 e20 e21 e22 e23 e24 e25 e26 e27 e28 e29 e30 e31 e32 e33) t) L1) : w.cell? ⟨b, 0, none⟩ = some e0 ∧ w.cell? ⟨b, 1, none⟩ = some e1 ∧ w.cell? ⟨b, 28, none⟩ = some e28 ∧ w.cell? ⟨b, 31, none⟩ = some e31 ∧ (∀ i, w.frozen? ⟨b, i, none⟩ = false) ∧ b < w.heap.size := ⟨(h.here h1).1 0, (h.here h1).1 1, (h.here h1).1 28, (h.here h1).1 31, (h.here h1).2⟩
theorem f0_1_31 (h : Sep w L) (h1 : Rm L (.blk b (emV e0 e1 e2 e3 e4 e5 e6 e7 e8 e9 e10 e11 e12 e13 e14 e15 e16 e17 e18 e19 e20 e21 e22 e23 e24 e25 e26 e27 e28 e29 e30 e31 e32 e33) t) L1) : w.cell? ⟨b, 0, none⟩ = some e0 ∧ w.cell? ⟨b, 1, none⟩ = some e1 ∧ w.cell? ⟨b, 31, none⟩ = some e31 ∧ (∀ i, w.frozen? ⟨b, i, none⟩ = false) ∧ b < w.heap.size := ⟨(h.here h1).1 0, (h.here h1).1 1, (h.here h1).1 31, (h.here h1).2⟩
theorem f0_10_31_32 (h : Sep w L) (h1 : Rm L (.blk b (emV e0 e1 e2 e3 e4 e5 e6 e7 e8 e9 e10 e11 e12 e13 e14 e15 e16 e17 e18 e19 e20 e21 e22 e23 e24 e25 e26 e27 e28 e29 e30 e31 e32 e33) t) L1) : w.cell? ⟨b, 0, none⟩ = some e0 ∧ w.cell? ⟨b, 10, none⟩ = some e10 ∧ w.cell? ⟨b, 31, none⟩ = some e31 ∧ w.cell? ⟨b, 32, none⟩ = some e32 ∧ (∀ i, w.frozen? ⟨b, i, none⟩ = false) ∧ b < w.heap.size := ⟨(h.here h1).1 0, (h.here h1).1 10, (h.here h1).1 31, (h.here h1).1 32, (h.here h1).2⟩
theorem f0_31 (h : Sep w L) (h1 : Rm L (.blk b (emV e0 e1 e2 e3 e4 e5 e6 e7 e8 e9 e10 e11 e12 e13 e14 e15 e16 e17 e18 e19 e20 e21 e22 e23 e24 e25 e26 e27 e28 e29 e30 e31 e32 e33) t) L1) : w.cell? ⟨b, 0, none⟩ = some e0 ∧ w.cell? ⟨b, 31, none⟩ = some e31 ∧ (∀ i, w.frozen? ⟨b, i, none⟩ = false) ∧ b < w.heap.size := ⟨(h.here h1).1 0, (h.here h1).1 31, (h.here h1).2⟩
theorem f0_31_32 (h : Sep w L) (h1 : Rm L (.blk b (emV e0 e1 e2 e3 e4 e5 e6 e7 e8 e9 e10 e11 e12 e13 e14 e15 e16 e17 e18 e19 e20 e21 e22 e23 e24 e25 e26 e27 e28 e29 e30 e31 e32 e33) t) L1) : w.cell? ⟨b, 0, none⟩ = some e0 ∧ w.cell? ⟨b, 31, none⟩ = some e31 ∧ w.cell? ⟨b, 32, none⟩ = some e32 ∧ (∀ i, w.frozen? ⟨b, i, none⟩ = false) ∧ b < w.heap.size := ⟨(h.here h1).1 0, (h.here h1).1 31, (h.here h1).1 32, (h.here h1).2⟩
theorem f1_7_26_27 (h : Sep w L) (h1 : Rm L (.blk b (emV e0 e1 e2 e3 e4 e5 e6 e7 e8 e9 e10 e11 e12 e13 e14 e15 e16 e17 e18 e19 e20 e21 e22 e23 e24 e25 e26 e27 e28 e29 e30 e31 e32 e33) t) L1) : w.cell? ⟨b, 1, none⟩ = some e1 ∧ w.cell? ⟨b, 7, none⟩ = some e7 ∧ w.cell? ⟨b, 26, none⟩ = some e26 ∧ w.cell? ⟨b, 27, none⟩ = some e27 ∧ (∀ i, w.frozen? ⟨b, i, none⟩ = false) ∧ b < w.heap.size := ⟨(h.here h1).1 1, (h.here h1).1 7, (h.here h1).1 26, (h.here h1).1 27, (h.here h1).2⟩
theorem f1_26_27 (h : Sep w L) (h1 : Rm L (.blk b (emV e0 e1 e2 e3 e4 e5 e6 e7 e8 e9 e10 e11 e12 e13 e14 e15 e16 e17 e18 e19 e20 e21 e22 e23 e24 e25 e26 e27 e28 e29 e30 e31 e32 e33) t) L1) : w.cell? ⟨b, 1, none⟩ = some e1 ∧ w.cell? ⟨b, 26, none⟩ = some e26 ∧ w.cell? ⟨b, 27, none⟩ = some e27 ∧ (∀ i, w.frozen? ⟨b, i, none⟩ = false) ∧ b < w.heap.size := ⟨(h.here h1).1 1, (h.here h1).1 26, (h.here h1).1 27, (h.here h1).2⟩
theorem f7_28_30 (h : Sep w L) (h1 : Rm L (.blk b (emV e0 e1 e2 e3 e4 e5 e6 e7 e8 e9 e10 e11 e12 e13 e14 e15 e16 e17 e18 e19 e20 e21 e22 e23 e24 e25 e26 e27 e28 e29 e30 e31 e32 e33) t) L1) : w.cell? ⟨b, 7, none⟩ = some e7 ∧ w.cell? ⟨b, 28, none⟩ = some e28 ∧ w.cell? ⟨b, 30, none⟩ = some e30 ∧ (∀ i, w.frozen? ⟨b, i, none⟩ = false) ∧ b < w.heap.size := ⟨(h.here h1).1 7, (h.here h1).1 28, (h.here h1).1 30, (h.here h1).2⟩
theorem f8_9_10 (h : Sep w L) (h1 : Rm L (.blk b (emV e0 e1 e2 e3 e4 e5 e6 e7 e8 e9 e10 e11 e12 e13 e14 e15 e16 e17 e18 e19 e20 e21 e22 e23 e24 e25 e26 e27 e28 e29 e30 e31 e32 e33) t) L1) : w.cell? ⟨b, 8, none⟩ = some e8 ∧ w.cell? ⟨b, 9, none⟩ = some e9 ∧ w.cell? ⟨b, 10, none⟩ = some e10 ∧ (∀ i, w.frozen? ⟨b, i, none⟩ = false) ∧ b < w.heap.size := ⟨(h.here h1).1 8, (h.here h1).1 9, (h.here h1).1 10, (h.here h1).2⟩
theorem f22_23_33 (h : Sep w L) (h1 : Rm L (.blk b (emV e0 e1 e2 e3 e4 e5 e6 e7 e8 e9 e10 e11 e12 e13 e14 e15 e16 e17 e18 e19 e20 e21 e22 e23 e24 e25 e26 e27 e28 e29 e30 e31 e32 e33) t) L1) : w.cell? ⟨b, 22, none⟩ = some e22 ∧ w.cell? ⟨b, 23, none⟩ = some e23 ∧ w.cell? ⟨b, 33, none⟩ = some e33 ∧ (∀ i, w.frozen? ⟨b, i, none⟩ = false) ∧ b < w.heap.size := ⟨(h.here h1).1 22, (h.here h1).1 23, (h.here h1).1 33, (h.here h1).2⟩
theorem f26_27 (h : Sep w L) (h1 : Rm L (.blk b (emV e0 e1 e2 e3 e4 e5 e6 e7 e8 e9 e10 e11 e12 e13 e14 e15 e16 e17 e18 e19 e20 e21 e22 e23 e24 e25 e26 e27 e28 e29 e30 e31 e32 e33) t) L1) : w.cell? ⟨b, 26, none⟩ = some e26 ∧ w.cell? ⟨b, 27, none⟩ = some e27 ∧ (∀ i, w.frozen? ⟨b, i, none⟩ = false) ∧ b < w.heap.size := ⟨(h.here h1).1 26, (h.here h1).1 27, (h.here h1).2⟩
theorem f29 (h : Sep w L) (h1 : Rm L (.blk b (emV e0 e1 e2 e3 e4 e5 e6 e7 e8 e9 e10 e11 e12 e13 e14 e15 e16 e17 e18 e19 e20 e21 e22 e23 e24 e25 e26 e27 e28 e29 e30 e31 e32 e33) t) L1) : w.cell? ⟨b, 29, none⟩ = some e29 ∧ (∀ i, w.frozen? ⟨b, i, none⟩ = false) ∧ b < w.heap.size := ⟨(h.here h1).1 29, (h.here h1).2⟩
end
end Go.Proofs.YtnjgnbdebkckfaaGreatDoor.T1
namespace Go.Proofs.YtnjgnbdebkckfaaGreatDoor.E2
set_option maxRecDepth 100000
open Go.RowKit K1 K3 K5 K11 K12 K14 K20 K21 K22 K25 K30 K31 M0 U2 P3 P6
attribute [local go_sem] cell_pastA froz_pastA
/-- the cells of an act -/
def actV (a : Ac) (nv : Value) : List Value := [.int .i64 a.kind, .int .i32 a.rune, .int .i64 a.byte, .int .i64 a.mark, nv, .string ⟨a.inter.toArray⟩, .string ⟨a.text.toArray⟩]
def actA (a : Ac) (nv : Value) : Value := .agg #[.int .i64 a.kind, .int .i32 a.rune, .int .i64 a.byte, .int .i64 a.mark, nv, .string ⟨a.inter.toArray⟩, .string ⟨a.text.toArray⟩]
def actZ : Value := .agg #[.int .i64 0, .int .i32 0, .int .i64 0, .int .i64 0, .slice none 0 0, .string ⟨#[]⟩, .string ⟨#[]⟩]
theorem infoA : (Tryz.prog.info? 118).map (fun i => (i.zero, i.size, i.bytes)) = some (some actZ, 7, 88) := by kernel_rfl
structure TellP (b : Nat) (cs : List Value) (t : TypeId) (n : Nat) (xs : List Value) (F : List Res) (e : Ending) (w' : World) : Prop where
  out : ∃ v, e = .returned (.tuple #[]) ∧ Sep w' (.blk b (cs.set 42 v) t :: .row v 118 7 n xs :: F)
set_option maxHeartbeats 4000000 in
theorem tell_any (b : Nat) (cs : List Value) (t : TypeId) (v : Value) (n : Nat) (xs : List Value) (a : Ac) (nv : Value) (F : List Res) (w : World) (hs : Sep w (.blk b cs t :: .row v 118 7 n xs :: F)) (h0 : cs[42]? = some v) (hn : n ≤ 100000) (hnv : nv.oneCell' = true) :
    Calls Tryz.prog 129 #[.pointer (some ⟨b, 0, none⟩), actA a nv] w (TellP b cs t (n + 1) (xs ++ actV a nv) F) := by
  have H0 := Lib.hid h0
  have HS := Lib.hid hs
  unfold actA
  obtain ⟨i0, ih, ia, ib, ic⟩ := info_parts infoA
  have iI := Lib.hid ih
  clear ih
  clear hs h0
  go_enter Tryz.func129, Tryz.ntmps129
  go_wp2_with (first | (refine K32.atW 1 (fun xw hs => ?_); (try simp only [World.size_alloc, World.size_setCell] at hs); (try clear hcR hzR hlR); (try clear hcX hzX hlX); obtain ⟨hcR, hzR, hlR⟩ := hs.here (b := b) K32.rm; obtain ⟨hcX, hzX, hlX⟩ := hs.here (b := w.heap.size) K32.rm; (try clear hcO); have hcO := (hcR 42).trans H0.out; clear hcR; have hcX0 := hcX 0; have hcX1 := hcX 1; have hcX2 := hcX 2; have hcX3 := hcX 3; have hcX4 := hcX 4; have hcX5 := hcX 5; have hcX6 := hcX 6; clear hcX; simp only [List.getElem?_cons_zero, List.getElem?_cons_succ] at hcX0 hcX1 hcX2 hcX3 hcX4 hcX5 hcX6; have HS := Lib.hid hs; clear hs; refine K32.reg0 (w := xw) [6] [0] 7 ?_; simp only [numbered, List.take_succ_cons, List.take_zero, List.drop_succ_cons, List.drop_zero, List.take_nil, List.drop_nil, Nat.reduceAdd]; (refine K32.zf ?_; (try go_simp)); (iterate 5 (refine K32.zd ?_; (try go_simp))); (refine wz_new (fun b => .slice (some ⟨b, 0, none⟩) 1 1) _ _ (by decide) (by decide) (by decide) C0e.es (growsB (by simp)) (by first | rfl | (go_simp; done)) (by intro b b' h; simp at h; omega) (by simp) (fun _ _ h => Below.size h) (fun bs hok wx hwx hL => by (have hwx : Below _ _ wx := hwx; have hcx := cellA hwx; have hfx := frozA hwx; have hzx := hwx.size; (try simp at hzx)); (try simp [go_sem, K32.ev, ↓IntWalk.iteOmega, *]); first | done | rfl) ?_; intro b6 hb6 F6 hF6; (try simp at hb6); (try go_simp)); refine wz_nil ?_; intro wq hbq hLq; have hm6 := hF6 _ (hLq.get 6 (by simp)); obtain ⟨hk6, hx6, hg6, hy6, hl6⟩ := blk hm6; clear hLq hF6; have hcwq := cellA hbq; have hfwq := frozA hbq; have hzwq := hbq.size; (try simp at hzwq); have hs := HS.out.addBlk (xs := actV a nv) hbq hm6 (by simpa using hb6) rfl; have HS := Lib.hid hs; clear hs hcwq hfwq hk6 hx6 hg6 hy6 hm6 hbq hb6 hzwq hl6) | (refine K30.atOp (d := 11) ?_; at_builtin; (with_reducible apply K30.list_at); exact K32.fnd; intro xw hs; (try simp only [World.size_alloc, World.size_setCell] at hs); have hnw := news_of1 (hs.here (cs := actV a nv) (t := 118) K32.rm).1; have hs := hs.pick (r1 := .row v 118 7 n xs) K32.rm; refine wpList_appS rfl (.tmp 8) (.tmp 10) 72 rfl 118 i0 actZ 7 88 Tryz.underlying72 iI.out ia ib ic rfl (by decide) v n xs _ rfl hs ⟨_, 0, none⟩ 1 _ (actV a nv) rfl rfl hnw (by intro u hu; simp only [actV, List.mem_cons, List.not_mem_nil, or_false] at hu; rcases hu with rfl | rfl | rfl | rfl | rfl | rfl | rfl <;> first | rfl | exact hnv) (by omega) (by omega) (by decide) ?_; intro g2 cap2 w2 hs2 hz2; clear hs; (try clear hcR hzR hlR); obtain ⟨hcR, hzR, hlR⟩ := hs2.here (b := b) K32.rm; (try clear hcO); have hcO := (hcR 42).trans H0.out; clear hcR; have HS := Lib.hid hs2; clear hs2))
  (first | go_end0 | refine bodyPost_ret (results_none rfl _ _ _) rfl ?_)
  refine ⟨⟨.slice (some ⟨g2, 0, none⟩) (n + 1) cap2, rfl, ?_⟩⟩
  (with_reducible apply K30.sep_end)
  exact K32.fnd
  intro hs
  exact hs.end2 K32.rm .here K32.sub
end Go.Proofs.YtnjgnbdebkckfaaGreatDoor.E2
namespace Go.Proofs.YtnjgnbdebkckfaaGreatDoor.E3
set_option maxRecDepth 100000
open Go.RowKit K1 K3 K5 K11 K12 K14 K20 K21 K22 K25 K30 K31 M0 U2 P1 P3 P6 E2
attribute [local go_sem] cell_pastA froz_pastA
def parV (P : Nat → Value) (v33 v34 v35 v36 v37 v38 v39 v40 v41 v42 : Value) : List Value := [P 0, P 1, P 2, P 3, P 4, P 5, P 6, P 7, P 8, P 9, P 10, P 11, P 12, P 13, P 14, P 15, P 16, P 17, P 18, P 19, P 20, P 21, P 22, P 23, P 24, P 25, P 26, P 27, P 28, P 29, P 30, P 31, P 32, v33, v34, v35, v36, v37, v38, v39, v40, v41, v42]
theorem parV_33 (P : Nat → Value) (v33 v34 v35 v36 v37 v38 v39 v40 v41 v42 : Value) : (parV P v33 v34 v35 v36 v37 v38 v39 v40 v41 v42)[33]? = some v33 := rfl
theorem parV_set33 (P : Nat → Value) (v33 v34 v35 v36 v37 v38 v39 v40 v41 v42 x : Value) : (parV P v33 v34 v35 v36 v37 v38 v39 v40 v41 v42).set 33 x = (parV P x v34 v35 v36 v37 v38 v39 v40 v41 v42) := rfl
theorem parV_34 (P : Nat → Value) (v33 v34 v35 v36 v37 v38 v39 v40 v41 v42 : Value) : (parV P v33 v34 v35 v36 v37 v38 v39 v40 v41 v42)[34]? = some v34 := rfl
theorem parV_set34 (P : Nat → Value) (v33 v34 v35 v36 v37 v38 v39 v40 v41 v42 x : Value) : (parV P v33 v34 v35 v36 v37 v38 v39 v40 v41 v42).set 34 x = (parV P v33 x v35 v36 v37 v38 v39 v40 v41 v42) := rfl
theorem parV_35 (P : Nat → Value) (v33 v34 v35 v36 v37 v38 v39 v40 v41 v42 : Value) : (parV P v33 v34 v35 v36 v37 v38 v39 v40 v41 v42)[35]? = some v35 := rfl
theorem parV_set35 (P : Nat → Value) (v33 v34 v35 v36 v37 v38 v39 v40 v41 v42 x : Value) : (parV P v33 v34 v35 v36 v37 v38 v39 v40 v41 v42).set 35 x = (parV P v33 v34 x v36 v37 v38 v39 v40 v41 v42) := rfl
theorem parV_36 (P : Nat → Value) (v33 v34 v35 v36 v37 v38 v39 v40 v41 v42 : Value) : (parV P v33 v34 v35 v36 v37 v38 v39 v40 v41 v42)[36]? = some v36 := rfl
theorem parV_set36 (P : Nat → Value) (v33 v34 v35 v36 v37 v38 v39 v40 v41 v42 x : Value) : (parV P v33 v34 v35 v36 v37 v38 v39 v40 v41 v42).set 36 x = (parV P v33 v34 v35 x v37 v38 v39 v40 v41 v42) := rfl
theorem parV_37 (P : Nat → Value) (v33 v34 v35 v36 v37 v38 v39 v40 v41 v42 : Value) : (parV P v33 v34 v35 v36 v37 v38 v39 v40 v41 v42)[37]? = some v37 := rfl
theorem parV_set37 (P : Nat → Value) (v33 v34 v35 v36 v37 v38 v39 v40 v41 v42 x : Value) : (parV P v33 v34 v35 v36 v37 v38 v39 v40 v41 v42).set 37 x = (parV P v33 v34 v35 v36 x v38 v39 v40 v41 v42) := rfl
theorem parV_38 (P : Nat → Value) (v33 v34 v35 v36 v37 v38 v39 v40 v41 v42 : Value) : (parV P v33 v34 v35 v36 v37 v38 v39 v40 v41 v42)[38]? = some v38 := rfl
theorem parV_set38 (P : Nat → Value) (v33 v34 v35 v36 v37 v38 v39 v40 v41 v42 x : Value) : (parV P v33 v34 v35 v36 v37 v38 v39 v40 v41 v42).set 38 x = (parV P v33 v34 v35 v36 v37 x v39 v40 v41 v42) := rfl
theorem parV_39 (P : Nat → Value) (v33 v34 v35 v36 v37 v38 v39 v40 v41 v42 : Value) : (parV P v33 v34 v35 v36 v37 v38 v39 v40 v41 v42)[39]? = some v39 := rfl
theorem parV_set39 (P : Nat → Value) (v33 v34 v35 v36 v37 v38 v39 v40 v41 v42 x : Value) : (parV P v33 v34 v35 v36 v37 v38 v39 v40 v41 v42).set 39 x = (parV P v33 v34 v35 v36 v37 v38 x v40 v41 v42) := rfl
theorem parV_40 (P : Nat → Value) (v33 v34 v35 v36 v37 v38 v39 v40 v41 v42 : Value) : (parV P v33 v34 v35 v36 v37 v38 v39 v40 v41 v42)[40]? = some v40 := rfl
theorem parV_set40 (P : Nat → Value) (v33 v34 v35 v36 v37 v38 v39 v40 v41 v42 x : Value) : (parV P v33 v34 v35 v36 v37 v38 v39 v40 v41 v42).set 40 x = (parV P v33 v34 v35 v36 v37 v38 v39 x v41 v42) := rfl
theorem parV_41 (P : Nat → Value) (v33 v34 v35 v36 v37 v38 v39 v40 v41 v42 : Value) : (parV P v33 v34 v35 v36 v37 v38 v39 v40 v41 v42)[41]? = some v41 := rfl
theorem parV_set41 (P : Nat → Value) (v33 v34 v35 v36 v37 v38 v39 v40 v41 v42 x : Value) : (parV P v33 v34 v35 v36 v37 v38 v39 v40 v41 v42).set 41 x = (parV P v33 v34 v35 v36 v37 v38 v39 v40 x v42) := rfl
theorem parV_42 (P : Nat → Value) (v33 v34 v35 v36 v37 v38 v39 v40 v41 v42 : Value) : (parV P v33 v34 v35 v36 v37 v38 v39 v40 v41 v42)[42]? = some v42 := rfl
theorem parV_set42 (P : Nat → Value) (v33 v34 v35 v36 v37 v38 v39 v40 v41 v42 x : Value) : (parV P v33 v34 v35 v36 v37 v38 v39 v40 v41 v42).set 42 x = (parV P v33 v34 v35 v36 v37 v38 v39 v40 v41 x) := rfl
def ints (l : List Int) : List Value := l.map fun r => .int .i64 r
theorem infoN : (Tryz.prog.info? 3).map (fun i => (i.zero, i.size, i.bytes)) = some (some (.int .i64 0), 1, 8) := by kernel_rfl
theorem class_n (n : Nat) (w : World) (h : n ≤ 255) : Calls Tryz.prog 96 #[.int .u8 n] w fun e w' => e = .returned (.int .i64 (if n < 32 then 0 else if n < 48 then 1 else if n < 64 then 2 else if n < 127 then 3 else if n = 127 then 4 else 5 : Nat)) ∧ w' = w := by
  go_enter Tryz.func96, Tryz.ntmps96
  go_wp2
  all_goals
    go_ret
    refine ⟨ret_i64 ?_, rfl⟩
    first | (simp_all; done) | (simp_all; split <;> omega) | (simp_all <;> omega) | skip
theorem class_eq (c : UInt8) : classF c = (if c.toNat < 32 then 0 else if c.toNat < 48 then 1 else if c.toNat < 64 then 2 else if c.toNat < 127 then 3 else if c.toNat = 127 then 4 else 5) := by
  unfold classF
  simp only [UInt8.lt_iff_toNat_lt, ← UInt8.toNat_inj]
  rfl
theorem class_any (c : UInt8) (w : World) : Calls Tryz.prog 96 #[.int .u8 c.toNat] w fun e w' => e = .returned (.int .i64 (classF c)) ∧ Below w.heap.size w w' := by
  rw [class_eq]
  exact (class_n c.toNat w (by have := c.toNat_lt; omega)).mono fun e w' ⟨h1, h2⟩ => ⟨h1, h2 ▸ Below.refl _ _⟩
theorem own_form {w : World} {B : Nat} {t : TypeId} {s n : Nat} {v : Value} {xs : List Value} (h : w.ownsRow B t s v n xs) : ∃ ad c, v = .slice ad n c := by
  rcases h.2 with ⟨rfl, rfl⟩ | ⟨g, c, cur, rfl, _⟩
  · exact ⟨_, _, rfl⟩
  · exact ⟨_, _, rfl⟩
structure ExP (mk : Value → List Res) (e : Ending) (w' : World) : Prop where
  out : ∃ v, e = .returned (.tuple #[]) ∧ Sep w' (mk v)
set_option maxHeartbeats 4000000 in
theorem begin_any (b : Nat) (P : Nat → Value) (v33 v34 v35 v36 v37 v38 v39 v40 v41 v42 : Value) (t : TypeId) (s : Nat) (x : ByteArray) (F : List Res) (w : World) (hs : Sep w (.blk b (parV P v33 v34 v35 v36 v37 v38 v39 v40 v41 v42) t :: F)) (h34 : v34 = .string x) :
    Calls Tryz.prog 93 #[.pointer (some ⟨b, 0, none⟩), .int .i64 s] w fun e w' => e = .returned (.tuple #[]) ∧ Sep w' (.blk b (parV P (.int .i64 s) v34 (.slice none 0 0) (.bool false) (.bool true) (.int .i64 0) (.slice none 0 0) (.bool false) (.slice none 0 0) v42) t :: F) := by
  subst h34
  obtain ⟨hcR, hzR, hlR⟩ := hs.here (b := b) K32.rm
  have hcR33 := (hcR 33).trans (parV_33 ..); have hcR34 := (hcR 34).trans (parV_34 ..); have hcR35 := (hcR 35).trans (parV_35 ..); have hcR36 := (hcR 36).trans (parV_36 ..); have hcR37 := (hcR 37).trans (parV_37 ..); have hcR38 := (hcR 38).trans (parV_38 ..); have hcR39 := (hcR 39).trans (parV_39 ..); have hcR40 := (hcR 40).trans (parV_40 ..); have hcR41 := (hcR 41).trans (parV_41 ..)
  clear hcR
  have HS := Lib.hid hs
  clear hs
  go_enter Tryz.func93, Tryz.ntmps93
  go_wp2_with fail
  (first | go_end0 | refine bodyPost_ret (results_none rfl _ _ _) rfl ?_)
  refine ⟨rfl, ?_⟩
  (with_reducible apply K30.sep_end)
  exact K32.fnd
  intro hs
  exact hs
set_option maxHeartbeats 4000000 in
theorem number_any (b : Nat) (P : Nat → Value) (v33 v34 v35 v36 v37 v38 v39 v40 v41 v42 v : Value) (t : TypeId) (l : List Int) (F : List Res) (w : World) (hs : Sep w (.blk b (parV P v33 v34 v35 v36 v37 v38 v v40 v41 v42) t :: .row v 3 1 l.length (ints l) :: F)) (hl : l.length ≤ 8) :
    Calls Tryz.prog 150 #[.pointer (some ⟨b, 0, none⟩)] w (ExP fun v => .blk b (parV P v33 v34 v35 v36 v37 v38 v v40 v41 v42) t :: .row v 3 1 (if l = [] then [-1] else l).length (ints (if l = [] then [-1] else l)) :: F) := by
  obtain ⟨ad, cp, rfl⟩ := own_form (hs.hereRow (v := v) K32.rm)
  obtain ⟨hcR, hzR, hlR⟩ := hs.here (b := b) K32.rm
  have hcR39 := (hcR 39).trans (parV_39 ..)
  clear hcR
  have HS := Lib.hid hs
  clear hs
  by_cases h : l = []
  · subst h
    go_enter Tryz.func150, Tryz.ntmps150
    go_wp2_with fail
    (first | go_end0 | refine bodyPost_ret (results_none rfl _ _ _) rfl ?_)
    refine ⟨⟨.slice (some ⟨w.heap.size, 0, none⟩) 1 1, rfl, ?_⟩⟩
    (with_reducible apply K30.sep_end)
    exact K32.fnd
    intro hs
    (try simp only [World.size_alloc, World.size_setCell, parV_set33, parV_set34, parV_set35, parV_set36, parV_set37, parV_set38, parV_set39, parV_set40, parV_set41, parV_set42] at hs)
    have hs := hs.pick (r1 := .blk w.heap.size [.int .i64 (-1)] 3) K32.rm
    have hs := hs.asRow (n := 1) (c := 1) (s := 1) (xs := [.int .i64 (-1)]) rfl (by decide) (by decide) rfl
    exact hs.end2 K32.rm .here K32.sub
  · have hl0 : ((l.length : Int) == 0) = false := by simpa using h
    go_enter Tryz.func150, Tryz.ntmps150
    go_wp2_with fail
    (first | go_end0 | refine bodyPost_ret (results_none rfl _ _ _) rfl ?_)
    exact ⟨⟨_, rfl, HS.out⟩⟩
end Go.Proofs.YtnjgnbdebkckfaaGreatDoor.E3
namespace Go.Proofs.YtnjgnbdebkckfaaGreatDoor.E4
set_option maxRecDepth 100000
open Go.RowKit K1 K3 K5 K11 K12 K14 K20 K21 K22 K25 K30 K31 M0 U2 P1 P3 P6 E2 E3
attribute [local go_sem] cell_pastA froz_pastA
theorem infoU : (Tryz.prog.info? 5).map (fun i => (i.zero, i.size, i.bytes)) = some (some (.int .u8 0), 1, 1) := by kernel_rfl
set_option maxHeartbeats 4000000 in
theorem more_any (b : Nat) (P : Nat → Value) (v33 v34 v35 v36 v37 v38 v39 v40 v41 v42 v : Value) (t : TypeId) (l : List Int) (F : List Res) (w : World) (hs : Sep w (.blk b (parV P v33 v34 v35 v36 v37 v38 v v40 v41 v42) t :: .row v 3 1 l.length (ints l) :: F)) (hl : l.length ≤ 8) :
    Calls Tryz.prog 151 #[.pointer (some ⟨b, 0, none⟩)] w (ExP fun v => .blk b (parV P v33 v34 v35 v36 v37 v38 v (if 8 ≤ l.length then .bool true else v40) v41 v42) t :: .row v 3 1 (if 8 ≤ l.length then l else l ++ [-1]).length (ints (if 8 ≤ l.length then l else l ++ [-1])) :: F) := by
  obtain ⟨ad, cp, rfl⟩ := own_form (hs.hereRow (v := v) K32.rm)
  obtain ⟨hcR, hzR, hlR⟩ := hs.here (b := b) K32.rm
  have hcR39 := (hcR 39).trans (parV_39 ..)
  have hcR40 := (hcR 40).trans (parV_40 ..)
  clear hcR
  have HS := Lib.hid hs
  clear hs
  obtain ⟨i0, ih, ia, ib, ic⟩ := info_parts infoN
  have iI := Lib.hid ih
  clear ih
  by_cases h : 8 ≤ l.length
  · simp only [if_pos h]
    go_enter Tryz.func151, Tryz.ntmps151
    go_wp2_with fail
    (first | go_end0 | refine bodyPost_ret (results_none rfl _ _ _) rfl ?_)
    refine ⟨⟨.slice ad l.length cp, rfl, ?_⟩⟩
    ((with_reducible apply K30.sep_end); exact K32.fnd; intro hs; (try simp only [World.size_alloc, World.size_setCell, parV_set33, parV_set34, parV_set35, parV_set36, parV_set37, parV_set38, parV_set39, parV_set40, parV_set41, parV_set42] at hs); exact hs.end2 K32.rm K32.rm K32.sub)
  · simp only [if_neg h]
    go_enter Tryz.func151, Tryz.ntmps151
    go_wp2_with (first | (refine K30.atOp (d := 20) ?_; at_builtin; (with_reducible apply K30.list_at); exact K32.fnd; intro xw hs; (try simp only [World.size_alloc, World.size_setCell, parV_set33, parV_set34, parV_set35, parV_set36, parV_set37, parV_set38, parV_set39, parV_set40, parV_set41, parV_set42] at hs); have hnw := news_of1 (hs.here (cs := [.int .i64 (-1)]) (t := 3) K32.rm).1; have hs := hs.pick (r1 := .row (.slice ad l.length cp) 3 1 l.length (ints l)) K32.rm; refine wpList_appS rfl (.tmp 18) (.tmp 19) 42 rfl 3 i0 (.int .i64 0) 1 8 Tryz.underlying42 iI.out ia ib ic rfl (by decide) _ l.length (ints l) _ rfl hs ⟨_, 0, none⟩ 1 _ [.int .i64 (-1)] rfl rfl hnw (by intro u hu; simp at hu; subst hu; rfl) (by omega) (by omega) (by decide) ?_; intro g2 cap2 w2 hs2 hz2; clear hs; (try clear hcR hzR hlR); obtain ⟨hcR, hzR, hlR⟩ := hs2.here (b := b) K32.rm; (try clear hcR39 hcR40); have hcR39 := (hcR 39).trans (parV_39 ..); have hcR40 := (hcR 40).trans (parV_40 ..); clear hcR; have HS := Lib.hid hs2; clear hs2))
    (first | go_end0 | refine bodyPost_ret (results_none rfl _ _ _) rfl ?_)
    refine ⟨⟨.slice (some ⟨g2, 0, none⟩) (l.length + 1) cap2, rfl, ?_⟩⟩
    have e1 : (l ++ [-1]).length = l.length + 1 := by simp
    have e2 : ints (l ++ [-1]) = ints l ++ [.int .i64 (-1)] := by simp [ints]
    rw [e1, e2]
    ((with_reducible apply K30.sep_end); exact K32.fnd; intro hs; (try simp only [World.size_alloc, World.size_setCell, parV_set33, parV_set34, parV_set35, parV_set36, parV_set37, parV_set38, parV_set39, parV_set40, parV_set41, parV_set42] at hs); exact hs.end2 K32.rm K32.rm K32.sub)
set_option maxHeartbeats 4000000 in
theorem inter_any (b : Nat) (P : Nat → Value) (v33 v34 v35 v36 v37 v38 v39 v40 v41 v42 v : Value) (t : TypeId) (l : List UInt8) (c : UInt8) (F : List Res) (w : World) (hs : Sep w (.blk b (parV P v33 v34 v v36 v37 v38 v39 v40 v41 v42) t :: .row v 5 1 l.length (l.map K14.u8) :: F)) (hl : l.length ≤ 8) :
    Calls Tryz.prog 132 #[.pointer (some ⟨b, 0, none⟩), .int .u8 c.toNat] w (ExP fun v => .blk b (parV P v33 v34 v (if 2 ≤ l.length then .bool true else v36) (.bool false) v38 v39 v40 v41 v42) t :: .row v 5 1 (if 2 ≤ l.length then l else l ++ [c]).length ((if 2 ≤ l.length then l else l ++ [c]).map K14.u8) :: F) := by
  obtain ⟨ad, cp, rfl⟩ := own_form (hs.hereRow (v := v) K32.rm)
  obtain ⟨hcR, hzR, hlR⟩ := hs.here (b := b) K32.rm
  have hcR35 := (hcR 35).trans (parV_35 ..)
  have hcR36 := (hcR 36).trans (parV_36 ..)
  have hcR37 := (hcR 37).trans (parV_37 ..)
  clear hcR
  have HS := Lib.hid hs
  clear hs
  obtain ⟨i0, ih, ia, ib, ic⟩ := info_parts infoU
  have iI := Lib.hid ih
  clear ih
  by_cases h : 2 ≤ l.length
  · simp only [if_pos h]
    go_enter Tryz.func132, Tryz.ntmps132
    go_wp2_with fail
    (first | go_end0 | refine bodyPost_ret (results_none rfl _ _ _) rfl ?_)
    refine ⟨⟨.slice ad l.length cp, rfl, ?_⟩⟩
    ((with_reducible apply K30.sep_end); exact K32.fnd; intro hs; (try simp only [World.size_alloc, World.size_setCell, parV_set33, parV_set34, parV_set35, parV_set36, parV_set37, parV_set38, parV_set39, parV_set40, parV_set41, parV_set42] at hs); exact hs.end2 K32.rm K32.rm K32.sub)
  · simp only [if_neg h]
    go_enter Tryz.func132, Tryz.ntmps132
    go_wp2_with (first | (refine K30.atOp (d := 27) ?_; at_builtin; (with_reducible apply K30.list_at); exact K32.fnd; intro xw hs; (try simp only [World.size_alloc, World.size_setCell, parV_set33, parV_set34, parV_set35, parV_set36, parV_set37, parV_set38, parV_set39, parV_set40, parV_set41, parV_set42] at hs); have hnw := news_of1 (hs.here (cs := [.int .u8 c.toNat]) (t := 5) K32.rm).1; have hs := hs.pick (r1 := .row (.slice ad l.length cp) 5 1 l.length (l.map K14.u8)) K32.rm; refine wpList_appS rfl (.tmp 24) (.tmp 26) 36 rfl 5 i0 (.int .u8 0) 1 1 Tryz.underlying36 iI.out ia ib ic rfl (by decide) _ l.length (l.map K14.u8) _ rfl hs ⟨_, 0, none⟩ 1 _ [.int .u8 c.toNat] rfl rfl hnw (by intro u hu; simp at hu; subst hu; rfl) (by omega) (by omega) (by decide) ?_; intro g2 cap2 w2 hs2 hz2; clear hs; (try clear hcR hzR hlR); obtain ⟨hcR, hzR, hlR⟩ := hs2.here (b := b) K32.rm; (try clear hcR35 hcR36 hcR37); have hcR35 := (hcR 35).trans (parV_35 ..); have hcR36 := (hcR 36).trans (parV_36 ..); have hcR37 := (hcR 37).trans (parV_37 ..); clear hcR; have HS := Lib.hid hs2; clear hs2))
    (first | go_end0 | refine bodyPost_ret (results_none rfl _ _ _) rfl ?_)
    refine ⟨⟨.slice (some ⟨g2, 0, none⟩) (l.length + 1) cap2, rfl, ?_⟩⟩
    have e1 : (l ++ [c]).length = l.length + 1 := by simp
    have e2 : (l ++ [c]).map K14.u8 = l.map K14.u8 ++ [.int .u8 c.toNat] := by simp [K14.u8]
    rw [e1, e2]
    ((with_reducible apply K30.sep_end); exact K32.fnd; intro hs; (try simp only [World.size_alloc, World.size_setCell, parV_set33, parV_set34, parV_set35, parV_set36, parV_set37, parV_set38, parV_set39, parV_set40, parV_set41, parV_set42] at hs); exact hs.end2 K32.rm K32.rm K32.sub)
end Go.Proofs.YtnjgnbdebkckfaaGreatDoor.E4
