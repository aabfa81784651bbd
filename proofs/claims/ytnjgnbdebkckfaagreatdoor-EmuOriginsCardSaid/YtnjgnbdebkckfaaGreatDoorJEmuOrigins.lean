/- what the row of EmuOrigins asks of the program's text -/
import Derived.Test.YtnjgnbdebkckfaaGreatDoorRows
import Derived.JoinedOf
import Derived.KernelRfl
namespace Go.Proofs.YtnjgnbdebkckfaaGreatDoor.JEmuOrigins
set_option maxHeartbeats 4000000 in
theorem joined : joinedFacts Tryz.pinned.checked.prog 12 Tryz.f12 Rows.emuOriginsSpec Rows.emuOriginsRow = true := by
  unfold joinedFacts
  simp only [Bool.and_eq_true]
  repeat' apply And.intro
  all_goals as_aux_lemma => kernel_rfl
end Go.Proofs.YtnjgnbdebkckfaaGreatDoor.JEmuOrigins
