/- what the row of EmuCuts asks of the program's text -/
import Derived.Test.YtnjgnbdebkckfaaGreatDoorRows
import Derived.JoinedOf
import Derived.KernelRfl
namespace Go.Proofs.YtnjgnbdebkckfaaGreatDoor.JEmuCuts
set_option maxHeartbeats 4000000 in
theorem joined : joinedFacts Tryz.pinned.checked.prog 7 Tryz.f7 Rows.emuCutsSpec Rows.emuCutsRow = true := by
  unfold joinedFacts
  simp only [Bool.and_eq_true]
  repeat' apply And.intro
  all_goals as_aux_lemma => kernel_rfl
end Go.Proofs.YtnjgnbdebkckfaaGreatDoor.JEmuCuts
