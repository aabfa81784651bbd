/- what the row of EmuWraps asks of the program's text -/
import Derived.Test.YtnjgnbdebkckfaaGreatDoorRows
import Derived.JoinedOf
import Derived.KernelRfl
namespace Go.Proofs.YtnjgnbdebkckfaaGreatDoor.JEmuWraps
set_option maxHeartbeats 4000000 in
theorem joined : joinedFacts Tryz.pinned.checked.prog 13 Tryz.f13 Rows.emuWrapsSpec Rows.emuWrapsRow = true := by
  unfold joinedFacts
  simp only [Bool.and_eq_true]
  repeat' apply And.intro
  all_goals as_aux_lemma => kernel_rfl
end Go.Proofs.YtnjgnbdebkckfaaGreatDoor.JEmuWraps
