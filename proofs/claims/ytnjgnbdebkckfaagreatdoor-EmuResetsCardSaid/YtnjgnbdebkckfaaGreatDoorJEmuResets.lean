/- what the row of EmuResets asks of the program's text -/
import Derived.Test.YtnjgnbdebkckfaaGreatDoorRows
import Derived.JoinedOf
import Derived.KernelRfl
namespace Go.Proofs.YtnjgnbdebkckfaaGreatDoor.JEmuResets
set_option maxHeartbeats 4000000 in
theorem joined : joinedFacts Tryz.pinned.checked.prog 17 Tryz.f17 Rows.emuResetsSpec Rows.emuResetsRow = true := by
  unfold joinedFacts
  simp only [Bool.and_eq_true]
  repeat' apply And.intro
  all_goals as_aux_lemma => kernel_rfl
end Go.Proofs.YtnjgnbdebkckfaaGreatDoor.JEmuResets
