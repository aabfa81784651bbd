/- what the row of EmuAlts asks of the program's text -/
import Derived.Test.YtnjgnbdebkckfaaGreatDoorRows
import Derived.JoinedOf
import Derived.KernelRfl
namespace Go.Proofs.YtnjgnbdebkckfaaGreatDoor.JEmuAlts
set_option maxHeartbeats 4000000 in
theorem joined : joinedFacts Tryz.pinned.checked.prog 16 Tryz.f16 Rows.emuAltsSpec Rows.emuAltsRow = true := by
  unfold joinedFacts
  simp only [Bool.and_eq_true]
  repeat' apply And.intro
  all_goals as_aux_lemma => kernel_rfl
end Go.Proofs.YtnjgnbdebkckfaaGreatDoor.JEmuAlts
