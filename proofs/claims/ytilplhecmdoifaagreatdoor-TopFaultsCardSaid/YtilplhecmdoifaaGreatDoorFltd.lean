/-
  awake, run.
-/
import Derived.Test.YtilplhecmdoifaaGreatDoorFlta
set_option linter.all false
noncomputable section
namespace SX
open Go Go.Proofs Go.Maps
set_option linter.unusedVariables false
set_option maxRecDepth 100000
/-! ### awake -/
theorem awake_run : isT (run KL 100000 7 [] ⟨.lf, .h⟩) = true := by kernel_rfl
end SX
end
