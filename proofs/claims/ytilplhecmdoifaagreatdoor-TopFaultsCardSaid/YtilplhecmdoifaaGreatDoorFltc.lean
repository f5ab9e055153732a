/-
  The last piece, run for the other seven.
-/
import Derived.Test.YtilplhecmdoifaaGreatDoorFlta
set_option linter.all false
noncomputable section
namespace SX
set_option maxRecDepth 100000
theorem okD7 : okD 7 = true := by kernel_rfl
end SX
namespace SX
set_option maxRecDepth 100000
theorem okD8 : okD 8 = true := by kernel_rfl
end SX
namespace SX
set_option maxRecDepth 100000
theorem okD9 : okD 9 = true := by kernel_rfl
end SX
namespace SX
set_option maxRecDepth 100000
theorem okD10 : okD 10 = true := by kernel_rfl
end SX
namespace SX
set_option maxRecDepth 100000
theorem okD11 : okD 11 = true := by kernel_rfl
end SX
namespace SX
set_option maxRecDepth 100000
theorem okD12 : okD 12 = true := by kernel_rfl
end SX
namespace SX
set_option maxRecDepth 100000
theorem okD13 : okD 13 = true := by kernel_rfl
end SX
end
