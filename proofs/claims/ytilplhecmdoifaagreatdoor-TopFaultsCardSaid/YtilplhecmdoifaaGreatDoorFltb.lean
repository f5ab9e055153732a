/-
  The last piece, run for seven of the fourteen texts.
-/
import Derived.Test.YtilplhecmdoifaaGreatDoorFlta
set_option linter.all false
noncomputable section
namespace SX
set_option maxRecDepth 100000
theorem okD0 : okD 0 = true := by kernel_rfl
end SX
namespace SX
set_option maxRecDepth 100000
theorem okD1 : okD 1 = true := by kernel_rfl
end SX
namespace SX
set_option maxRecDepth 100000
theorem okD2 : okD 2 = true := by kernel_rfl
end SX
namespace SX
set_option maxRecDepth 100000
theorem okD3 : okD 3 = true := by kernel_rfl
end SX
namespace SX
set_option maxRecDepth 100000
theorem okD4 : okD 4 = true := by kernel_rfl
end SX
namespace SX
set_option maxRecDepth 100000
theorem okD5 : okD 5 = true := by kernel_rfl
end SX
namespace SX
set_option maxRecDepth 100000
theorem okD6 : okD 6 = true := by kernel_rfl
end SX
end
