/- The table of the machine's functions. Laid by a program (wip/v/vmgen.py). -/
import Derived.Test.YtaahjfjpbilfnaaVE0
namespace Go.Proofs.Ytaahjfjpbilfnaa.V
open Go
def env : Env := env0
theorem envOK : EnvOK Try.prog env := envOK0
theorem mixed : Try.prog.follows .mixedOrders = true := by kernel_rfl
/-- A call of the program, by the machine's. -/
theorem calOK (d : Nat) : CalOK Try.prog (vcall env d) := call_ok mixed envOK d
theorem find6 : env.find 6 = some v6 := by kernel_rfl
theorem find19 : env.find 19 = some v19 := by kernel_rfl
theorem find20 : env.find 20 = some v20 := by kernel_rfl
theorem find31 : env.find 31 = some v31 := by kernel_rfl
theorem find32 : env.find 32 = some v32 := by kernel_rfl
theorem find33 : env.find 33 = some v33 := by kernel_rfl
theorem find34 : env.find 34 = some v34 := by kernel_rfl
theorem find35 : env.find 35 = some v35 := by kernel_rfl
theorem find36 : env.find 36 = some v36 := by kernel_rfl
theorem find37 : env.find 37 = some v37 := by kernel_rfl
theorem find38 : env.find 38 = some v38 := by kernel_rfl
theorem find41 : env.find 41 = some v41 := by kernel_rfl
theorem find68 : env.find 68 = some v68 := by kernel_rfl
theorem find70 : env.find 70 = some v70 := by kernel_rfl
theorem find71 : env.find 71 = some v71 := by kernel_rfl
theorem find72 : env.find 72 = some v72 := by kernel_rfl
theorem find73 : env.find 73 = some v73 := by kernel_rfl
theorem find74 : env.find 74 = some v74 := by kernel_rfl
theorem find75 : env.find 75 = some v75 := by kernel_rfl
theorem find76 : env.find 76 = some v76 := by kernel_rfl
theorem find85 : env.find 85 = some v85 := by kernel_rfl
theorem find86 : env.find 86 = some v86 := by kernel_rfl
theorem find88 : env.find 88 = some v88 := by kernel_rfl
theorem find89 : env.find 89 = some v89 := by kernel_rfl
theorem find90 : env.find 90 = some v90 := by kernel_rfl
theorem find104 : env.find 104 = some v104 := by kernel_rfl
theorem find106 : env.find 106 = some v106 := by kernel_rfl
theorem find107 : env.find 107 = some v107 := by kernel_rfl
theorem find108 : env.find 108 = some v108 := by kernel_rfl
theorem find109 : env.find 109 = some v109 := by kernel_rfl
theorem find110 : env.find 110 = some v110 := by kernel_rfl
theorem find115 : env.find 115 = some v115 := by kernel_rfl
theorem find116 : env.find 116 = some v116 := by kernel_rfl
theorem find118 : env.find 118 = some v118 := by kernel_rfl
end Go.Proofs.Ytaahjfjpbilfnaa.V
