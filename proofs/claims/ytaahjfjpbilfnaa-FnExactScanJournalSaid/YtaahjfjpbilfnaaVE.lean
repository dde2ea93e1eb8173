/- The table of the machine's functions. Laid by a program (wip/v/vmgen.py). -/
import Derived.Test.YtaahjfjpbilfnaaVE0
namespace Go.Proofs.Ytaahjfjpbilfnaa.V
open Go
def env : Env := env0
theorem envOK : EnvOK Try.prog env := envOK0
theorem mixed : Try.prog.follows .mixedOrders = true := by kernel_rfl
/-- A call of the program, by the machine's. -/
theorem calOK (d : Nat) : CalOK Try.prog (vcall env d) := call_ok mixed envOK d
theorem find13 : env.find 13 = some v13 := by kernel_rfl
theorem find16 : env.find 16 = some v16 := by kernel_rfl
theorem find18 : env.find 18 = some v18 := by kernel_rfl
theorem find19 : env.find 19 = some v19 := by kernel_rfl
theorem find20 : env.find 20 = some v20 := by kernel_rfl
theorem find33 : env.find 33 = some v33 := by kernel_rfl
theorem find35 : env.find 35 = some v35 := by kernel_rfl
theorem find36 : env.find 36 = some v36 := by kernel_rfl
theorem find41 : env.find 41 = some v41 := by kernel_rfl
theorem find54 : env.find 54 = some v54 := by kernel_rfl
theorem find55 : env.find 55 = some v55 := by kernel_rfl
theorem find56 : env.find 56 = some v56 := by kernel_rfl
theorem find57 : env.find 57 = some v57 := by kernel_rfl
theorem find58 : env.find 58 = some v58 := by kernel_rfl
theorem find64 : env.find 64 = some v64 := by kernel_rfl
theorem find65 : env.find 65 = some v65 := by kernel_rfl
theorem find66 : env.find 66 = some v66 := by kernel_rfl
theorem find67 : env.find 67 = some v67 := by kernel_rfl
theorem find68 : env.find 68 = some v68 := by kernel_rfl
theorem find69 : env.find 69 = some v69 := by kernel_rfl
theorem find70 : env.find 70 = some v70 := by kernel_rfl
theorem find71 : env.find 71 = some v71 := by kernel_rfl
theorem find72 : env.find 72 = some v72 := by kernel_rfl
theorem find73 : env.find 73 = some v73 := by kernel_rfl
theorem find74 : env.find 74 = some v74 := by kernel_rfl
theorem find75 : env.find 75 = some v75 := by kernel_rfl
theorem find76 : env.find 76 = some v76 := by kernel_rfl
theorem find77 : env.find 77 = some v77 := by kernel_rfl
theorem find79 : env.find 79 = some v79 := by kernel_rfl
theorem find87 : env.find 87 = some v87 := by kernel_rfl
theorem find88 : env.find 88 = some v88 := by kernel_rfl
theorem find89 : env.find 89 = some v89 := by kernel_rfl
theorem find90 : env.find 90 = some v90 := by kernel_rfl
theorem find92 : env.find 92 = some v92 := by kernel_rfl
theorem find94 : env.find 94 = some v94 := by kernel_rfl
theorem find95 : env.find 95 = some v95 := by kernel_rfl
theorem find96 : env.find 96 = some v96 := by kernel_rfl
theorem find97 : env.find 97 = some v97 := by kernel_rfl
theorem find99 : env.find 99 = some v99 := by kernel_rfl
theorem find100 : env.find 100 = some v100 := by kernel_rfl
theorem find104 : env.find 104 = some v104 := by kernel_rfl
theorem find105 : env.find 105 = some v105 := by kernel_rfl
theorem find106 : env.find 106 = some v106 := by kernel_rfl
theorem find107 : env.find 107 = some v107 := by kernel_rfl
theorem find108 : env.find 108 = some v108 := by kernel_rfl
theorem find109 : env.find 109 = some v109 := by kernel_rfl
theorem find110 : env.find 110 = some v110 := by kernel_rfl
theorem find111 : env.find 111 = some v111 := by kernel_rfl
theorem find117 : env.find 117 = some v117 := by kernel_rfl
theorem find118 : env.find 118 = some v118 := by kernel_rfl
end Go.Proofs.Ytaahjfjpbilfnaa.V
