/- The table of the machine's functions. Laid by a program (wip/v/vmgen.py). -/
import Derived.Test.YtaahjfjpbilfnaaVE0
import Derived.Test.YtaahjfjpbilfnaaVE1
namespace Go.Proofs.Ytaahjfjpbilfnaa.V
open Go
def env : Env := env0 ++ env1
theorem envOK : EnvOK Try.prog env := (envOK0.append envOK1)
theorem mixed : Try.prog.follows .mixedOrders = true := by kernel_rfl
/-- A call of the program, by the machine's. -/
theorem calOK (d : Nat) : CalOK Try.prog (vcall env d) := call_ok mixed envOK d
theorem find5 : env.find 5 = some v5 := by kernel_rfl
theorem find15 : env.find 15 = some v15 := by kernel_rfl
theorem find17 : env.find 17 = some v17 := by kernel_rfl
theorem find19 : env.find 19 = some v19 := by kernel_rfl
theorem find22 : env.find 22 = some v22 := by kernel_rfl
theorem find24 : env.find 24 = some v24 := by kernel_rfl
theorem find25 : env.find 25 = some v25 := by kernel_rfl
theorem find26 : env.find 26 = some v26 := by kernel_rfl
theorem find27 : env.find 27 = some v27 := by kernel_rfl
theorem find28 : env.find 28 = some v28 := by kernel_rfl
theorem find29 : env.find 29 = some v29 := by kernel_rfl
theorem find30 : env.find 30 = some v30 := by kernel_rfl
theorem find31 : env.find 31 = some v31 := by kernel_rfl
theorem find44 : env.find 44 = some v44 := by kernel_rfl
theorem find45 : env.find 45 = some v45 := by kernel_rfl
theorem find46 : env.find 46 = some v46 := by kernel_rfl
theorem find49 : env.find 49 = some v49 := by kernel_rfl
theorem find50 : env.find 50 = some v50 := by kernel_rfl
theorem find55 : env.find 55 = some v55 := by kernel_rfl
theorem find59 : env.find 59 = some v59 := by kernel_rfl
theorem find60 : env.find 60 = some v60 := by kernel_rfl
theorem find61 : env.find 61 = some v61 := by kernel_rfl
theorem find62 : env.find 62 = some v62 := by kernel_rfl
theorem find63 : env.find 63 = some v63 := by kernel_rfl
theorem find64 : env.find 64 = some v64 := by kernel_rfl
theorem find65 : env.find 65 = some v65 := by kernel_rfl
theorem find68 : env.find 68 = some v68 := by kernel_rfl
theorem find70 : env.find 70 = some v70 := by kernel_rfl
theorem find71 : env.find 71 = some v71 := by kernel_rfl
theorem find72 : env.find 72 = some v72 := by kernel_rfl
theorem find73 : env.find 73 = some v73 := by kernel_rfl
theorem find74 : env.find 74 = some v74 := by kernel_rfl
theorem find76 : env.find 76 = some v76 := by kernel_rfl
theorem find77 : env.find 77 = some v77 := by kernel_rfl
theorem find78 : env.find 78 = some v78 := by kernel_rfl
theorem find79 : env.find 79 = some v79 := by kernel_rfl
theorem find80 : env.find 80 = some v80 := by kernel_rfl
theorem find81 : env.find 81 = some v81 := by kernel_rfl
theorem find82 : env.find 82 = some v82 := by kernel_rfl
theorem find83 : env.find 83 = some v83 := by kernel_rfl
theorem find84 : env.find 84 = some v84 := by kernel_rfl
theorem find85 : env.find 85 = some v85 := by kernel_rfl
theorem find87 : env.find 87 = some v87 := by kernel_rfl
theorem find90 : env.find 90 = some v90 := by kernel_rfl
theorem find91 : env.find 91 = some v91 := by kernel_rfl
theorem find92 : env.find 92 = some v92 := by kernel_rfl
theorem find94 : env.find 94 = some v94 := by kernel_rfl
theorem find98 : env.find 98 = some v98 := by kernel_rfl
theorem find99 : env.find 99 = some v99 := by kernel_rfl
theorem find100 : env.find 100 = some v100 := by kernel_rfl
theorem find101 : env.find 101 = some v101 := by kernel_rfl
theorem find102 : env.find 102 = some v102 := by kernel_rfl
theorem find103 : env.find 103 = some v103 := by kernel_rfl
theorem find104 : env.find 104 = some v104 := by kernel_rfl
theorem find106 : env.find 106 = some v106 := by kernel_rfl
theorem find107 : env.find 107 = some v107 := by kernel_rfl
theorem find108 : env.find 108 = some v108 := by kernel_rfl
theorem find110 : env.find 110 = some v110 := by kernel_rfl
theorem find111 : env.find 111 = some v111 := by kernel_rfl
theorem find112 : env.find 112 = some v112 := by kernel_rfl
theorem find113 : env.find 113 = some v113 := by kernel_rfl
theorem find114 : env.find 114 = some v114 := by kernel_rfl
theorem find115 : env.find 115 = some v115 := by kernel_rfl
theorem find117 : env.find 117 = some v117 := by kernel_rfl
theorem find118 : env.find 118 = some v118 := by kernel_rfl
end Go.Proofs.Ytaahjfjpbilfnaa.V
