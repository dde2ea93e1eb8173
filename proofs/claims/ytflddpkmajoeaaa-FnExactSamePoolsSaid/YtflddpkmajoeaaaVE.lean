/- The table of the machine's functions. Laid by a program (wip/v/vmgen.py). -/
import Derived.Test.YtflddpkmajoeaaaVE0
namespace Go.Proofs.Ytflddpkmajoeaaa.V
open Go
def env : Env := env0
theorem envOK : EnvOK Try.prog env := envOK0
theorem mixed : Try.prog.follows .mixedOrders = true := by kernel_rfl
/-- A call of the program, by the machine's. -/
theorem calOK (d : Nat) : CalOK Try.prog (vcall env d) := call_ok mixed envOK d
theorem find5 : env.find 5 = some v5 := by kernel_rfl
theorem find14 : env.find 14 = some v14 := by kernel_rfl
theorem find17 : env.find 17 = some v17 := by kernel_rfl
theorem find26 : env.find 26 = some v26 := by kernel_rfl
theorem find27 : env.find 27 = some v27 := by kernel_rfl
theorem find28 : env.find 28 = some v28 := by kernel_rfl
theorem find29 : env.find 29 = some v29 := by kernel_rfl
theorem find30 : env.find 30 = some v30 := by kernel_rfl
theorem find58 : env.find 58 = some v58 := by kernel_rfl
theorem find60 : env.find 60 = some v60 := by kernel_rfl
theorem find61 : env.find 61 = some v61 := by kernel_rfl
theorem find63 : env.find 63 = some v63 := by kernel_rfl
theorem find65 : env.find 65 = some v65 := by kernel_rfl
theorem find67 : env.find 67 = some v67 := by kernel_rfl
theorem find68 : env.find 68 = some v68 := by kernel_rfl
theorem find69 : env.find 69 = some v69 := by kernel_rfl
theorem find70 : env.find 70 = some v70 := by kernel_rfl
theorem find71 : env.find 71 = some v71 := by kernel_rfl
theorem find72 : env.find 72 = some v72 := by kernel_rfl
theorem find73 : env.find 73 = some v73 := by kernel_rfl
theorem find74 : env.find 74 = some v74 := by kernel_rfl
theorem find108 : env.find 108 = some v108 := by kernel_rfl
theorem find110 : env.find 110 = some v110 := by kernel_rfl
theorem find112 : env.find 112 = some v112 := by kernel_rfl
theorem find113 : env.find 113 = some v113 := by kernel_rfl
theorem find114 : env.find 114 = some v114 := by kernel_rfl
theorem find115 : env.find 115 = some v115 := by kernel_rfl
theorem find116 : env.find 116 = some v116 := by kernel_rfl
theorem find117 : env.find 117 = some v117 := by kernel_rfl
theorem find148 : env.find 148 = some v148 := by kernel_rfl
theorem find149 : env.find 149 = some v149 := by kernel_rfl
theorem find150 : env.find 150 = some v150 := by kernel_rfl
theorem find151 : env.find 151 = some v151 := by kernel_rfl
theorem find152 : env.find 152 = some v152 := by kernel_rfl
end Go.Proofs.Ytflddpkmajoeaaa.V
