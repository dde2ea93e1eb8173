/- The table of the machine's functions. Laid by a program (wip/v/vmgen.py). -/
import Derived.Test.YtmcljallamhccaaVE0
import Derived.Test.YtmcljallamhccaaVE1
import Derived.Test.YtmcljallamhccaaVE2
namespace Go.Proofs.Ytmcljallamhccaa.V
open Go
def env : Env := env0 ++ env1 ++ env2
theorem envOK : EnvOK Try.prog env := ((envOK0.append envOK1).append envOK2)
theorem mixed : Try.prog.follows .mixedOrders = true := by kernel_rfl
/-- A call of the program, by the machine's. -/
theorem calOK (d : Nat) : CalOK Try.prog (vcall env d) := call_ok mixed envOK d
theorem find8 : env.find 8 = some v8 := by kernel_rfl
theorem find18 : env.find 18 = some v18 := by kernel_rfl
theorem find19 : env.find 19 = some v19 := by kernel_rfl
theorem find20 : env.find 20 = some v20 := by kernel_rfl
theorem find21 : env.find 21 = some v21 := by kernel_rfl
theorem find28 : env.find 28 = some v28 := by kernel_rfl
theorem find32 : env.find 32 = some v32 := by kernel_rfl
theorem find35 : env.find 35 = some v35 := by kernel_rfl
theorem find36 : env.find 36 = some v36 := by kernel_rfl
theorem find37 : env.find 37 = some v37 := by kernel_rfl
theorem find38 : env.find 38 = some v38 := by kernel_rfl
theorem find39 : env.find 39 = some v39 := by kernel_rfl
theorem find40 : env.find 40 = some v40 := by kernel_rfl
theorem find41 : env.find 41 = some v41 := by kernel_rfl
theorem find42 : env.find 42 = some v42 := by kernel_rfl
theorem find54 : env.find 54 = some v54 := by kernel_rfl
theorem find57 : env.find 57 = some v57 := by kernel_rfl
theorem find58 : env.find 58 = some v58 := by kernel_rfl
theorem find59 : env.find 59 = some v59 := by kernel_rfl
theorem find64 : env.find 64 = some v64 := by kernel_rfl
theorem find65 : env.find 65 = some v65 := by kernel_rfl
theorem find66 : env.find 66 = some v66 := by kernel_rfl
theorem find67 : env.find 67 = some v67 := by kernel_rfl
theorem find68 : env.find 68 = some v68 := by kernel_rfl
theorem find69 : env.find 69 = some v69 := by kernel_rfl
theorem find70 : env.find 70 = some v70 := by kernel_rfl
theorem find71 : env.find 71 = some v71 := by kernel_rfl
theorem find72 : env.find 72 = some v72 := by kernel_rfl
theorem find73 : env.find 73 = some v73 := by kernel_rfl
theorem find74 : env.find 74 = some v74 := by kernel_rfl
theorem find75 : env.find 75 = some v75 := by kernel_rfl
theorem find76 : env.find 76 = some v76 := by kernel_rfl
theorem find77 : env.find 77 = some v77 := by kernel_rfl
theorem find79 : env.find 79 = some v79 := by kernel_rfl
theorem find84 : env.find 84 = some v84 := by kernel_rfl
theorem find85 : env.find 85 = some v85 := by kernel_rfl
theorem find86 : env.find 86 = some v86 := by kernel_rfl
theorem find87 : env.find 87 = some v87 := by kernel_rfl
theorem find88 : env.find 88 = some v88 := by kernel_rfl
theorem find89 : env.find 89 = some v89 := by kernel_rfl
theorem find90 : env.find 90 = some v90 := by kernel_rfl
theorem find91 : env.find 91 = some v91 := by kernel_rfl
theorem find92 : env.find 92 = some v92 := by kernel_rfl
theorem find93 : env.find 93 = some v93 := by kernel_rfl
theorem find94 : env.find 94 = some v94 := by kernel_rfl
theorem find95 : env.find 95 = some v95 := by kernel_rfl
theorem find96 : env.find 96 = some v96 := by kernel_rfl
theorem find97 : env.find 97 = some v97 := by kernel_rfl
theorem find98 : env.find 98 = some v98 := by kernel_rfl
theorem find104 : env.find 104 = some v104 := by kernel_rfl
theorem find106 : env.find 106 = some v106 := by kernel_rfl
theorem find107 : env.find 107 = some v107 := by kernel_rfl
theorem find108 : env.find 108 = some v108 := by kernel_rfl
theorem find109 : env.find 109 = some v109 := by kernel_rfl
theorem find110 : env.find 110 = some v110 := by kernel_rfl
theorem find112 : env.find 112 = some v112 := by kernel_rfl
theorem find113 : env.find 113 = some v113 := by kernel_rfl
theorem find114 : env.find 114 = some v114 := by kernel_rfl
theorem find115 : env.find 115 = some v115 := by kernel_rfl
theorem find116 : env.find 116 = some v116 := by kernel_rfl
theorem find117 : env.find 117 = some v117 := by kernel_rfl
theorem find118 : env.find 118 = some v118 := by kernel_rfl
theorem find123 : env.find 123 = some v123 := by kernel_rfl
theorem find124 : env.find 124 = some v124 := by kernel_rfl
theorem find125 : env.find 125 = some v125 := by kernel_rfl
theorem find126 : env.find 126 = some v126 := by kernel_rfl
theorem find127 : env.find 127 = some v127 := by kernel_rfl
theorem find128 : env.find 128 = some v128 := by kernel_rfl
theorem find129 : env.find 129 = some v129 := by kernel_rfl
theorem find130 : env.find 130 = some v130 := by kernel_rfl
theorem find131 : env.find 131 = some v131 := by kernel_rfl
theorem find132 : env.find 132 = some v132 := by kernel_rfl
theorem find133 : env.find 133 = some v133 := by kernel_rfl
theorem find139 : env.find 139 = some v139 := by kernel_rfl
theorem find140 : env.find 140 = some v140 := by kernel_rfl
theorem find142 : env.find 142 = some v142 := by kernel_rfl
theorem find143 : env.find 143 = some v143 := by kernel_rfl
theorem find145 : env.find 145 = some v145 := by kernel_rfl
theorem find146 : env.find 146 = some v146 := by kernel_rfl
theorem find147 : env.find 147 = some v147 := by kernel_rfl
theorem find148 : env.find 148 = some v148 := by kernel_rfl
theorem find149 : env.find 149 = some v149 := by kernel_rfl
theorem find150 : env.find 150 = some v150 := by kernel_rfl
theorem find151 : env.find 151 = some v151 := by kernel_rfl
theorem find152 : env.find 152 = some v152 := by kernel_rfl
theorem find153 : env.find 153 = some v153 := by kernel_rfl
theorem find154 : env.find 154 = some v154 := by kernel_rfl
theorem find155 : env.find 155 = some v155 := by kernel_rfl
theorem find158 : env.find 158 = some v158 := by kernel_rfl
theorem find160 : env.find 160 = some v160 := by kernel_rfl
theorem find161 : env.find 161 = some v161 := by kernel_rfl
theorem find162 : env.find 162 = some v162 := by kernel_rfl
theorem find163 : env.find 163 = some v163 := by kernel_rfl
theorem find164 : env.find 164 = some v164 := by kernel_rfl
theorem find165 : env.find 165 = some v165 := by kernel_rfl
theorem find166 : env.find 166 = some v166 := by kernel_rfl
end Go.Proofs.Ytmcljallamhccaa.V
