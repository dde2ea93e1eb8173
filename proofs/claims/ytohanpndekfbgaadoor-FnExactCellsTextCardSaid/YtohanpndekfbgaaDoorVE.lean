/- The table of the machine's functions. Laid by a program (wip/v/vmgen.py). -/
import Derived.Test.YtohanpndekfbgaaDoorVE0
import Derived.Test.YtohanpndekfbgaaDoorVN
namespace Go.Proofs.YtohanpndekfbgaaDoor.V
open Go
def envF : EnvL := env0
theorem envOK : EnvOK Tryd.prog envF := envOK0
/-- What functions of Go's library give. -/
noncomputable def nat (f : Nat) (args : List Value) (H : Hp) : Option Value := if f = 38 then natJoin args H else if f = 55 then natInt args H else  none
noncomputable def env : Env := ⟨envF, nat⟩
theorem mixed : Tryd.prog.follows .mixedOrders = true := by kernel_rfl
/-- A call of the program, by the machine's. -/
theorem calOK {TT : List (Nat × Obj)} (hN : NatOK TT Tryd.prog nat) (d : Nat) : CalOK TT Tryd.prog (vcall env d) := call_ok mixed envOK hN d
theorem find3 : env.find 3 = some v3 := by kernel_rfl
theorem find4 : env.find 4 = some v4 := by kernel_rfl
theorem find5 : env.find 5 = some v5 := by kernel_rfl
theorem find6 : env.find 6 = some v6 := by kernel_rfl
theorem find7 : env.find 7 = some v7 := by kernel_rfl
theorem find8 : env.find 8 = some v8 := by kernel_rfl
theorem find9 : env.find 9 = some v9 := by kernel_rfl
theorem find10 : env.find 10 = some v10 := by kernel_rfl
theorem find11 : env.find 11 = some v11 := by kernel_rfl
theorem find12 : env.find 12 = some v12 := by kernel_rfl
theorem find13 : env.find 13 = some v13 := by kernel_rfl
theorem find14 : env.find 14 = some v14 := by kernel_rfl
theorem find15 : env.find 15 = some v15 := by kernel_rfl
theorem find16 : env.find 16 = some v16 := by kernel_rfl
theorem find17 : env.find 17 = some v17 := by kernel_rfl
theorem find18 : env.find 18 = some v18 := by kernel_rfl
theorem find19 : env.find 19 = some v19 := by kernel_rfl
theorem find20 : env.find 20 = some v20 := by kernel_rfl
theorem find21 : env.find 21 = some v21 := by kernel_rfl
theorem find22 : env.find 22 = some v22 := by kernel_rfl
theorem find23 : env.find 23 = some v23 := by kernel_rfl
theorem find24 : env.find 24 = some v24 := by kernel_rfl
theorem find25 : env.find 25 = some v25 := by kernel_rfl
theorem find26 : env.find 26 = some v26 := by kernel_rfl
theorem find27 : env.find 27 = some v27 := by kernel_rfl
theorem find28 : env.find 28 = some v28 := by kernel_rfl
theorem find29 : env.find 29 = some v29 := by kernel_rfl
theorem find30 : env.find 30 = some v30 := by kernel_rfl
theorem find31 : env.find 31 = some v31 := by kernel_rfl
theorem find32 : env.find 32 = some v32 := by kernel_rfl
theorem find33 : env.find 33 = some v33 := by kernel_rfl
theorem find34 : env.find 34 = some v34 := by kernel_rfl
theorem find35 : env.find 35 = some v35 := by kernel_rfl
theorem find36 : env.find 36 = some v36 := by kernel_rfl
theorem find37 : env.find 37 = some v37 := by kernel_rfl
theorem find39 : env.find 39 = some v39 := by kernel_rfl
theorem find40 : env.find 40 = some v40 := by kernel_rfl
theorem find41 : env.find 41 = some v41 := by kernel_rfl
theorem find42 : env.find 42 = some v42 := by kernel_rfl
theorem find43 : env.find 43 = some v43 := by kernel_rfl
theorem find44 : env.find 44 = some v44 := by kernel_rfl
theorem find45 : env.find 45 = some v45 := by kernel_rfl
theorem find46 : env.find 46 = some v46 := by kernel_rfl
theorem find47 : env.find 47 = some v47 := by kernel_rfl
theorem find48 : env.find 48 = some v48 := by kernel_rfl
theorem find49 : env.find 49 = some v49 := by kernel_rfl
theorem find50 : env.find 50 = some v50 := by kernel_rfl
theorem find51 : env.find 51 = some v51 := by kernel_rfl
theorem find52 : env.find 52 = some v52 := by kernel_rfl
theorem find53 : env.find 53 = some v53 := by kernel_rfl
theorem find54 : env.find 54 = some v54 := by kernel_rfl
theorem find59 : env.find 59 = some v59 := by kernel_rfl
theorem find60 : env.find 60 = some v60 := by kernel_rfl
end Go.Proofs.YtohanpndekfbgaaDoor.V
