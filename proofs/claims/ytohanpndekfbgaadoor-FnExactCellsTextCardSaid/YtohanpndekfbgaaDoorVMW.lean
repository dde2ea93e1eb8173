/- What the machine computes at a law's arguments, as the row asks for it. -/
import Derived.Test.YtohanpndekfbgaaDoorVMS
import Derived.Below
namespace Go.Proofs.YtohanpndekfbgaaDoor.V
open Go Go.RowKit
variable {TT : List (Nat × Obj)}
set_option linter.unusedVariables false
/-- A law that answers true: it turns nothing that was there. -/
theorem row_ok {P : Program} {call : Cal} (hc : CalOK TT P call) {f : Nat} {args rargs : List Value} {H H' : Hp} {μ : Mu} {w : World} (h : call f args H.length H = some (.bool true, H')) (ha : L2 (R2 μ) args rargs) (hs : Sim TT μ H w) :
    Calls P f rargs.toArray w (fun e w' => e = .returned (.bool true) ∧ Below w.heap.size w w') :=
  (hc f args H.length H _ H' h (Nat.le_refl _) μ w rargs ha hs).2.mono fun e w' ⟨r, μ', he, hr, _, st⟩ => by
    have hr' : r = .bool true := hr
    subst hr'
    exact ⟨he, st.os, st.tape, st.output, st.size, fun k hk => st.old k hk fun i bl m hi hb _ _ => by
      have := (List.getElem?_eq_some_iff.1 hb).1; omega⟩
end Go.Proofs.YtohanpndekfbgaaDoor.V
