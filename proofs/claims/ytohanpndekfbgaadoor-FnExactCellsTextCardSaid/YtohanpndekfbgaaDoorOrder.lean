/- The words that the program's order begins with, and what follows from them: apart, since the kernel reckons a long string's signs at a great price. (Printed by a program of the worker's.) -/
import Derived.Test.YtohanpndekfbgaaDoorRows
import Derived.WalkKit
import Derived.ProofKit
import Derived.OpenShut
import Derived.ShutString
import Derived.ChangeOld
import Derived.Below
import Derived.SizedLaws
namespace Go.Proofs.YtohanpndekfbgaaDoor.Order
open Go.ChangeShapes Go.WideShapes Go.ChangeAt Go.RowKit
set_option linter.unusedVariables false
set_option maxRecDepth 100000
theorem split : ∀ (w r : List Char), w.all (· != ' ') = true → wordsSigns (w ++ ' ' :: r) = w :: wordsSigns r
  | [], r, _ => by simp [wordsSigns]
  | c :: w, r, h => by
    simp only [List.all_cons, Bool.and_eq_true] at h
    have hc : c ≠ ' ' := by simpa using h.1
    rw [List.cons_append, wordsSigns, split w r h.2]
    exact hc
theorem order : Tryd.pinned.checked.prog.initOrder = String.ofList (['h', 'a', 'r', 'n', 'e', 's', 's'] ++ ' ' :: (['9', '7', '3', '5', '3', '5', '0', '7', 'e', 'c', 'e', 'c', '5', '0', '1', '8', '0', '7', 'e', '1', 'd', 'b', 'b', '3', '4', 'e', '4', '0', 'd', '2', '9', '6', 'd', '4', 'a', '1', 'd', 'e', '6', '7', '5', '6', '8', '1', '4', '5', 'b', 'c', 'c', 'd', 'a', 'f', '7', 'a', '7', '5', '7', '4', '4', 'c', '3', '5', '2', '5'] ++ ' ' :: (['c', 'u', 't'] ++ ' ' :: ['a', 't', ' ', 'l', 'o', 'o', 'p', '.', 'e', 'x', 'a', 'm', 'p', 'l', 'e', '/', 'g', '0', '0', '2', '7', '7', '/', 'l', 'a', 'w', 's', '.', 'F', 'n', 'E', 'x', 'a', 'c', 't', 'C', 'e', 'l', 'l', 's', 'T', 'e', 'x', 't']))) := by kernel_rfl
theorem words : wordsSigns Tryd.pinned.checked.prog.initOrder.toList = ['h', 'a', 'r', 'n', 'e', 's', 's'] :: ['9', '7', '3', '5', '3', '5', '0', '7', 'e', 'c', 'e', 'c', '5', '0', '1', '8', '0', '7', 'e', '1', 'd', 'b', 'b', '3', '4', 'e', '4', '0', 'd', '2', '9', '6', 'd', '4', 'a', '1', 'd', 'e', '6', '7', '5', '6', '8', '1', '4', '5', 'b', 'c', 'c', 'd', 'a', 'f', '7', 'a', '7', '5', '7', '4', '4', 'c', '3', '5', '2', '5'] :: ['c', 'u', 't'] :: wordsSigns ['a', 't', ' ', 'l', 'o', 'o', 'p', '.', 'e', 'x', 'a', 'm', 'p', 'l', 'e', '/', 'g', '0', '0', '2', '7', '7', '/', 'l', 'a', 'w', 's', '.', 'F', 'n', 'E', 'x', 'a', 'c', 't', 'C', 'e', 'l', 'l', 's', 'T', 'e', 'x', 't'] := by
  rw [order, String.toList_ofList, split _ _ (by decide), split _ _ (by decide), split _ _ (by decide)]
theorem behind : behindMainWord (wordsSigns Tryd.pinned.checked.prog.initOrder.toList) = ['c', 'u', 't'] :: wordsSigns ['a', 't', ' ', 'l', 'o', 'o', 'p', '.', 'e', 'x', 'a', 'm', 'p', 'l', 'e', '/', 'g', '0', '0', '2', '7', '7', '/', 'l', 'a', 'w', 's', '.', 'F', 'n', 'E', 'x', 'a', 'c', 't', 'C', 'e', 'l', 'l', 's', 'T', 'e', 'x', 't'] := by
  rw [words]
  kernel_rfl
theorem later : Tryd.pinned.checked.prog.laysLater = false := by kernel_rfl
theorem bears : Tryd.pinned.checked.prog.bearsReflect = false := by kernel_rfl
theorem door : Tryd.pinned.checked.prog.doorFits [] = true := by kernel_rfl
theorem strip (X : List (List Char)) : stripLifts liftWords (['c', 'u', 't'] :: X) = ([], ['c', 'u', 't'] :: X) := rfl
theorem may_of (P : Program) (X : List (List Char)) (h : behindMainWord (wordsSigns P.initOrder.toList) = ['c', 'u', 't'] :: X) (h1 : P.laysLater = false) (h2 : P.bearsReflect = false) (h3 : P.doorFits [] = true) : P.mayEnter = true := by
  unfold Program.mayEnter
  rw [h]
  have hs := strip X
  simp [hs, h1, h2, h3]
theorem lifts_of (P : Program) (X : List (List Char)) (h : behindMainWord (wordsSigns P.initOrder.toList) = ['c', 'u', 't'] :: X) : P.liftsFinal = false := by
  unfold Program.liftsFinal Program.headLifts
  rw [h]
  rfl
theorem made_of (P : Program) (X : List (List Char)) (h : behindMainWord (wordsSigns P.initOrder.toList) = ['c', 'u', 't'] :: X) : P.make = some .cut := by
  unfold Program.make
  rw [h]
  rfl
theorem may : Tryd.pinned.checked.prog.mayEnter = true := may_of _ _ behind later bears door
theorem lifts : Tryd.pinned.checked.prog.liftsFinal = false := lifts_of _ _ behind
theorem made : Tryd.pinned.checked.prog.make = some .cut := made_of _ _ behind
end Go.Proofs.YtohanpndekfbgaaDoor.Order
