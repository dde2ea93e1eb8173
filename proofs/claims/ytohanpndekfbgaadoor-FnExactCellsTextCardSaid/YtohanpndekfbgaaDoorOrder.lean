/- The words that the program's order begins with, and what follows from them: apart, since the kernel reckons a long string's signs at a great price. (Printed by a program of the worker's.) -/
import Derived.Test.YtohanpndekfbgaaDoorRows
import Derived.WalkKit
import Derived.ProofKit
import Derived.OpenShut
import Derived.ShutString
import Derived.ChangeOld
import Derived.Below
import Derived.SizedLaws
namespace Go.Proofs.YtohanpndekfbgaaDoor.Order
open Go.ChangeShapes Go.WideShapes Go.ChangeAt Go.RowKit
set_option linter.unusedVariables false
set_option maxRecDepth 100000
/-- The sign of a number (32: the blank). -/
abbrev k (n : Nat) : Char := Char.ofNat n
theorem split : ∀ (w r : List Char), w.all (· != k 32) = true → wordsSigns (w ++ k 32 :: r) = w :: wordsSigns r
  | [], r, _ => by simp [wordsSigns, k]
  | c :: w, r, h => by
    simp only [List.all_cons, Bool.and_eq_true] at h
    have hc : c ≠ k 32 := by simpa using h.1
    rw [List.cons_append, wordsSigns, split w r h.2]
    exact hc
theorem order : Tryd.pinned.checked.prog.initOrder = String.ofList ([k 104, k 97, k 114, k 110, k 101, k 115, k 115] ++ k 32 :: ([k 57, k 55, k 51, k 53, k 51, k 53, k 48, k 55, k 101, k 99, k 101, k 99, k 53, k 48, k 49, k 56, k 48, k 55, k 101, k 49, k 100, k 98, k 98, k 51, k 52, k 101, k 52, k 48, k 100, k 50, k 57, k 54, k 100, k 52, k 97, k 49, k 100, k 101, k 54, k 55, k 53, k 54, k 56, k 49, k 52, k 53, k 98, k 99, k 99, k 100, k 97, k 102, k 55, k 97, k 55, k 53, k 55, k 52, k 52, k 99, k 51, k 53, k 50, k 53] ++ k 32 :: ([k 99, k 117, k 116] ++ k 32 :: [k 97, k 116, k 32, k 108, k 111, k 111, k 112, k 46, k 101, k 120, k 97, k 109, k 112, k 108, k 101, k 47, k 103, k 48, k 48, k 50, k 55, k 55, k 47, k 108, k 97, k 119, k 115, k 46, k 70, k 110, k 69, k 120, k 97, k 99, k 116, k 67, k 101, k 108, k 108, k 115, k 84, k 101, k 120, k 116]))) := by kernel_rfl
theorem words : wordsSigns Tryd.pinned.checked.prog.initOrder.toList = [k 104, k 97, k 114, k 110, k 101, k 115, k 115] :: [k 57, k 55, k 51, k 53, k 51, k 53, k 48, k 55, k 101, k 99, k 101, k 99, k 53, k 48, k 49, k 56, k 48, k 55, k 101, k 49, k 100, k 98, k 98, k 51, k 52, k 101, k 52, k 48, k 100, k 50, k 57, k 54, k 100, k 52, k 97, k 49, k 100, k 101, k 54, k 55, k 53, k 54, k 56, k 49, k 52, k 53, k 98, k 99, k 99, k 100, k 97, k 102, k 55, k 97, k 55, k 53, k 55, k 52, k 52, k 99, k 51, k 53, k 50, k 53] :: [k 99, k 117, k 116] :: wordsSigns [k 97, k 116, k 32, k 108, k 111, k 111, k 112, k 46, k 101, k 120, k 97, k 109, k 112, k 108, k 101, k 47, k 103, k 48, k 48, k 50, k 55, k 55, k 47, k 108, k 97, k 119, k 115, k 46, k 70, k 110, k 69, k 120, k 97, k 99, k 116, k 67, k 101, k 108, k 108, k 115, k 84, k 101, k 120, k 116] := by
  rw [order, String.toList_ofList, split _ _ (by decide), split _ _ (by decide), split _ _ (by decide)]
theorem behind : behindMainWord (wordsSigns Tryd.pinned.checked.prog.initOrder.toList) = [k 99, k 117, k 116] :: wordsSigns [k 97, k 116, k 32, k 108, k 111, k 111, k 112, k 46, k 101, k 120, k 97, k 109, k 112, k 108, k 101, k 47, k 103, k 48, k 48, k 50, k 55, k 55, k 47, k 108, k 97, k 119, k 115, k 46, k 70, k 110, k 69, k 120, k 97, k 99, k 116, k 67, k 101, k 108, k 108, k 115, k 84, k 101, k 120, k 116] := by
  rw [words]
  kernel_rfl
theorem later : Tryd.pinned.checked.prog.laysLater = false := by kernel_rfl
theorem bears : Tryd.pinned.checked.prog.bearsReflect = false := by kernel_rfl
theorem door : Tryd.pinned.checked.prog.doorFits [] = true := by kernel_rfl
theorem strip (X : List (List Char)) : stripLifts liftWords ([k 99, k 117, k 116] :: X) = ([], [k 99, k 117, k 116] :: X) := rfl
theorem may_of (P : Program) (X : List (List Char)) (h : behindMainWord (wordsSigns P.initOrder.toList) = [k 99, k 117, k 116] :: X) (h1 : P.laysLater = false) (h2 : P.bearsReflect = false) (h3 : P.doorFits [] = true) : P.mayEnter = true := by
  unfold Program.mayEnter
  rw [h]
  have hs := strip X
  simp [hs, h1, h2, h3]
theorem lifts_of (P : Program) (X : List (List Char)) (h : behindMainWord (wordsSigns P.initOrder.toList) = [k 99, k 117, k 116] :: X) : P.liftsFinal = false := by
  unfold Program.liftsFinal Program.headLifts
  rw [h]
  rfl
theorem made_of (P : Program) (X : List (List Char)) (h : behindMainWord (wordsSigns P.initOrder.toList) = [k 99, k 117, k 116] :: X) : P.make = some .cut := by
  unfold Program.make
  rw [h]
  rfl
theorem may : Tryd.pinned.checked.prog.mayEnter = true := may_of _ _ behind later bears door
theorem lifts : Tryd.pinned.checked.prog.liftsFinal = false := lifts_of _ _ behind
theorem made : Tryd.pinned.checked.prog.make = some .cut := made_of _ _ behind
end Go.Proofs.YtohanpndekfbgaaDoor.Order
