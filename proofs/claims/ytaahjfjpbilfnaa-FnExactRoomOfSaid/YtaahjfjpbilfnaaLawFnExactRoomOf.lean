/- The law FnExactRoomOf of the program holds at whatever its arguments read as (the statement's own bounds alone): the row, with the texts that it is joined out of. -/
import Derived.Test.YtaahjfjpbilfnaaRows
import Derived.WalkKit
import Derived.ProofKit
import Derived.OpenShut
import Derived.ShutString
import Derived.ChangeOld
import Derived.Below
import Derived.SizedLaws
import Derived.Test.YtaahjfjpbilfnaaPDx51
import Derived.Test.YtaahjfjpbilfnaaPDx50
import Derived.Test.YtaahjfjpbilfnaaPDx49
import Derived.Test.YtaahjfjpbilfnaaPDx45
import Derived.Test.YtaahjfjpbilfnaaPDx44
import Derived.Test.YtaahjfjpbilfnaaPDx48
import Derived.Test.YtaahjfjpbilfnaaPDx46
import Derived.Test.YtaahjfjpbilfnaaPDx43
import Derived.Test.YtaahjfjpbilfnaaPDx47
import Derived.Test.YtaahjfjpbilfnaaPDx14
import Derived.Test.YtaahjfjpbilfnaaPDx26
import Derived.Test.YtaahjfjpbilfnaaPDx16
import Derived.Test.YtaahjfjpbilfnaaPDx3
import Derived.Test.YtaahjfjpbilfnaaPDx8
import Derived.Test.YtaahjfjpbilfnaaPDx4
import Derived.Test.YtaahjfjpbilfnaaPDx11
import Derived.Test.YtaahjfjpbilfnaaPDx1
import Derived.Test.YtaahjfjpbilfnaaPDx6
import Derived.Test.YtaahjfjpbilfnaaWWords
import Derived.Test.YtaahjfjpbilfnaaPDx9
import Derived.Test.YtaahjfjpbilfnaaPDx10
import Derived.Test.YtaahjfjpbilfnaaPDx23
import Derived.Test.YtaahjfjpbilfnaaPDx25
import Derived.Test.YtaahjfjpbilfnaaOpen
/- The words that the program's order begins with, and what follows from them: apart, since the kernel reckons a long string's signs at a great price. (Printed by a program of the worker's.) -/
namespace Go.Proofs.Ytaahjfjpbilfnaa.Order
open Go.ChangeShapes Go.WideShapes Go.ChangeAt Go.RowKit
set_option linter.unusedVariables false
set_option maxRecDepth 100000
/-- The sign of a number (32: the blank). -/
abbrev k (n : Nat) : Char := Char.ofNat n
theorem split : ∀ (w r : List Char), w.all (· != k 32) = true → wordsSigns (w ++ k 32 :: r) = w :: wordsSigns r
  | [], r, _ => by simp [wordsSigns, k]
  | c :: w, r, h => by
    simp only [List.all_cons, Bool.and_eq_true] at h
    have hc : c ≠ k 32 := by simpa using h.1
    rw [List.cons_append, wordsSigns, split w r h.2]
    exact hc
theorem order : Try.pinned.checked.prog.initOrder = String.ofList ([k 104, k 97, k 114, k 110, k 101, k 115, k 115] ++ k 32 :: ([k 102, k 50, k 49, k 53, k 53, k 54, k 99, k 97, k 98, k 99, k 56, k 49, k 57, k 97, k 97, k 55, k 52, k 55, k 48, k 57, k 49, k 98, k 102, k 50, k 54, k 57, k 100, k 56, k 102, k 101, k 49, k 49, k 55, k 51, k 97, k 55, k 53, k 101, k 99, k 98, k 99, k 98, k 56, k 55, k 50, k 56, k 48, k 55, k 100, k 48, k 97, k 99, k 99, k 50, k 54, k 52, k 97, k 97, k 100, k 97, k 51, k 56, k 51, k 54] ++ k 32 :: ([k 99, k 117, k 116] ++ k 32 :: [k 97, k 116, k 32, k 108, k 111, k 111, k 112, k 46, k 101, k 120, k 97, k 109, k 112, k 108, k 101, k 47, k 103, k 48, k 48, k 50, k 55, k 55, k 47, k 108, k 97, k 119, k 115, k 46, k 70, k 110, k 69, k 120, k 97, k 99, k 116, k 68, k 105, k 115, k 107, k 70, k 97, k 117, k 108, k 116, k 32, k 108, k 111, k 111, k 112, k 46, k 101, k 120, k 97, k 109, k 112, k 108, k 101, k 47, k 103, k 48, k 48, k 50, k 55, k 55, k 47, k 108, k 97, k 119, k 115, k 46, k 70, k 110, k 69, k 120, k 97, k 99, k 116, k 87, k 111, k 114, k 100, k 65, k 116, k 32, k 108, k 111, k 111, k 112, k 46, k 101, k 120, k 97, k 109, k 112, k 108, k 101, k 47, k 103, k 48, k 48, k 50, k 55, k 55, k 47, k 108, k 97, k 119, k 115, k 46, k 70, k 110, k 68, k 105, k 115, k 107, k 115, k 32, k 108, k 111, k 111, k 112, k 46, k 101, k 120, k 97, k 109, k 112, k 108, k 101, k 47, k 103, k 48, k 48, k 50, k 55, k 55, k 47, k 108, k 97, k 119, k 115, k 46, k 70, k 110, k 69, k 120, k 97, k 99, k 116, k 78, k 101, k 119, k 68, k 105, k 115, k 107, k 32, k 108, k 111, k 111, k 112, k 46, k 101, k 120, k 97, k 109, k 112, k 108, k 101, k 47, k 103, k 48, k 48, k 50, k 55, k 55, k 47, k 108, k 97, k 119, k 115, k 46, k 70, k 110, k 69, k 120, k 97, k 99, k 116, k 65, k 108, k 108, k 87, k 111, k 114, k 100, k 115, k 32, k 108, k 111, k 111, k 112, k 46, k 101, k 120, k 97, k 109, k 112, k 108, k 101, k 47, k 103, k 48, k 48, k 50, k 55, k 55, k 47, k 108, k 97, k 119, k 115, k 46, k 70, k 110, k 69, k 120, k 97, k 99, k 116, k 70, k 108, k 117, k 115, k 104, k 68, k 105, k 115, k 107, k 32, k 108, k 111, k 111, k 112, k 46, k 101, k 120, k 97, k 109, k 112, k 108, k 101, k 47, k 103, k 48, k 48, k 50, k 55, k 55, k 47, k 108, k 97, k 119, k 115, k 46, k 70, k 110, k 69, k 120, k 97, k 99, k 116, k 67, k 111, k 109, k 109, k 105, k 116, k 74, k 111, k 117, k 114, k 110, k 97, k 108, k 32, k 108, k 111, k 111, k 112, k 46, k 101, k 120, k 97, k 109, k 112, k 108, k 101, k 47, k 103, k 48, k 48, k 50, k 55, k 55, k 47, k 108, k 97, k 119, k 115, k 46, k 70, k 110, k 69, k 120, k 97, k 99, k 116, k 80, k 117, k 116, k 87, k 111, k 114, k 100, k 32, k 108, k 111, k 111, k 112, k 46, k 101, k 120, k 97, k 109, k 112, k 108, k 101, k 47, k 103, k 48, k 48, k 50, k 55, k 55, k 47, k 108, k 97, k 119, k 115, k 46, k 70, k 110, k 69, k 120, k 97, k 99, k 116, k 82, k 111, k 111, k 109, k 79, k 102, k 32, k 108, k 111, k 111, k 112, k 46, k 101, k 120, k 97, k 109, k 112, k 108, k 101, k 47, k 103, k 48, k 48, k 50, k 55, k 55, k 47, k 108, k 97, k 119, k 115, k 46, k 70, k 110, k 69, k 120, k 97, k 99, k 116, k 67, k 114, k 97, k 115, k 104, k 68, k 105, k 115, k 107, k 32, k 108, k 111, k 111, k 112, k 46, k 101, k 120, k 97, k 109, k 112, k 108, k 101, k 47, k 103, k 48, k 48, k 50, k 55, k 55, k 47, k 108, k 97, k 119, k 115, k 46, k 70, k 110, k 69, k 120, k 97, k 99, k 116, k 83, k 99, k 97, k 110, k 74, k 111, k 117, k 114, k 110, k 97, k 108, k 32, k 108, k 111, k 111, k 112, k 46, k 101, k 120, k 97, k 109, k 112, k 108, k 101, k 47, k 103, k 48, k 48, k 50, k 55, k 55, k 47, k 108, k 97, k 119, k 115, k 46, k 70, k 110, k 69, k 120, k 97, k 99, k 116, k 65, k 112, k 112, k 101, k 110, k 100, k 74, k 111, k 117, k 114, k 110, k 97, k 108, k 32, k 108, k 111, k 111, k 112, k 46, k 101, k 120, k 97, k 109, k 112, k 108, k 101, k 47, k 103, k 48, k 48, k 50, k 55, k 55, k 47, k 108, k 97, k 119, k 115, k 46, k 70, k 110, k 74, k 111, k 117, k 114, k 110, k 97, k 108, k 115]))) := by kernel_rfl
theorem words : wordsSigns Try.pinned.checked.prog.initOrder.toList = [k 104, k 97, k 114, k 110, k 101, k 115, k 115] :: [k 102, k 50, k 49, k 53, k 53, k 54, k 99, k 97, k 98, k 99, k 56, k 49, k 57, k 97, k 97, k 55, k 52, k 55, k 48, k 57, k 49, k 98, k 102, k 50, k 54, k 57, k 100, k 56, k 102, k 101, k 49, k 49, k 55, k 51, k 97, k 55, k 53, k 101, k 99, k 98, k 99, k 98, k 56, k 55, k 50, k 56, k 48, k 55, k 100, k 48, k 97, k 99, k 99, k 50, k 54, k 52, k 97, k 97, k 100, k 97, k 51, k 56, k 51, k 54] :: [k 99, k 117, k 116] :: wordsSigns [k 97, k 116, k 32, k 108, k 111, k 111, k 112, k 46, k 101, k 120, k 97, k 109, k 112, k 108, k 101, k 47, k 103, k 48, k 48, k 50, k 55, k 55, k 47, k 108, k 97, k 119, k 115, k 46, k 70, k 110, k 69, k 120, k 97, k 99, k 116, k 68, k 105, k 115, k 107, k 70, k 97, k 117, k 108, k 116, k 32, k 108, k 111, k 111, k 112, k 46, k 101, k 120, k 97, k 109, k 112, k 108, k 101, k 47, k 103, k 48, k 48, k 50, k 55, k 55, k 47, k 108, k 97, k 119, k 115, k 46, k 70, k 110, k 69, k 120, k 97, k 99, k 116, k 87, k 111, k 114, k 100, k 65, k 116, k 32, k 108, k 111, k 111, k 112, k 46, k 101, k 120, k 97, k 109, k 112, k 108, k 101, k 47, k 103, k 48, k 48, k 50, k 55, k 55, k 47, k 108, k 97, k 119, k 115, k 46, k 70, k 110, k 68, k 105, k 115, k 107, k 115, k 32, k 108, k 111, k 111, k 112, k 46, k 101, k 120, k 97, k 109, k 112, k 108, k 101, k 47, k 103, k 48, k 48, k 50, k 55, k 55, k 47, k 108, k 97, k 119, k 115, k 46, k 70, k 110, k 69, k 120, k 97, k 99, k 116, k 78, k 101, k 119, k 68, k 105, k 115, k 107, k 32, k 108, k 111, k 111, k 112, k 46, k 101, k 120, k 97, k 109, k 112, k 108, k 101, k 47, k 103, k 48, k 48, k 50, k 55, k 55, k 47, k 108, k 97, k 119, k 115, k 46, k 70, k 110, k 69, k 120, k 97, k 99, k 116, k 65, k 108, k 108, k 87, k 111, k 114, k 100, k 115, k 32, k 108, k 111, k 111, k 112, k 46, k 101, k 120, k 97, k 109, k 112, k 108, k 101, k 47, k 103, k 48, k 48, k 50, k 55, k 55, k 47, k 108, k 97, k 119, k 115, k 46, k 70, k 110, k 69, k 120, k 97, k 99, k 116, k 70, k 108, k 117, k 115, k 104, k 68, k 105, k 115, k 107, k 32, k 108, k 111, k 111, k 112, k 46, k 101, k 120, k 97, k 109, k 112, k 108, k 101, k 47, k 103, k 48, k 48, k 50, k 55, k 55, k 47, k 108, k 97, k 119, k 115, k 46, k 70, k 110, k 69, k 120, k 97, k 99, k 116, k 67, k 111, k 109, k 109, k 105, k 116, k 74, k 111, k 117, k 114, k 110, k 97, k 108, k 32, k 108, k 111, k 111, k 112, k 46, k 101, k 120, k 97, k 109, k 112, k 108, k 101, k 47, k 103, k 48, k 48, k 50, k 55, k 55, k 47, k 108, k 97, k 119, k 115, k 46, k 70, k 110, k 69, k 120, k 97, k 99, k 116, k 80, k 117, k 116, k 87, k 111, k 114, k 100, k 32, k 108, k 111, k 111, k 112, k 46, k 101, k 120, k 97, k 109, k 112, k 108, k 101, k 47, k 103, k 48, k 48, k 50, k 55, k 55, k 47, k 108, k 97, k 119, k 115, k 46, k 70, k 110, k 69, k 120, k 97, k 99, k 116, k 82, k 111, k 111, k 109, k 79, k 102, k 32, k 108, k 111, k 111, k 112, k 46, k 101, k 120, k 97, k 109, k 112, k 108, k 101, k 47, k 103, k 48, k 48, k 50, k 55, k 55, k 47, k 108, k 97, k 119, k 115, k 46, k 70, k 110, k 69, k 120, k 97, k 99, k 116, k 67, k 114, k 97, k 115, k 104, k 68, k 105, k 115, k 107, k 32, k 108, k 111, k 111, k 112, k 46, k 101, k 120, k 97, k 109, k 112, k 108, k 101, k 47, k 103, k 48, k 48, k 50, k 55, k 55, k 47, k 108, k 97, k 119, k 115, k 46, k 70, k 110, k 69, k 120, k 97, k 99, k 116, k 83, k 99, k 97, k 110, k 74, k 111, k 117, k 114, k 110, k 97, k 108, k 32, k 108, k 111, k 111, k 112, k 46, k 101, k 120, k 97, k 109, k 112, k 108, k 101, k 47, k 103, k 48, k 48, k 50, k 55, k 55, k 47, k 108, k 97, k 119, k 115, k 46, k 70, k 110, k 69, k 120, k 97, k 99, k 116, k 65, k 112, k 112, k 101, k 110, k 100, k 74, k 111, k 117, k 114, k 110, k 97, k 108, k 32, k 108, k 111, k 111, k 112, k 46, k 101, k 120, k 97, k 109, k 112, k 108, k 101, k 47, k 103, k 48, k 48, k 50, k 55, k 55, k 47, k 108, k 97, k 119, k 115, k 46, k 70, k 110, k 74, k 111, k 117, k 114, k 110, k 97, k 108, k 115] := by
  rw [order, String.toList_ofList, split _ _ (by decide), split _ _ (by decide), split _ _ (by decide)]
theorem behind : behindMainWord (wordsSigns Try.pinned.checked.prog.initOrder.toList) = [k 99, k 117, k 116] :: wordsSigns [k 97, k 116, k 32, k 108, k 111, k 111, k 112, k 46, k 101, k 120, k 97, k 109, k 112, k 108, k 101, k 47, k 103, k 48, k 48, k 50, k 55, k 55, k 47, k 108, k 97, k 119, k 115, k 46, k 70, k 110, k 69, k 120, k 97, k 99, k 116, k 68, k 105, k 115, k 107, k 70, k 97, k 117, k 108, k 116, k 32, k 108, k 111, k 111, k 112, k 46, k 101, k 120, k 97, k 109, k 112, k 108, k 101, k 47, k 103, k 48, k 48, k 50, k 55, k 55, k 47, k 108, k 97, k 119, k 115, k 46, k 70, k 110, k 69, k 120, k 97, k 99, k 116, k 87, k 111, k 114, k 100, k 65, k 116, k 32, k 108, k 111, k 111, k 112, k 46, k 101, k 120, k 97, k 109, k 112, k 108, k 101, k 47, k 103, k 48, k 48, k 50, k 55, k 55, k 47, k 108, k 97, k 119, k 115, k 46, k 70, k 110, k 68, k 105, k 115, k 107, k 115, k 32, k 108, k 111, k 111, k 112, k 46, k 101, k 120, k 97, k 109, k 112, k 108, k 101, k 47, k 103, k 48, k 48, k 50, k 55, k 55, k 47, k 108, k 97, k 119, k 115, k 46, k 70, k 110, k 69, k 120, k 97, k 99, k 116, k 78, k 101, k 119, k 68, k 105, k 115, k 107, k 32, k 108, k 111, k 111, k 112, k 46, k 101, k 120, k 97, k 109, k 112, k 108, k 101, k 47, k 103, k 48, k 48, k 50, k 55, k 55, k 47, k 108, k 97, k 119, k 115, k 46, k 70, k 110, k 69, k 120, k 97, k 99, k 116, k 65, k 108, k 108, k 87, k 111, k 114, k 100, k 115, k 32, k 108, k 111, k 111, k 112, k 46, k 101, k 120, k 97, k 109, k 112, k 108, k 101, k 47, k 103, k 48, k 48, k 50, k 55, k 55, k 47, k 108, k 97, k 119, k 115, k 46, k 70, k 110, k 69, k 120, k 97, k 99, k 116, k 70, k 108, k 117, k 115, k 104, k 68, k 105, k 115, k 107, k 32, k 108, k 111, k 111, k 112, k 46, k 101, k 120, k 97, k 109, k 112, k 108, k 101, k 47, k 103, k 48, k 48, k 50, k 55, k 55, k 47, k 108, k 97, k 119, k 115, k 46, k 70, k 110, k 69, k 120, k 97, k 99, k 116, k 67, k 111, k 109, k 109, k 105, k 116, k 74, k 111, k 117, k 114, k 110, k 97, k 108, k 32, k 108, k 111, k 111, k 112, k 46, k 101, k 120, k 97, k 109, k 112, k 108, k 101, k 47, k 103, k 48, k 48, k 50, k 55, k 55, k 47, k 108, k 97, k 119, k 115, k 46, k 70, k 110, k 69, k 120, k 97, k 99, k 116, k 80, k 117, k 116, k 87, k 111, k 114, k 100, k 32, k 108, k 111, k 111, k 112, k 46, k 101, k 120, k 97, k 109, k 112, k 108, k 101, k 47, k 103, k 48, k 48, k 50, k 55, k 55, k 47, k 108, k 97, k 119, k 115, k 46, k 70, k 110, k 69, k 120, k 97, k 99, k 116, k 82, k 111, k 111, k 109, k 79, k 102, k 32, k 108, k 111, k 111, k 112, k 46, k 101, k 120, k 97, k 109, k 112, k 108, k 101, k 47, k 103, k 48, k 48, k 50, k 55, k 55, k 47, k 108, k 97, k 119, k 115, k 46, k 70, k 110, k 69, k 120, k 97, k 99, k 116, k 67, k 114, k 97, k 115, k 104, k 68, k 105, k 115, k 107, k 32, k 108, k 111, k 111, k 112, k 46, k 101, k 120, k 97, k 109, k 112, k 108, k 101, k 47, k 103, k 48, k 48, k 50, k 55, k 55, k 47, k 108, k 97, k 119, k 115, k 46, k 70, k 110, k 69, k 120, k 97, k 99, k 116, k 83, k 99, k 97, k 110, k 74, k 111, k 117, k 114, k 110, k 97, k 108, k 32, k 108, k 111, k 111, k 112, k 46, k 101, k 120, k 97, k 109, k 112, k 108, k 101, k 47, k 103, k 48, k 48, k 50, k 55, k 55, k 47, k 108, k 97, k 119, k 115, k 46, k 70, k 110, k 69, k 120, k 97, k 99, k 116, k 65, k 112, k 112, k 101, k 110, k 100, k 74, k 111, k 117, k 114, k 110, k 97, k 108, k 32, k 108, k 111, k 111, k 112, k 46, k 101, k 120, k 97, k 109, k 112, k 108, k 101, k 47, k 103, k 48, k 48, k 50, k 55, k 55, k 47, k 108, k 97, k 119, k 115, k 46, k 70, k 110, k 74, k 111, k 117, k 114, k 110, k 97, k 108, k 115] := by
  rw [words]
  kernel_rfl
theorem later : Try.pinned.checked.prog.laysLater = false := by kernel_rfl
theorem bears : Try.pinned.checked.prog.bearsReflect = false := by kernel_rfl
theorem door : Try.pinned.checked.prog.doorFits [] = true := by kernel_rfl
theorem strip (X : List (List Char)) : stripLifts liftWords ([k 99, k 117, k 116] :: X) = ([], [k 99, k 117, k 116] :: X) := rfl
theorem may_of (P : Program) (X : List (List Char)) (h : behindMainWord (wordsSigns P.initOrder.toList) = [k 99, k 117, k 116] :: X) (h1 : P.laysLater = false) (h2 : P.bearsReflect = false) (h3 : P.doorFits [] = true) : P.mayEnter = true := by
  unfold Program.mayEnter
  rw [h]
  have hs := strip X
  simp [hs, h1, h2, h3]
theorem lifts_of (P : Program) (X : List (List Char)) (h : behindMainWord (wordsSigns P.initOrder.toList) = [k 99, k 117, k 116] :: X) : P.liftsFinal = false := by
  unfold Program.liftsFinal Program.headLifts
  rw [h]
  rfl
theorem made_of (P : Program) (X : List (List Char)) (h : behindMainWord (wordsSigns P.initOrder.toList) = [k 99, k 117, k 116] :: X) : P.make = some .cut := by
  unfold Program.make
  rw [h]
  rfl
theorem may : Try.pinned.checked.prog.mayEnter = true := may_of _ _ behind later bears door
theorem lifts : Try.pinned.checked.prog.liftsFinal = false := lifts_of _ _ behind
theorem made : Try.pinned.checked.prog.make = some .cut := made_of _ _ behind
end Go.Proofs.Ytaahjfjpbilfnaa.Order
/- Small laws on rounds and on numbers, for the plain proofs. -/
namespace Go.Proofs.Ytaahjfjpbilfnaa.Lem
open Go.RowKit Go.Proofs.YtaahjfjpbilfnaaW.PrintWords
set_option linter.unusedVariables false
set_option linter.unusedSimpArgs false

theorem ev_eq {α : Type} {g : Nat → Option α} {r r' : α} (h : Ev g r) (e : r = r') : Ev g r' := e ▸ h
theorem ev_now {α : Type} {r r' : α} (e : r = r') : Ev (fun _ => some r) r' := e ▸ Ev.now r
theorem ev_some {α : Type} {g : Nat → Option α} {r : α} (h : ∀ k, g k = some r) : Ev g r := ⟨0, fun k _ => h k⟩
theorem ev_pos {α : Type} {c : Prop} [Decidable c] {f g : Nat → Option α} {r : α} (hc : c) (h : Ev f r) : Ev (fun k => if c then f k else g k) r := Ev.congr (fun k => if_pos hc) h
theorem ev_neg {α : Type} {c : Prop} [Decidable c] {f g : Nat → Option α} {r : α} (hc : ¬ c) (h : Ev g r) : Ev (fun k => if c then f k else g k) r := Ev.congr (fun k => if_neg hc) h
theorem ev_bind {α β : Type} {g : Nat → Option α} {f : Nat → α → Option β} {a : α} {r : β} (h : Ev g a) (k : Ev (fun n => f n a) r) : Ev (fun n => (g n).bind (f n)) r := Ev.bind h k
theorem ev_bind0 {α β : Type} {g : Option α} {f : Nat → α → Option β} {a : α} {r : β} (h : g = some a) (k : Ev (fun n => f n a) r) : Ev (fun n => g.bind (f n)) r := Ev.congr (fun n => by rw [h]; rfl) k
theorem ev_step {α : Type} {g f : Nat → Option α} {r : α} (h : ∀ k, g (k + 1) = f k) (k : Ev f r) : Ev g r := Ev.step h k

theorem ev_succ {α : Type} {g : Nat → Option α} {r : α} (h : Ev (fun k => g (k + 1)) r) : Ev g r := Ev.step (fun _ => rfl) h
theorem wrap_id {x : Int} (h0 : -9223372036854775808 ≤ x) (h1 : x ≤ 9223372036854775807) : wrap64 x = x := by unfold wrap64; omega
theorem wrap_succ {i n : Nat} (h : i < n) (hn : n ≤ 140737488351232) : wrap64 ((i : Int) + 1) = ((i + 1 : Nat) : Int) := by unfold wrap64; omega
theorem rd_nat (l : List Int) (i : Nat) : rd l (i : Int) = l.getD i 0 := rfl
theorem rd_lt {l : List Int} {i : Nat} (h : i < l.length) : rd l (i : Int) = l[i] := by simp [rd, h]
theorem take_succ_set {α : Type} (l x : List α) (i : Nat) (v : α) (h : i < l.length) (hx : x.length = l.length) (ht : x.take i = l.take i) (hv : v = l[i]) : (x.set i v).take (i + 1) = l.take (i + 1) := by
  subst hv
  apply List.ext_getElem?
  intro j
  rw [List.getElem?_take, List.getElem?_take]
  by_cases hj : j < i + 1
  · rw [if_pos hj, if_pos hj]
    by_cases e : j = i
    · subst e
      rw [List.getElem?_set_self (by omega), List.getElem?_eq_getElem h]
    · rw [List.getElem?_set_ne (by omega)]
      have := congrArg (fun z => z[j]?) ht
      simpa [List.getElem?_take, show j < i by omega] using this
  · rw [if_neg hj, if_neg hj]
end Go.Proofs.Ytaahjfjpbilfnaa.Lem
/- Whether a number lies between two others, as the program and the reference ask it. -/
namespace Go.Proofs.Ytaahjfjpbilfnaa.SmallD
open Go.RowKit Go.Proofs.Ytaahjfjpbilfnaa.PD Go.Proofs.YtaahjfjpbilfnaaW.PrintWords Go.Proofs.Ytaahjfjpbilfnaa.Lem
set_option linter.unusedVariables false
set_option linter.unusedSimpArgs false

def inB (a b c : Int) : Bool := decide (b ≤ a) && decide (a ≤ c)
theorem inB_iff {a b c : Int} : inB a b c = true ↔ b ≤ a ∧ a ≤ c := by simp [inB]
theorem inB_not {a b c : Int} : inB a b c = false ↔ a < b ∨ c < a := by simp [inB]; omega
theorem l1In_eq (a b c : Int) : spec_l1In.f a b c = some (inB a b c) := by
  unfold spec_l1In.f inB
  by_cases h : b ≤ a
  · rw [if_pos h]; simp [h]
  · rw [if_neg h]; simp [h]
theorem within_eq (a b c : Int) : impl_within.f a b c = some (inB a b c) := by
  unfold impl_within.f inB
  by_cases h : b ≤ a
  · rw [if_pos h]; simp [h]
  · rw [if_neg h]; simp [h]
end Go.Proofs.Ytaahjfjpbilfnaa.SmallD
/- Whether all numbers of a list are words, as the program finds it, and what is wrong with a record. -/
namespace Go.Proofs.Ytaahjfjpbilfnaa.WordsD
open Go.RowKit Go.Proofs.Ytaahjfjpbilfnaa.PD Go.Proofs.YtaahjfjpbilfnaaW.PrintWords Go.Proofs.Ytaahjfjpbilfnaa.Lem Go.Proofs.Ytaahjfjpbilfnaa.SmallD
set_option linter.unusedVariables false
set_option linter.unusedSimpArgs false

def isW (n : Int) : Bool := inB n 0 65535
theorem l1Word_eq (a : Int) : spec_l1Word.f a = some (isW a) := by unfold spec_l1Word.f; rw [l1In_eq]; rfl
theorem notW_eq (a : Int) : impl_areWords_1.f a = some (!isW a) := by unfold impl_areWords_1.f impl_isWord.f; rw [within_eq]; rfl
theorem idx_loop (l : List Int) (hl : l.length ≤ 140737488351232) : ∀ (d i : Nat), l.length - i = d → i ≤ l.length → ∃ r : Int, Ev (fun k => slices_IndexFunc_int64__impl_areWords_1.l0 k l (l.length : Int) (i : Int)) r ∧ decide (r ≥ 0) = !((l.drop i).all isW) := by
  intro d
  induction d with
  | zero =>
    intro i hd hi
    refine ⟨-1, ev_succ ?_, by rw [List.drop_of_length_le (by omega)]; rfl⟩
    simp only [slices_IndexFunc_int64__impl_areWords_1.l0]
    simp only [if_neg (show ¬ (i : Int) < (l.length : Int) by omega)]
    exact ev_now rfl
  | succ d ih =>
    intro i hd hi
    have hlt : i < l.length := by omega
    rw [List.drop_eq_getElem_cons hlt]
    cases h : isW l[i]
    · refine ⟨i, ev_succ ?_, by simp only [List.all_cons, h, Bool.false_and, Bool.not_false, decide_eq_true_eq]; omega⟩
      simp only [slices_IndexFunc_int64__impl_areWords_1.l0, notW_eq, rd_lt hlt, h, Option.bind_some, Bool.not_false, if_true]
      simp only [if_pos (show (i : Int) < (l.length : Int) by omega), if_pos (show 0 ≤ (i : Int) by omega)]
      exact ev_now rfl
    · obtain ⟨r, h1, h2⟩ := ih (i + 1) (by omega) (by omega)
      refine ⟨r, ev_succ ?_, by rw [h2]; simp only [List.all_cons, h, Bool.true_and]⟩
      simp only [slices_IndexFunc_int64__impl_areWords_1.l0, notW_eq, rd_lt hlt, h, Option.bind_some, Bool.not_true, Bool.false_eq_true, if_false]
      simp only [if_pos (show (i : Int) < (l.length : Int) by omega), if_pos (show 0 ≤ (i : Int) by omega), wrap_succ hlt hl]
      exact h1
theorem areWords_ev (l : List Int) (hl : l.length ≤ 140737488351232) : Ev (fun k => impl_areWords.f k l) (l.all isW) := by
  unfold impl_areWords.f slices_ContainsFunc_int64__impl_areWords_1.f slices_IndexFunc_int64__impl_areWords_1.f
  obtain ⟨r, h1, h2⟩ := idx_loop l hl l.length 0 (by omega) (by omega)
  refine ev_bind (ev_bind h1 (ev_now rfl)) (ev_now ?_)
  rw [h2]; simp
end Go.Proofs.Ytaahjfjpbilfnaa.WordsD
/- Copying and comparing lists of numbers, as the laws do; the sum of words: the program's loop and the reference's come to one number. -/
namespace Go.Proofs.Ytaahjfjpbilfnaa.IntsD
open Go.RowKit Go.Proofs.Ytaahjfjpbilfnaa.PD Go.Proofs.YtaahjfjpbilfnaaW.PrintWords Go.Proofs.Ytaahjfjpbilfnaa.Lem
set_option linter.unusedVariables false
set_option linter.unusedSimpArgs false

theorem to_loop (l : List Int) (hl : l.length ≤ 140737488351232) : ∀ (d i : Nat) (x : List Int), l.length - i = d → i ≤ l.length → x.length = l.length → x.take i = l.take i → Ev (fun k => laws_toInt64S.l0 k l x (i : Int)) l := by
  intro d
  induction d with
  | zero =>
    intro i x hd hi hx ht
    refine ev_succ ?_
    simp only [laws_toInt64S.l0]
    simp only [if_neg (show ¬ (i : Int) < (l.length : Int) by omega)]
    refine ev_now ?_
    rw [List.take_of_length_le (by omega), List.take_of_length_le (by omega)] at ht
    exact ht
  | succ d ih =>
    intro i x hd hi hx ht
    refine ev_succ ?_
    simp only [laws_toInt64S.l0]
    simp only [if_pos (show (i : Int) < (l.length : Int) by omega), if_pos (show 0 ≤ (i : Int) by omega), if_pos (show (i : Int) < (x.length : Int) by omega), wrap_succ (show i < l.length by omega) hl]
    exact ih (i + 1) _ (by omega) (by omega) (by rw [List.length_set]; exact hx) (take_succ_set l x i _ (by omega) hx ht (rd_lt (by omega)))
theorem to_ev (l : List Int) (hl : l.length ≤ 35184372088832) : Ev (fun k => laws_toInt64S.f k l) l := by
  unfold laws_toInt64S.f
  simp only [if_pos (show 0 ≤ (l.length : Int) by omega), if_pos (show ((l.length : Int) : Int).toNat ≤ 35184372088832 by omega)]
  exact to_loop l (by omega) l.length 0 _ (by omega) (by omega) (by simp) (by simp)
theorem eq_loop (l : List Int) (hl : l.length ≤ 140737488351232) : ∀ (d i : Nat), l.length - i = d → i ≤ l.length → Ev (fun k => laws_eqInt64S.l0 k l l (i : Int)) true := by
  intro d
  induction d with
  | zero =>
    intro i hd hi
    refine ev_succ ?_
    simp only [laws_eqInt64S.l0]
    simp only [if_neg (show ¬ (i : Int) < (l.length : Int) by omega)]
    exact ev_now rfl
  | succ d ih =>
    intro i hd hi
    refine ev_succ ?_
    simp only [laws_eqInt64S.l0]
    simp only [if_pos (show (i : Int) < (l.length : Int) by omega), if_pos (show 0 ≤ (i : Int) by omega), if_true, wrap_succ (show i < l.length by omega) hl]
    exact ih (i + 1) (by omega) (by omega)
theorem eq_ev (l : List Int) (hl : l.length ≤ 140737488351232) : Ev (fun k => laws_eqInt64S.f k l l) true := by
  unfold laws_eqInt64S.f
  simp only [if_true]
  exact eq_loop l hl l.length 0 (by omega) (by omega)
end Go.Proofs.Ytaahjfjpbilfnaa.IntsD
/- Puts as the laws copy, compare, mark and look at them. (Lines of Blk and BlkMark, turned by a program to puts.) -/
namespace Go.Proofs.Ytaahjfjpbilfnaa.PutD
open Go.RowKit Go.Proofs.Ytaahjfjpbilfnaa.PD Go.Proofs.YtaahjfjpbilfnaaW.PrintWords Go.Proofs.Ytaahjfjpbilfnaa.Lem Go.Proofs.Ytaahjfjpbilfnaa.SmallD
set_option linter.unusedVariables false
set_option linter.unusedSimpArgs false
abbrev LB := S115
abbrev B := S53

def toB (b : LB) : B := ⟨b.f0, b.f1⟩
theorem rdL {l : List LB} {i : Nat} (h : i < l.length) : rd_T115 l (i : Int) = l[i] := by simp [rd_T115, h]
theorem rdB {l : List B} {i : Nat} (h : i < l.length) : rd_T53 l (i : Int) = l[i] := by simp [rd_T53, h]
theorem to_loop (l : List LB) (hl : l.length ≤ 140737488351232) : ∀ (d i : Nat) (x : List B), l.length - i = d → i ≤ l.length → x.length = l.length → x.take i = (l.map toB).take i → Ev (fun k => laws_toPutS.l0 k l x (i : Int)) (l.map toB) := by
  intro d
  induction d with
  | zero =>
    intro i x hd hi hx ht
    refine ev_succ ?_
    simp only [laws_toPutS.l0]
    simp only [if_neg (show ¬ (i : Int) < (l.length : Int) by omega)]
    refine ev_now ?_
    rw [List.take_of_length_le (by omega), List.take_of_length_le (by simp; omega)] at ht
    exact ht
  | succ d ih =>
    intro i x hd hi hx ht
    refine ev_succ ?_
    simp only [laws_toPutS.l0, laws_toPut.f, Option.bind_some]
    simp only [if_pos (show (i : Int) < (l.length : Int) by omega), if_pos (show 0 ≤ (i : Int) by omega), if_pos (show (i : Int) < (x.length : Int) by omega), wrap_succ (show i < l.length by omega) hl]
    refine ih (i + 1) _ (by omega) (by omega) (by rw [List.length_set]; exact hx) ?_
    exact take_succ_set (l.map toB) x i _ (by simp; omega) (by simp; omega) ht (by rw [rdL (by omega)]; simp [toB])
theorem to_ev (l : List LB) (hl : l.length ≤ 1048576) : Ev (fun k => laws_toPutS.f k l) (l.map toB) := by
  unfold laws_toPutS.f
  simp only [if_pos (show 0 ≤ (l.length : Int) by omega), if_pos (show ((l.length : Int) : Int).toNat ≤ 17592186044416 by omega)]
  exact to_loop l (by omega) l.length 0 _ (by omega) (by omega) (by simp) (by simp)
theorem eq_loop (l : List B) (hl : l.length ≤ 140737488351232) : ∀ (d i : Nat), l.length - i = d → i ≤ l.length → Ev (fun k => laws_eqPutS.l0 k l l (i : Int)) true := by
  intro d
  induction d with
  | zero =>
    intro i hd hi
    refine ev_succ ?_
    simp only [laws_eqPutS.l0]
    simp only [if_neg (show ¬ (i : Int) < (l.length : Int) by omega)]
    exact ev_now rfl
  | succ d ih =>
    intro i hd hi
    refine ev_succ ?_
    simp only [laws_eqPutS.l0, laws_eqPut.f, if_true, Option.bind_some]
    simp only [if_pos (show (i : Int) < (l.length : Int) by omega), if_pos (show 0 ≤ (i : Int) by omega), if_true, wrap_succ (show i < l.length by omega) hl]
    exact ih (i + 1) (by omega) (by omega)
theorem eq_ev (l : List B) (hl : l.length ≤ 140737488351232) : Ev (fun k => laws_eqPutS.f k l l) true := by
  unfold laws_eqPutS.f
  simp only [if_true]
  exact eq_loop l hl l.length 0 (by omega) (by omega)
theorem sz_eq (l : List LB) (a : Int) (ha : 0 ≤ a) (ha2 : a ≤ 1048576) (hl : l.length ≤ 140737488351232) : laws_szPutS.f l a = some (if a - l.length < 0 then -1 else a - l.length) := by
  unfold laws_szPutS.f
  rw [wrap_id (by omega) (by omega)]
  split <;> rfl

def markL (a : Int) (n : Nat) : List B := (List.range n).map fun i : Nat => (⟨a + 2 * i, a + 2 * i + 1⟩ : B)
theorem markL_length (a : Int) (n : Nat) : (markL a n).length = n := by simp [markL]
theorem markL_get (a : Int) (n i : Nat) (h : i < (markL a n).length) : (markL a n)[i] = ⟨a + 2 * i, a + 2 * i + 1⟩ := by simp [markL]
theorem mark_loop (a : Int) (ha : 0 ≤ a) (ha2 : a ≤ 1125899906842624) (n : Nat) (hn : n ≤ 140737488351232) : ∀ (d i : Nat) (x : List B), n - i = d → i ≤ n → x.length = n → x.take i = (markL a n).take i → Ev (fun k => laws_markPutS.l0 k x (a + 2 * i) (i : Int)) (a + 2 * n, markL a n) := by
  intro d
  induction d with
  | zero =>
    intro i x hd hi hx ht
    refine ev_succ ?_
    simp only [laws_markPutS.l0]
    simp only [if_neg (show ¬ (i : Int) < (x.length : Int) by omega)]
    have e : i = n := by omega
    subst e
    rw [List.take_of_length_le (by omega), List.take_of_length_le (by rw [markL_length]; omega)] at ht
    exact ev_now (by rw [ht])
  | succ d ih =>
    intro i x hd hi hx ht
    refine ev_succ ?_
    simp only [laws_markPutS.l0, Option.bind_some]
    have hlt : i < x.length := by omega
    have hlt2 : ∀ v, i < (x.set i v).length := fun v => by rw [List.length_set]; exact hlt
    simp only [if_pos (show (i : Int) < (x.length : Int) by omega), if_pos (show 0 ≤ (i : Int) by omega), Int.toNat_natCast, rdB (hlt2 _), List.getElem_set_self, List.set_set, wrap_succ (show i < n by omega) hn]
    rw [wrap_id (show -9223372036854775808 ≤ a + 2 * (i : Int) + 1 by omega) (by omega), wrap_id (show -9223372036854775808 ≤ a + 2 * (i : Int) + 1 + 1 by omega) (by omega), show a + 2 * (i : Int) + 1 + 1 = a + 2 * ((i + 1 : Nat) : Int) by omega]
    exact ih (i + 1) _ (by omega) (by omega) (by rw [List.length_set]; exact hx) (take_succ_set (markL a n) x i _ (by rw [markL_length]; omega) (by rw [markL_length]; exact hx) ht (by rw [markL_get]))
theorem mark_ev (l : List B) (a : Int) (ha : 0 ≤ a) (ha2 : a ≤ 1125899906842624) (hl : l.length ≤ 140737488351232) : Ev (fun k => laws_markPutS.f k l a) (a + 2 * l.length, markL a l.length) := by
  unfold laws_markPutS.f
  have h := mark_loop a ha ha2 l.length hl l.length 0 l (by omega) (by omega) rfl (by simp)
  simpa using h
theorem held_loop (a : Int) (ha : 0 ≤ a) (ha2 : a ≤ 1125899906842624) (n : Nat) (hn : n ≤ 140737488351232) : ∀ (d i : Nat), n - i = d → i ≤ n → Ev (fun k => laws_heldPutS.l0 k (markL a n) (a + 2 * i) (i : Int)) (a + 2 * n) := by
  intro d
  induction d with
  | zero =>
    intro i hd hi
    refine ev_succ ?_
    simp only [laws_heldPutS.l0]
    simp only [markL_length, if_neg (show ¬ (i : Int) < (n : Int) by omega)]
    exact ev_now (by omega)
  | succ d ih =>
    intro i hd hi
    refine ev_succ ?_
    simp only [laws_heldPutS.l0]
    have hlt : i < (markL a n).length := by rw [markL_length]; omega
    simp only [markL_length, if_pos (show (i : Int) < (n : Int) by omega), if_pos (show 0 ≤ (i : Int) by omega), rdB hlt, markL_get, if_true, wrap_succ (show i < n by omega) hn]
    rw [wrap_id (show -9223372036854775808 ≤ a + 2 * (i : Int) + 1 by omega) (by omega), wrap_id (show -9223372036854775808 ≤ a + 2 * (i : Int) + 1 + 1 by omega) (by omega), show a + 2 * (i : Int) + 1 + 1 = a + 2 * ((i + 1 : Nat) : Int) by omega]
    simp only [if_true]
    exact ih (i + 1) (by omega) (by omega)
theorem held_ev (n : Nat) (a : Int) (ha : 0 ≤ a) (ha2 : a ≤ 1125899906842624) (hl : n ≤ 140737488351232) : Ev (fun k => laws_heldPutS.f k (markL a n) a) (a + 2 * n) := by
  unfold laws_heldPutS.f
  have h := held_loop a ha ha2 n hl n 0 (by omega) (by omega)
  simpa using h
end Go.Proofs.Ytaahjfjpbilfnaa.PutD
/- Disks as the laws copy, compare, mark and look at them; what is wrong with a disk: the program's answer and the reference's are one. -/
namespace Go.Proofs.Ytaahjfjpbilfnaa.DiskD
open Go.RowKit Go.Proofs.Ytaahjfjpbilfnaa.PD Go.Proofs.YtaahjfjpbilfnaaW.PrintWords Go.Proofs.Ytaahjfjpbilfnaa.Lem Go.Proofs.Ytaahjfjpbilfnaa.SmallD Go.Proofs.Ytaahjfjpbilfnaa.WordsD
set_option linter.unusedVariables false
set_option linter.unusedSimpArgs false
abbrev LP := S115
abbrev P := S53
abbrev D := S30

theorem rdP {l : List P} {i : Nat} (h : i < l.length) : rd_T53 l (i : Int) = l[i] := PutD.rdB h
theorem rdD (d : D) : rd_T30 [d] 0 = d := by cases d; simp [rd_T30]
theorem to_ev (ws : List Int) (ps : List LP) (h : ws.length ≤ 1048576) (h2 : ps.length ≤ 1048576) : Ev (fun k => laws_toDisk.f k ws ps) (ws, ps.map PutD.toB) := by
  unfold laws_toDisk.f
  exact ev_bind (IntsD.to_ev ws (by omega)) (ev_bind (PutD.to_ev ps h2) (ev_now rfl))
theorem eq_ev (ws : List Int) (ps : List P) (h : ws.length ≤ 140737488351232) (h2 : ps.length ≤ 140737488351232) : Ev (fun k => laws_eqDisk.f k ws ps ws ps) true := by
  unfold laws_eqDisk.f
  refine ev_bind (IntsD.eq_ev ws h) ?_
  simp only [if_true]
  refine ev_bind (PutD.eq_ev ps h2) ?_
  simp only [if_true]
  exact ev_now rfl
theorem sz_ints (l : List Int) (a : Int) (ha : 0 ≤ a) (ha2 : a ≤ 1048576) (hl : l.length ≤ 140737488351232) : laws_szInt64S.f l a = some (if a - l.length < 0 then -1 else a - l.length) := by
  unfold laws_szInt64S.f
  rw [wrap_id (by omega) (by omega)]
  split <;> rfl
theorem sz_ok (ws : List Int) (ps : List LP) (h : ws.length ≤ 140737488351232) (h2 : ps.length ≤ 140737488351232) : ∃ t, laws_szDisk.f ws ps 1048576 = some t ∧ (¬ t < 0 → ws.length ≤ 1048576 ∧ ps.length ≤ 1048576) := by
  unfold laws_szDisk.f
  rw [sz_ints ws 1048576 (by omega) (by omega) h]
  simp only [Option.bind_some]
  by_cases c : (1048576 : Int) - ws.length < 0
  · exact ⟨-1, by simp only [if_pos c]; rfl, by omega⟩
  · simp only [if_neg c]
    rw [PutD.sz_eq ps _ (by omega) (by omega) h2]
    simp only [Option.bind_some]
    by_cases c2 : (1048576 : Int) - ws.length - ps.length < 0
    · exact ⟨-1, by simp only [if_pos c2]; rfl, by omega⟩
    · refine ⟨(1048576 : Int) - ws.length - ps.length, by simp only [if_neg c2], by omega⟩

def isP (n : Int) : Bool := inB n 0 63
def isPut (p : P) : Bool := isP p.f0 && isW p.f1
theorem l1Place_eq (a : Int) : spec_l1Place.f a = some (isP a) := by unfold spec_l1Place.f; rw [l1In_eq]; rfl
theorem isPlace_eq (a : Int) : impl_isPlace.f a = some (isP a) := by unfold impl_isPlace.f; rw [within_eq]; rfl
theorem isWord_eq (a : Int) : impl_isWord.f a = some (isW a) := by unfold impl_isWord.f; rw [within_eq]; rfl
theorem notP_eq (a b : Int) : impl_DiskFault_1.f a b = some (!(isP a && isW b)) := by
  unfold impl_DiskFault_1.f
  rw [isPlace_eq, isWord_eq]
  cases h : isP a <;> simp
def df (ws : List Int) (ps : List P) : Int := if (ws.length : Int) = 64 then (if (ps.length : Int) > 200 then 2 else (if ws.all isW = true then (if ps.all isPut = true then 0 else 3) else 3)) else 1
theorem idx_loop (l : List P) (hl : l.length ≤ 140737488351232) : ∀ (d i : Nat), l.length - i = d → i ≤ l.length → ∃ r : Int, Ev (fun k => slices_IndexFunc_impl_Put__impl_DiskFault_1.l0 k l (l.length : Int) (i : Int)) r ∧ decide (r ≥ 0) = !((l.drop i).all isPut) := by
  intro d
  induction d with
  | zero =>
    intro i hd hi
    refine ⟨-1, ev_succ ?_, by rw [List.drop_of_length_le (by omega)]; rfl⟩
    simp only [slices_IndexFunc_impl_Put__impl_DiskFault_1.l0]
    simp only [if_neg (show ¬ (i : Int) < (l.length : Int) by omega)]
    exact ev_now rfl
  | succ d ih =>
    intro i hd hi
    have hlt : i < l.length := by omega
    rw [List.drop_eq_getElem_cons hlt]
    cases h : isPut l[i]
    · have h' : (isP l[i].f0 && isW l[i].f1) = false := h
      refine ⟨i, ev_succ ?_, by simp only [List.all_cons, h, Bool.false_and, Bool.not_false, decide_eq_true_eq]; omega⟩
      simp only [slices_IndexFunc_impl_Put__impl_DiskFault_1.l0, notP_eq, rdP hlt, h', Option.bind_some, Bool.not_false, if_true]
      simp only [if_pos (show (i : Int) < (l.length : Int) by omega), if_pos (show 0 ≤ (i : Int) by omega)]
      exact ev_now rfl
    · have h' : (isP l[i].f0 && isW l[i].f1) = true := h
      obtain ⟨r, h1, h2⟩ := ih (i + 1) (by omega) (by omega)
      refine ⟨r, ev_succ ?_, by rw [h2]; simp only [List.all_cons, h, Bool.true_and]⟩
      simp only [slices_IndexFunc_impl_Put__impl_DiskFault_1.l0, notP_eq, rdP hlt, h', Option.bind_some, Bool.not_true, Bool.false_eq_true, if_false]
      simp only [if_pos (show (i : Int) < (l.length : Int) by omega), if_pos (show 0 ≤ (i : Int) by omega), wrap_succ hlt hl]
      exact h1
theorem impl_ev (ws : List Int) (ps : List P) (h : ws.length ≤ 140737488351232) (h2 : ps.length ≤ 140737488351232) : Ev (fun k => impl_DiskFault.f k ws ps) (df ws ps) := by
  unfold impl_DiskFault.f df
  by_cases c : (ws.length : Int) = 64
  · simp only [if_pos c]
    by_cases c2 : (ps.length : Int) > 200
    · simp only [if_pos c2]; exact ev_now rfl
    · simp only [if_neg c2]
      refine ev_bind (areWords_ev ws h) ?_
      by_cases c3 : ws.all isW = true
      · simp only [if_pos c3]
        unfold slices_ContainsFunc_impl_Put__impl_DiskFault_1.f slices_IndexFunc_impl_Put__impl_DiskFault_1.f
        obtain ⟨r, h1, h3⟩ := idx_loop ps h2 ps.length 0 (by omega) (by omega)
        rw [List.drop_zero] at h3
        refine ev_bind (ev_bind h1 (ev_now rfl)) ?_
        rw [h3]
        cases ps.all isPut
        · exact ev_now rfl
        · exact ev_now rfl
      · simp only [if_neg c3]; exact ev_now rfl
  · simp only [if_neg c]; exact ev_now rfl
theorem fault_puts (ws : List Int) (ps : List P) (h : ws.length ≤ 140737488351232) (h2 : ps.length ≤ 140737488351232) : ∀ (d i : Nat), ps.length - i = d → i ≤ ps.length → Ev (fun k => spec_l1Fault.l1 k ⟨ws, ps⟩ (i : Int)) (if (ps.drop i).all isPut = true then 0 else 3) := by
  intro d
  induction d with
  | zero =>
    intro i hd hi
    refine ev_succ ?_
    simp only [spec_l1Fault.l1, rdD]
    simp only [if_neg (show ¬ (i : Int) < (ps.length : Int) by omega)]
    exact ev_now (by rw [List.drop_of_length_le (by omega)]; rfl)
  | succ d ih =>
    intro i hd hi
    have hlt : i < ps.length := by omega
    have ih' := ih (i + 1) (by omega) (by omega)
    have e : (ps.drop i).all isPut = (isP ps[i].f0 && isW ps[i].f1 && (ps.drop (i + 1)).all isPut) := by rw [List.drop_eq_getElem_cons hlt]; rfl
    rw [e]
    refine ev_succ ?_
    simp only [spec_l1Fault.l1, rdD, rdP hlt, l1Place_eq, l1Word_eq, Option.bind_some]
    simp only [if_pos (show (i : Int) < (ps.length : Int) by omega), if_pos (show 0 ≤ (i : Int) by omega), wrap_succ hlt h2]
    cases h3 : isP ps[i].f0
    · simp only [Bool.false_and, Bool.false_eq_true, if_false]; exact ev_now rfl
    · cases h4 : isW ps[i].f1
      · simp only [Bool.false_and, Bool.true_and, Bool.false_eq_true, if_false, if_true]; exact ev_now rfl
      · simp only [Bool.true_and, if_true]; exact ih'
theorem fault_words (ws : List Int) (ps : List P) (h : ws.length ≤ 140737488351232) (h2 : ps.length ≤ 140737488351232) : ∀ (d i : Nat), ws.length - i = d → i ≤ ws.length → Ev (fun k => spec_l1Fault.l0 k ⟨ws, ps⟩ (i : Int)) (if (ws.drop i).all isW = true then (if ps.all isPut = true then 0 else 3) else 3) := by
  intro d
  induction d with
  | zero =>
    intro i hd hi
    refine ev_succ ?_
    simp only [spec_l1Fault.l0, rdD]
    simp only [if_neg (show ¬ (i : Int) < (ws.length : Int) by omega)]
    have := fault_puts ws ps h h2 ps.length 0 (by omega) (by omega)
    rw [List.drop_of_length_le (by omega)]
    exact this
  | succ d ih =>
    intro i hd hi
    have hlt : i < ws.length := by omega
    have ih' := ih (i + 1) (by omega) (by omega)
    have e : (ws.drop i).all isW = (isW ws[i] && (ws.drop (i + 1)).all isW) := by rw [List.drop_eq_getElem_cons hlt]; rfl
    rw [e]
    refine ev_succ ?_
    simp only [spec_l1Fault.l0, rdD, rd_lt hlt, l1Word_eq, Option.bind_some]
    simp only [if_pos (show (i : Int) < (ws.length : Int) by omega), if_pos (show 0 ≤ (i : Int) by omega), wrap_succ hlt h]
    cases h3 : isW ws[i]
    · simp only [Bool.false_and, Bool.false_eq_true, if_false]; exact ev_now rfl
    · simp only [Bool.true_and, if_true]; exact ih'
theorem l1Fault_ev (ws : List Int) (ps : List P) (h : ws.length ≤ 140737488351232) (h2 : ps.length ≤ 140737488351232) : Ev (fun k => spec_l1Fault.f k ⟨ws, ps⟩) (df ws ps) := by
  unfold spec_l1Fault.f df
  simp only [rdD]
  by_cases c : (ws.length : Int) = 64
  · simp only [if_pos c]
    by_cases c2 : (ps.length : Int) > 200
    · simp only [if_pos c2]; exact ev_now rfl
    · simp only [if_neg c2]
      exact fault_words ws ps h h2 ws.length 0 (by omega) (by omega)
  · simp only [if_neg c]; exact ev_now rfl
theorem spec_ev (ws : List Int) (ps : List P) (h : ws.length ≤ 140737488351232) (h2 : ps.length ≤ 140737488351232) : Ev (fun k => spec_DiskFault.f k ws ps) (df ws ps) := by
  unfold spec_DiskFault.f
  exact ev_bind (l1Fault_ev ws ps h h2) (ev_now rfl)
structure Fine (ws : List Int) (ps : List P) : Prop where
  len : ws.length = 64
  many : ps.length ≤ 200
  words : ws.all isW = true
  puts : ps.all isPut = true
theorem fine {ws : List Int} {ps : List P} (h : df ws ps = 0) : Fine ws ps := by
  unfold df at h
  by_cases c : (ws.length : Int) = 64
  · rw [if_pos c] at h
    by_cases c2 : (ps.length : Int) > 200
    · rw [if_pos c2] at h; omega
    · rw [if_neg c2] at h
      by_cases c3 : ws.all isW = true
      · rw [if_pos c3] at h
        by_cases c4 : ps.all isPut = true
        · exact ⟨by omega, by omega, c3, c4⟩
        · rw [if_neg c4] at h; omega
      · rw [if_neg c3] at h; omega
  · rw [if_neg c] at h; omega
theorem Fine.df {ws : List Int} {ps : List P} (h : Fine ws ps) : DiskD.df ws ps = 0 := by
  unfold DiskD.df
  rw [if_pos (by have := h.len; omega), if_neg (by have := h.many; omega), if_pos h.words, if_pos h.puts]
theorem Fine.put {ws : List Int} {ps : List P} (h : Fine ws ps) {p : P} (hp : p ∈ ps) : 0 ≤ p.f0 ∧ p.f0 ≤ 63 := by
  have := List.all_eq_true.1 h.puts p hp
  simp only [isPut, Bool.and_eq_true] at this
  exact inB_iff.1 this.1
end Go.Proofs.Ytaahjfjpbilfnaa.DiskD
/- What a disk reads as behind all that was put: the program's fold over the puts and the reference's last put are one list. -/
namespace Go.Proofs.Ytaahjfjpbilfnaa.DiskD
open Go.RowKit Go.Proofs.Ytaahjfjpbilfnaa.PD Go.Proofs.YtaahjfjpbilfnaaW.PrintWords Go.Proofs.Ytaahjfjpbilfnaa.Lem Go.Proofs.Ytaahjfjpbilfnaa.SmallD Go.Proofs.Ytaahjfjpbilfnaa.WordsD
set_option linter.unusedVariables false
set_option linter.unusedSimpArgs false

def fl : List Int → List P → List Int
  | ws, [] => ws
  | ws, p :: r => fl (ws.set p.f0.toNat p.f1) r
theorem fl_length : ∀ (ps : List P) (ws : List Int), (fl ws ps).length = ws.length
  | [], ws => rfl
  | p :: r, ws => by rw [fl, fl_length r]; exact List.length_set
theorem fl_append : ∀ (ps qs : List P) (ws : List Int), fl ws (ps ++ qs) = fl (fl ws ps) qs
  | [], qs, ws => rfl
  | p :: r, qs, ws => by rw [List.cons_append, fl, fl_append r qs, fl]
theorem clone_ints (l : List Int) (h : l.length < 17592186044416) : slices_Clone_int64.f l = some l := by
  unfold slices_Clone_int64.f
  simp only [Option.bind_some, List.length_nil, Nat.zero_add, if_pos h, List.nil_append]
theorem flush_loop (ps : List P) (hp : ps.length ≤ 140737488351232) : ∀ (d i : Nat) (ws : List Int), ps.length - i = d → i ≤ ps.length → (∀ p ∈ ps, 0 ≤ p.f0 ∧ p.f0 < ws.length) → Ev (fun k => impl_flushed.l0 k ws ps (ps.length : Int) (i : Int)) (fl ws (ps.drop i)) := by
  intro d
  induction d with
  | zero =>
    intro i ws hd hi hb
    refine ev_succ ?_
    simp only [impl_flushed.l0]
    simp only [if_neg (show ¬ (i : Int) < (ps.length : Int) by omega)]
    exact ev_now (by rw [List.drop_of_length_le (by omega)]; rfl)
  | succ d ih =>
    intro i ws hd hi hb
    have hlt : i < ps.length := by omega
    have b := hb _ (List.getElem_mem hlt)
    rw [List.drop_eq_getElem_cons hlt, fl]
    refine ev_succ ?_
    simp only [impl_flushed.l0, rdP hlt]
    simp only [if_pos (show (i : Int) < (ps.length : Int) by omega), if_pos (show 0 ≤ (i : Int) by omega), if_pos b.1, if_pos b.2, wrap_succ hlt hp]
    exact ih (i + 1) _ (by omega) (by omega) (by intro p hp'; rw [List.length_set]; exact hb p hp')
theorem flushed_ev (ws : List Int) (ps : List P) (h : ws.length ≤ 1048576) (hp : ps.length ≤ 140737488351232) (hb : ∀ p ∈ ps, 0 ≤ p.f0 ∧ p.f0 < ws.length) : Ev (fun k => impl_flushed.f k ws ps) (fl ws ps) := by
  unfold impl_flushed.f
  refine ev_bind0 (clone_ints ws (by omega)) ?_
  have := flush_loop ps hp ps.length 0 ws (by omega) (by omega) hb
  rwa [List.drop_zero] at this
theorem Fine.bound {ws : List Int} {ps : List P} (h : Fine ws ps) : ∀ p ∈ ps, 0 ≤ p.f0 ∧ p.f0 < ws.length := by
  intro p hp
  have := h.put hp
  have := h.len
  omega
theorem flush_fine {ws : List Int} {ps : List P} (h : Fine ws ps) : Ev (fun k => impl_flushed.f k ws ps) (fl ws ps) :=
  flushed_ev ws ps (by have := h.len; omega) (by have := h.many; omega) h.bound
theorem at_loop (ws : List Int) (ps : List P) (a : Nat) (ha : a < ws.length) (hp : ps.length ≤ 140737488351232) (hb : ∀ p ∈ ps, 0 ≤ p.f0 ∧ p.f0 < ws.length) : ∀ i, i ≤ ps.length → Ev (fun k => spec_l1At.l0 k ⟨ws, ps⟩ (a : Int) ((i : Int) - 1)) (rd (fl ws (ps.take i)) (a : Int)) := by
  intro i
  induction i with
  | zero =>
    intro hi
    refine ev_succ ?_
    simp only [spec_l1At.l0, rdD]
    simp only [if_neg (show ¬ ((0 : Nat) : Int) - 1 ≥ 0 by omega), if_pos (show 0 ≤ (a : Int) by omega), if_pos (show (a : Int) < (ws.length : Int) by omega)]
    exact ev_now (by rw [List.take_zero, fl])
  | succ i ih =>
    intro hi
    have hlt : i < ps.length := by omega
    have b := hb _ (List.getElem_mem hlt)
    have ih' := ih (by omega)
    have e : ps.take (i + 1) = ps.take i ++ [ps[i]] := by rw [List.take_add_one, List.getElem?_eq_getElem hlt]; rfl
    rw [e, fl_append, fl, fl]
    refine ev_succ ?_
    have e1 : ((i + 1 : Nat) : Int) - 1 = (i : Int) := by omega
    simp only [spec_l1At.l0, rdD, e1, rdP hlt]
    simp only [if_pos (show (i : Int) ≥ 0 by omega), if_pos (show 0 ≤ (i : Int) by omega), if_pos (show (i : Int) < (ps.length : Int) by omega), wrap_id (show -9223372036854775808 ≤ (i : Int) - 1 by omega) (by omega)]
    by_cases c : ps[i].f0 = (a : Int)
    · simp only [if_pos c]
      refine ev_now ?_
      rw [c, Int.toNat_natCast, rd_lt (by rw [List.length_set, fl_length]; exact ha), List.getElem_set_self]
    · simp only [if_neg c]
      have e2 : rd ((fl ws (ps.take i)).set ps[i].f0.toNat ps[i].f1) (a : Int) = rd (fl ws (ps.take i)) (a : Int) := by
        rw [rd_lt (by rw [List.length_set, fl_length]; exact ha), rd_lt (by rw [fl_length]; exact ha)]
        exact List.getElem_set_ne (by omega) _
      rw [e2]
      exact ih'
theorem at_ev (ws : List Int) (ps : List P) (a : Nat) (ha : a < ws.length) (hp : ps.length ≤ 140737488351232) (hb : ∀ p ∈ ps, 0 ≤ p.f0 ∧ p.f0 < ws.length) : Ev (fun k => spec_l1At.f k ⟨ws, ps⟩ (a : Int)) (rd (fl ws ps) (a : Int)) := by
  unfold spec_l1At.f
  simp only [rdD]
  rw [wrap_id (show -9223372036854775808 ≤ (ps.length : Int) - 1 by omega) (by omega)]
  have := at_loop ws ps a ha hp hb ps.length (by omega)
  rwa [List.take_of_length_le (by omega)] at this
theorem all_loop {ws : List Int} {ps : List P} (hf : Fine ws ps) : ∀ (d i : Nat), 64 - i = d → i ≤ 64 → Ev (fun k => spec_l1All.l0 k ⟨ws, ps⟩ ((fl ws ps).take i) (i : Int)) (fl ws ps) := by
  have hlen : (fl ws ps).length = 64 := by rw [fl_length, hf.len]
  intro d
  induction d with
  | zero =>
    intro i hd hi
    refine ev_succ ?_
    simp only [spec_l1All.l0]
    simp only [if_neg (show ¬ (i : Int) < 64 by omega)]
    exact ev_now (List.take_of_length_le (by omega))
  | succ d ih =>
    intro i hd hi
    have hlt : i < (fl ws ps).length := by omega
    refine ev_succ ?_
    simp only [spec_l1All.l0]
    simp only [if_pos (show (i : Int) < 64 by omega)]
    refine ev_bind (at_ev ws ps i (by have := hf.len; omega) (by have := hf.many; omega) hf.bound) ?_
    simp only [if_pos (show ((fl ws ps).take i).length < 17592186044416 by rw [List.length_take]; omega), wrap_succ (show i < 64 by omega) (by omega)]
    have e : (fl ws ps).take i ++ [rd (fl ws ps) (i : Int)] = (fl ws ps).take (i + 1) := by rw [rd_lt hlt, List.take_add_one, List.getElem?_eq_getElem hlt]; rfl
    rw [e]
    exact ih (i + 1) (by omega) (by omega)
theorem all_ev {ws : List Int} {ps : List P} (hf : Fine ws ps) : Ev (fun k => spec_l1All.f k ⟨ws, ps⟩) (fl ws ps) := by
  unfold spec_l1All.f
  exact all_loop hf 64 0 (by omega) (by omega)
theorem isP_cast {a : Int} (h : isP a = true) : ∃ n : Nat, a = (n : Int) ∧ n < 64 := by
  obtain ⟨h1, h2⟩ := inB_iff.1 h
  exact ⟨a.toNat, by omega, by omega⟩
end Go.Proofs.Ytaahjfjpbilfnaa.DiskD
/- The sum of words: the program's loop and the reference's come to one number. -/
namespace Go.Proofs.Ytaahjfjpbilfnaa.SumD
open Go.RowKit Go.Proofs.Ytaahjfjpbilfnaa.PD Go.Proofs.YtaahjfjpbilfnaaW.PrintWords Go.Proofs.Ytaahjfjpbilfnaa.Lem
set_option linter.unusedVariables false
set_option linter.unusedSimpArgs false

def stepW (h w : Int) : Int := (h * 263 + w % 65521 + 1) % 65521
def sumW (l : List Int) (h : Int) : Int := l.foldl stepW h
theorem step_range (h w : Int) : 0 ≤ stepW h w ∧ stepW h w < 65521 := by unfold stepW; omega
theorem tmod_cases (w : Int) : Int.tmod w 65521 = w % 65521 ∨ (Int.tmod w 65521 = w % 65521 - 65521 ∧ w % 65521 ≠ 0) := by
  rw [Int.tmod_eq_emod]
  split
  · left; omega
  · rename_i h
    right
    have : ¬ (65521 : Int) ∣ w := fun e => h (.inr e)
    refine ⟨by simp, by omega⟩
theorem tmod_pos {w : Int} (h : 0 ≤ w) : Int.tmod w 65521 = w % 65521 := Int.tmod_eq_emod_of_nonneg h
theorem spec_step {h w : Int} (h0 : 0 ≤ h) (h1 : h < 65521) : Int.tmod (wrap64 ((wrap64 ((wrap64 (h * 263)) + (Int.tmod (wrap64 ((Int.tmod w 65521) + 65521)) 65521))) + 1)) 65521 = stepW h w := by
  have hr := Int.emod_nonneg w (show (65521 : Int) ≠ 0 by omega)
  have hr2 := Int.emod_lt_of_pos w (show (0 : Int) < 65521 by omega)
  have e1 : Int.tmod (wrap64 ((Int.tmod w 65521) + 65521)) 65521 = w % 65521 := by
    rcases tmod_cases w with e | ⟨e, h2⟩
    · rw [e, wrap_id (by omega) (by omega), tmod_pos (by omega)]; omega
    · rw [e, wrap_id (by omega) (by omega), tmod_pos (by omega)]; omega
  rw [e1, wrap_id (x := h * 263) (by omega) (by omega), wrap_id (x := h * 263 + w % 65521) (by omega) (by omega), wrap_id (by omega) (by omega), tmod_pos (by omega)]
  rfl
theorem impl_step1 {h w : Int} (h0 : 0 ≤ h) (h1 : h < 65521) (hw : Int.tmod w 65521 < 0) : Int.tmod (wrap64 ((wrap64 ((wrap64 (h * 263)) + (wrap64 ((Int.tmod w 65521) + 65521)))) + 1)) 65521 = stepW h w := by
  have hr := Int.emod_nonneg w (show (65521 : Int) ≠ 0 by omega)
  have hr2 := Int.emod_lt_of_pos w (show (0 : Int) < 65521 by omega)
  have e1 : wrap64 ((Int.tmod w 65521) + 65521) = w % 65521 := by
    rcases tmod_cases w with e | ⟨e, h2⟩
    · omega
    · rw [e, wrap_id (by omega) (by omega)]; omega
  rw [e1, wrap_id (x := h * 263) (by omega) (by omega), wrap_id (x := h * 263 + w % 65521) (by omega) (by omega), wrap_id (by omega) (by omega), tmod_pos (by omega)]
  rfl
theorem impl_step2 {h w : Int} (h0 : 0 ≤ h) (h1 : h < 65521) (hw : ¬ Int.tmod w 65521 < 0) : Int.tmod (wrap64 ((wrap64 ((wrap64 (h * 263)) + (Int.tmod w 65521))) + 1)) 65521 = stepW h w := by
  have hr := Int.emod_nonneg w (show (65521 : Int) ≠ 0 by omega)
  have hr2 := Int.emod_lt_of_pos w (show (0 : Int) < 65521 by omega)
  have e1 : Int.tmod w 65521 = w % 65521 := by
    rcases tmod_cases w with e | ⟨e, h2⟩
    · exact e
    · omega
  rw [e1, wrap_id (x := h * 263) (by omega) (by omega), wrap_id (x := h * 263 + w % 65521) (by omega) (by omega), wrap_id (by omega) (by omega), tmod_pos (by omega)]
  rfl
theorem drop_cons {l : List Int} {i : Nat} (h : i < l.length) : l.drop i = l[i] :: l.drop (i + 1) := List.drop_eq_getElem_cons h
theorem spec_loop (l : List Int) (hl : l.length ≤ 140737488351232) : ∀ (d i : Nat) (h : Int), l.length - i = d → i ≤ l.length → 0 ≤ h → h < 65521 → Ev (fun k => spec_SumWords.l0 k l h (i : Int)) (sumW (l.drop i) h) := by
  intro d
  induction d with
  | zero =>
    intro i h hd hi h0 h1
    refine ev_succ ?_
    simp only [spec_SumWords.l0]
    simp only [if_neg (show ¬ (i : Int) < (l.length : Int) by omega)]
    exact ev_now (by rw [List.drop_of_length_le (by omega)]; rfl)
  | succ d ih =>
    intro i h hd hi h0 h1
    refine ev_succ ?_
    simp only [spec_SumWords.l0]
    simp only [if_pos (show (i : Int) < (l.length : Int) by omega), if_pos (show 0 ≤ (i : Int) by omega), wrap_succ (show i < l.length by omega) hl, spec_step h0 h1, rd_lt (show i < l.length by omega)]
    rw [drop_cons (show i < l.length by omega)]
    exact ih (i + 1) _ (by omega) (by omega) (step_range _ _).1 (step_range _ _).2
theorem impl_loop (l : List Int) (hl : l.length ≤ 140737488351232) : ∀ (d i : Nat) (h : Int), l.length - i = d → i ≤ l.length → 0 ≤ h → h < 65521 → Ev (fun k => impl_SumWords.l0 k h l (l.length : Int) (i : Int)) (sumW (l.drop i) h) := by
  intro d
  induction d with
  | zero =>
    intro i h hd hi h0 h1
    refine ev_succ ?_
    simp only [impl_SumWords.l0]
    simp only [if_neg (show ¬ (i : Int) < (l.length : Int) by omega)]
    exact ev_now (by rw [List.drop_of_length_le (by omega)]; rfl)
  | succ d ih =>
    intro i h hd hi h0 h1
    refine ev_succ ?_
    simp only [impl_SumWords.l0]
    simp only [if_pos (show (i : Int) < (l.length : Int) by omega), if_pos (show 0 ≤ (i : Int) by omega), wrap_succ (show i < l.length by omega) hl, rd_lt (show i < l.length by omega)]
    rw [drop_cons (show i < l.length by omega)]
    have ih' := ih (i + 1) (stepW h l[i]) (by omega) (by omega) (step_range _ _).1 (step_range _ _).2
    by_cases c : Int.tmod l[i] 65521 < 0
    · simp only [if_pos c, impl_step1 h0 h1 c]
      exact ih'
    · simp only [if_neg c, impl_step2 h0 h1 c]
      exact ih'
theorem spec_ev (l : List Int) (hl : l.length ≤ 140737488351232) : Ev (fun k => spec_SumWords.f k l) (sumW l 9) := by
  unfold spec_SumWords.f
  exact spec_loop l hl l.length 0 9 (by omega) (by omega) (by omega) (by omega)
theorem impl_ev (l : List Int) (hl : l.length ≤ 140737488351232) : Ev (fun k => impl_SumWords.f k l) (sumW l 9) := by
  unfold impl_SumWords.f
  exact impl_loop l hl l.length 0 9 (by omega) (by omega) (by omega) (by omega)
end Go.Proofs.Ytaahjfjpbilfnaa.SumD
/- The records of a journal: the program's scan and the reference's come to one answer, at every disk that stands right. -/
namespace Go.Proofs.Ytaahjfjpbilfnaa.DiskD
open Go.RowKit Go.Proofs.Ytaahjfjpbilfnaa.PD Go.Proofs.YtaahjfjpbilfnaaW.PrintWords Go.Proofs.Ytaahjfjpbilfnaa.Lem Go.Proofs.Ytaahjfjpbilfnaa.SmallD Go.Proofs.Ytaahjfjpbilfnaa.WordsD Go.Proofs.Ytaahjfjpbilfnaa.SumD
set_option linter.unusedVariables false
set_option linter.unusedSimpArgs false

theorem l2Sum_ev (n : Int) (l : List Int) (hl : l.length ≤ 1048576) : Ev (fun k => spec_l2Sum.f k n l) (sumW (n :: l) 9) := by
  unfold spec_l2Sum.f
  simp only [Option.bind_some, List.length_cons, List.length_nil, if_pos (show 0 + 1 + l.length < 17592186044416 by omega), List.cons_append, List.nil_append]
  exact ev_bind (SumD.spec_ev _ (by simp; omega)) (ev_now rfl)
theorem stands_ev (n : Int) (l : List Int) (hl : l.length ≤ 1048576) : Ev (fun k => impl_stands.f k n l) ((l.length : Int) :: sumW (n :: l) 9 :: l) := by
  unfold impl_stands.f
  simp only [Option.bind_some, List.length_cons, List.length_nil, if_pos (show 0 + 1 + l.length < 17592186044416 by omega), List.cons_append, List.nil_append]
  refine ev_bind (SumD.impl_ev _ (by simp; omega)) ?_
  simp only [if_pos (show 0 + 1 + 1 + l.length < 17592186044416 by omega)]
  exact ev_now rfl
theorem equal_loop (a b : List Int) (h : a.length = b.length) (hl : a.length ≤ 140737488351232) : ∀ (d i : Nat), a.length - i = d → i ≤ a.length → Ev (fun k => slices_Equal_int64.l0 k a b (a.length : Int) (i : Int)) (decide (a.drop i = b.drop i)) := by
  intro d
  induction d with
  | zero =>
    intro i hd hi
    refine ev_succ ?_
    simp only [slices_Equal_int64.l0]
    simp only [if_neg (show ¬ (i : Int) < (a.length : Int) by omega)]
    exact ev_now (by rw [List.drop_of_length_le (by omega), List.drop_of_length_le (by omega)]; rfl)
  | succ d ih =>
    intro i hd hi
    have h1 : i < a.length := by omega
    have h2 : i < b.length := by omega
    have ih' := ih (i + 1) (by omega) (by omega)
    rw [List.drop_eq_getElem_cons h1, List.drop_eq_getElem_cons h2]
    refine ev_succ ?_
    simp only [slices_Equal_int64.l0, rd_lt h1, rd_lt h2]
    simp only [if_pos (show (i : Int) < (a.length : Int) by omega), if_pos (show 0 ≤ (i : Int) by omega), if_pos (show (i : Int) < (b.length : Int) by omega), wrap_succ h1 hl]
    by_cases c : a[i] = b[i]
    · simp only [if_pos c]
      refine ev_eq ih' ?_
      simp only [List.cons.injEq, c, true_and]
    · simp only [if_neg c]
      exact ev_now (by rw [eq_comm, decide_eq_false_iff_not]; intro e; exact c (List.cons.inj e).1)
theorem equal_ev (a b : List Int) (h : a.length = b.length) (hl : a.length ≤ 140737488351232) : Ev (fun k => slices_Equal_int64.f k a b) (decide (a = b)) := by
  unfold slices_Equal_int64.f
  simp only [if_pos (show (a.length : Int) = (b.length : Int) by omega)]
  have := equal_loop a b h hl a.length 0 (by omega) (by omega)
  rwa [List.drop_zero, List.drop_zero] at this
theorem take_two (l : List Int) (i m : Nat) (h : i + 2 + m ≤ l.length) : (l.take (i + 2 + m)).drop i = rd l (i : Int) :: rd l ((i + 1 : Nat) : Int) :: (l.take (i + 2 + m)).drop (i + 2) := by
  have h1 : i < (l.take (i + 2 + m)).length := by rw [List.length_take]; omega
  have h2 : i + 1 < (l.take (i + 2 + m)).length := by rw [List.length_take]; omega
  rw [List.drop_eq_getElem_cons h1, List.drop_eq_getElem_cons h2, List.getElem_take, List.getElem_take, rd_lt (by omega), rd_lt (by omega)]
theorem w2 {i : Nat} (h : i ≤ 64) : wrap64 ((i : Int) + 2) = ((i + 2 : Nat) : Int) := by rw [wrap_id (by omega) (by omega)]; omega
theorem w1 {i : Nat} (h : i ≤ 64) : wrap64 ((i : Int) + 1) = ((i + 1 : Nat) : Int) := by rw [wrap_id (by omega) (by omega)]; omega
theorem w3 {i m : Nat} (h : i ≤ 64) (h2 : m ≤ 8) : wrap64 (((i + 2 : Nat) : Int) + (m : Int)) = ((i + 2 + m : Nat) : Int) := by rw [wrap_id (by omega) (by omega)]; omega
theorem wr {i : Nat} (h : i ≤ 64) : wrap64 (wrap64 (64 - (i : Int)) - 2) = 62 - (i : Int) := by
  rw [wrap_id (show -9223372036854775808 ≤ 64 - (i : Int) by omega) (by omega), wrap_id (show -9223372036854775808 ≤ 64 - (i : Int) - 2 by omega) (by omega)]; omega
theorem spec_end (all : List Int) (hall : all.length = 64) (i : Nat) (o : List (List Int)) (hi : i ≤ 64) (h : 62 ≤ i) : Ev (fun k => spec_l2Scan.l0 k all o (i : Int)) (o, (i : Int)) := by
  refine ev_succ ?_
  simp only [spec_l2Scan.l0, w2 hi]
  simp only [if_neg (show ¬ ((i + 2 : Nat) : Int) < (all.length : Int) by omega)]
  exact ev_now rfl
theorem spec_not (all : List Int) (hall : all.length = 64) (i : Nat) (o : List (List Int)) (h : i < 62) (hin : inB (rd all (i : Int)) 1 8 = false) : Ev (fun k => spec_l2Scan.l0 k all o (i : Int)) (o, (i : Int)) := by
  refine ev_succ ?_
  simp only [spec_l2Scan.l0, w2 (show i ≤ 64 by omega), l1In_eq, Option.bind_some, hin, Bool.false_eq_true, if_false]
  simp only [if_pos (show ((i + 2 : Nat) : Int) < (all.length : Int) by omega), if_pos (show 0 ≤ (i : Int) by omega), if_pos (show (i : Int) < (all.length : Int) by omega)]
  refine ev_succ ?_
  simp only [spec_l2Scan.j1, if_true]
  exact ev_now rfl
theorem impl_end (all : List Int) (o : List (List Int)) : Ev (fun k => impl_scan.l0 k o all ((64 : Nat) : Int)) (o, ((64 : Nat) : Int)) := by
  refine ev_succ ?_
  simp only [impl_scan.l0]
  simp only [if_neg (show ¬ ((64 : Nat) : Int) < 64 by omega)]
  exact ev_now rfl
theorem impl_not (all : List Int) (hall : all.length = 64) (i : Nat) (o : List (List Int)) (h : i < 64) (hin : inB (rd all (i : Int)) 1 8 = false) : Ev (fun k => impl_scan.l0 k o all (i : Int)) (o, (i : Int)) := by
  refine ev_succ ?_
  simp only [impl_scan.l0, within_eq, Option.bind_some, hin, Bool.false_eq_true, if_false]
  simp only [if_pos (show (i : Int) < 64 by omega), if_pos (show 0 ≤ (i : Int) by omega), if_pos (show (i : Int) < (all.length : Int) by omega)]
  refine ev_succ ?_
  simp only [impl_scan.j1, if_true]
  exact ev_now rfl
theorem spec_far (all : List Int) (hall : all.length = 64) (i m : Nat) (o : List (List Int)) (h : i < 62) (hm : rd all (i : Int) = (m : Int)) (m1 : 1 ≤ m) (m2 : m ≤ 8) (hf : 64 < i + 2 + m) : Ev (fun k => spec_l2Scan.l0 k all o (i : Int)) (o, (i : Int)) := by
  have hin : inB (m : Int) 1 8 = true := inB_iff.2 (by omega)
  refine ev_succ ?_
  simp only [spec_l2Scan.l0, w2 (show i ≤ 64 by omega), l1In_eq, Option.bind_some, hm, hin, if_true, w3 (show i ≤ 64 by omega) m2]
  simp only [if_pos (show ((i + 2 : Nat) : Int) < (all.length : Int) by omega), if_pos (show 0 ≤ (i : Int) by omega), if_pos (show (i : Int) < (all.length : Int) by omega)]
  refine ev_succ ?_
  simp only [spec_l2Scan.j1, decide_eq_true (show ((i + 2 + m : Nat) : Int) > (all.length : Int) by omega), if_true]
  exact ev_now rfl
theorem impl_far (all : List Int) (hall : all.length = 64) (i m : Nat) (o : List (List Int)) (h : i < 64) (hm : rd all (i : Int) = (m : Int)) (m1 : 1 ≤ m) (m2 : m ≤ 8) (hf : 64 < i + 2 + m) : Ev (fun k => impl_scan.l0 k o all (i : Int)) (o, (i : Int)) := by
  have hin : inB (m : Int) 1 8 = true := inB_iff.2 (by omega)
  refine ev_succ ?_
  simp only [impl_scan.l0, within_eq, Option.bind_some, hm, hin, if_true, wr (show i ≤ 64 by omega)]
  simp only [if_pos (show (i : Int) < 64 by omega), if_pos (show 0 ≤ (i : Int) by omega), if_pos (show (i : Int) < (all.length : Int) by omega)]
  refine ev_succ ?_
  simp only [impl_scan.j1, decide_eq_true (show (m : Int) > 62 - (i : Int) by omega), if_true]
  exact ev_now rfl
theorem spec_fit (all : List Int) (hall : all.length = 64) (i m : Nat) (o : List (List Int)) (ho : o.length ≤ 64) (hm : rd all (i : Int) = (m : Int)) (m1 : 1 ≤ m) (m2 : m ≤ 8) (hf : i + 2 + m ≤ 64) (rec : List Int) (hrec : (all.take (i + 2 + m)).drop (i + 2) = rec) (hl : rec.length = m) (r : List (List Int) × Int)
    (hr : if rd all ((i + 1 : Nat) : Int) = sumW ((o.length : Int) :: rec) 9 then Ev (fun k => spec_l2Scan.l0 k all (o ++ [rec]) ((i + 2 + m : Nat) : Int)) r else r = (o, (i : Int))) : Ev (fun k => spec_l2Scan.l0 k all o (i : Int)) r := by
  have hin : inB (m : Int) 1 8 = true := inB_iff.2 (by omega)
  refine ev_succ ?_
  simp only [spec_l2Scan.l0, w2 (show i ≤ 64 by omega), l1In_eq, Option.bind_some, hm, hin, if_true, w3 (show i ≤ 64 by omega) m2]
  simp only [if_pos (show ((i + 2 : Nat) : Int) < (all.length : Int) by omega), if_pos (show 0 ≤ (i : Int) by omega), if_pos (show (i : Int) < (all.length : Int) by omega)]
  refine ev_succ ?_
  simp only [spec_l2Scan.j1, decide_eq_false (show ¬ ((i + 2 + m : Nat) : Int) > (all.length : Int) by omega), Bool.false_eq_true, if_false, w2 (show i ≤ 64 by omega), w1 (show i ≤ 64 by omega), w3 (show i ≤ 64 by omega) m2, Int.toNat_natCast, hrec, Option.bind_some, List.nil_append, List.length_nil, Nat.zero_add, hl]
  simp only [if_pos (show 0 ≤ ((i + 2 : Nat) : Int) by omega), if_pos (show ((i + 2 : Nat) : Int) ≤ ((i + 2 + m : Nat) : Int) by omega), if_pos (show ((i + 2 + m : Nat) : Int) ≤ (all.length : Int) by omega), if_pos (show m < 17592186044416 by omega), if_pos (show 0 ≤ ((i + 1 : Nat) : Int) by omega), if_pos (show ((i + 1 : Nat) : Int) < (all.length : Int) by omega)]
  refine ev_bind (l2Sum_ev _ _ (by omega)) ?_
  by_cases hs : rd all ((i + 1 : Nat) : Int) = sumW ((o.length : Int) :: rec) 9
  · rw [if_pos hs] at hr
    simp only [if_pos hs, if_pos (show o.length < 5864062014805 by omega)]
    exact hr
  · rw [if_neg hs] at hr
    simp only [if_neg hs]
    exact ev_now hr.symm
theorem impl_fit (all : List Int) (hall : all.length = 64) (i m : Nat) (o : List (List Int)) (ho : o.length ≤ 64) (hm : rd all (i : Int) = (m : Int)) (m1 : 1 ≤ m) (m2 : m ≤ 8) (hf : i + 2 + m ≤ 64) (rec : List Int) (hrec : (all.take (i + 2 + m)).drop (i + 2) = rec) (hl : rec.length = m) (r : List (List Int) × Int)
    (hr : if rd all ((i + 1 : Nat) : Int) = sumW ((o.length : Int) :: rec) 9 then Ev (fun k => impl_scan.l0 k (o ++ [rec]) all ((i + 2 + m : Nat) : Int)) r else r = (o, (i : Int))) : Ev (fun k => impl_scan.l0 k o all (i : Int)) r := by
  have hin : inB (m : Int) 1 8 = true := inB_iff.2 (by omega)
  have ht := take_two all i m (by omega)
  rw [hrec, hm] at ht
  refine ev_succ ?_
  simp only [impl_scan.l0, within_eq, Option.bind_some, hm, hin, if_true, wr (show i ≤ 64 by omega)]
  simp only [if_pos (show (i : Int) < 64 by omega), if_pos (show 0 ≤ (i : Int) by omega), if_pos (show (i : Int) < (all.length : Int) by omega)]
  refine ev_succ ?_
  simp only [impl_scan.j1, decide_eq_false (show ¬ (m : Int) > 62 - (i : Int) by omega), Bool.false_eq_true, if_false, w2 (show i ≤ 64 by omega), w3 (show i ≤ 64 by omega) m2, Int.toNat_natCast, hrec, ht, Option.bind_some]
  simp only [if_pos (show 0 ≤ ((i + 2 : Nat) : Int) by omega), if_pos (show ((i + 2 : Nat) : Int) ≤ ((i + 2 + m : Nat) : Int) by omega), if_pos (show ((i + 2 + m : Nat) : Int) ≤ (all.length : Int) by omega)]
  refine ev_bind (stands_ev _ _ (by omega)) ?_
  simp only [if_pos (show 0 ≤ (i : Int) by omega), if_pos (show (i : Int) ≤ ((i + 2 + m : Nat) : Int) by omega), hl]
  refine ev_bind (equal_ev _ _ (by simp only [List.length_cons]) (by simp only [List.length_cons, hl]; omega)) ?_
  by_cases hs : rd all ((i + 1 : Nat) : Int) = sumW ((o.length : Int) :: rec) 9
  · rw [if_pos hs] at hr
    simp only [hs, decide_true, if_true, clone_ints _ (show rec.length < 17592186044416 by omega), Option.bind_some, if_pos (show o.length < 5864062014805 by omega)]
    exact hr
  · rw [if_neg hs] at hr
    have hn : ¬ ((m : Int) :: sumW ((o.length : Int) :: rec) 9 :: rec = (m : Int) :: rd all ((i + 1 : Nat) : Int) :: rec) := fun e => hs (List.cons.inj (List.cons.inj e).2).1.symm
    simp only [decide_eq_false hn, Bool.false_eq_true, if_false]
    exact ev_now hr.symm
theorem scan_loop (all : List Int) (hall : all.length = 64) : ∀ (d i : Nat) (o : List (List Int)), 64 - i ≤ d → i ≤ 64 → o.length ≤ i → ∃ r : List (List Int) × Int, Ev (fun k => spec_l2Scan.l0 k all o (i : Int)) r ∧ Ev (fun k => impl_scan.l0 k o all (i : Int)) r ∧ 0 ≤ r.2 ∧ r.2 ≤ 64 ∧ r.1.length ≤ 64 := by
  intro d
  induction d with
  | zero =>
    intro i o hd hi ho
    obtain rfl : i = 64 := by omega
    exact ⟨(o, ((64 : Nat) : Int)), spec_end all hall 64 o (by omega) (by omega), impl_end all o, by omega, by omega, ho⟩
  | succ d ih =>
    intro i o hd hi ho
    by_cases h64 : i = 64
    · subst h64
      exact ⟨(o, ((64 : Nat) : Int)), spec_end all hall 64 o (by omega) (by omega), impl_end all o, by omega, by omega, ho⟩
    have hstop : 0 ≤ (o, (i : Int)).2 ∧ (o, (i : Int)).2 ≤ 64 ∧ (o, (i : Int)).1.length ≤ 64 := ⟨by show 0 ≤ (i : Int); omega, by show (i : Int) ≤ 64; omega, by show o.length ≤ 64; omega⟩
    cases hin : inB (rd all (i : Int)) 1 8
    · refine ⟨(o, (i : Int)), ?_, impl_not all hall i o (by omega) hin, hstop⟩
      by_cases h62 : 62 ≤ i
      · exact spec_end all hall i o hi h62
      · exact spec_not all hall i o (by omega) hin
    · obtain ⟨n1, n2⟩ := inB_iff.1 hin
      obtain ⟨m, hm⟩ : ∃ m : Nat, rd all (i : Int) = (m : Int) := ⟨(rd all (i : Int)).toNat, by omega⟩
      rw [hm] at n1 n2
      by_cases hf : i + 2 + m ≤ 64
      · have hl : ((all.take (i + 2 + m)).drop (i + 2)).length = m := by rw [List.length_drop, List.length_take]; omega
        generalize hrec : (all.take (i + 2 + m)).drop (i + 2) = rec at hl
        by_cases hs : rd all ((i + 1 : Nat) : Int) = sumW ((o.length : Int) :: rec) 9
        · obtain ⟨r, r1, r2, r3⟩ := ih (i + 2 + m) (o ++ [rec]) (by omega) (by omega) (by rw [List.length_append, List.length_singleton]; omega)
          exact ⟨r, spec_fit all hall i m o (by omega) hm (by omega) (by omega) hf rec hrec hl r (by rw [if_pos hs]; exact r1), impl_fit all hall i m o (by omega) hm (by omega) (by omega) hf rec hrec hl r (by rw [if_pos hs]; exact r2), r3⟩
        · exact ⟨(o, (i : Int)), spec_fit all hall i m o (by omega) hm (by omega) (by omega) hf rec hrec hl _ (by rw [if_neg hs]), impl_fit all hall i m o (by omega) hm (by omega) (by omega) hf rec hrec hl _ (by rw [if_neg hs]), hstop⟩
      · refine ⟨(o, (i : Int)), ?_, impl_far all hall i m o (by omega) hm (by omega) (by omega) (by omega), hstop⟩
        by_cases h62 : 62 ≤ i
        · exact spec_end all hall i o hi h62
        · exact spec_far all hall i m o (by omega) hm (by omega) (by omega) (by omega)
theorem scan_both {ws : List Int} {ps : List P} (hf : Fine ws ps) : ∃ r : List (List Int) × Int, Ev (fun k => spec_l2Scan.f k (fl ws ps)) r ∧ Ev (fun k => impl_scan.f k ws ps) r ∧ 0 ≤ r.2 ∧ r.2 ≤ 64 ∧ r.1.length ≤ 64 := by
  obtain ⟨r, r1, r2, r3⟩ := scan_loop (fl ws ps) (by rw [fl_length, hf.len]) 64 0 [] (by omega) (by omega) (by simp)
  refine ⟨r, ?_, ?_, r3⟩
  · unfold spec_l2Scan.f; exact r1
  · unfold impl_scan.f; exact ev_bind (flush_fine hf) r2
end Go.Proofs.Ytaahjfjpbilfnaa.DiskD
/- The room of a journal: both answers are one. -/
namespace Go.Proofs.Ytaahjfjpbilfnaa.DiskD
open Go.RowKit Go.Proofs.Ytaahjfjpbilfnaa.PD Go.Proofs.YtaahjfjpbilfnaaW.PrintWords Go.Proofs.Ytaahjfjpbilfnaa.Lem Go.Proofs.Ytaahjfjpbilfnaa.SmallD Go.Proofs.Ytaahjfjpbilfnaa.WordsD
set_option linter.unusedVariables false
set_option linter.unusedSimpArgs false

theorem room_both (ws : List Int) (ps : List P) (h : ws.length ≤ 1048576) (h2 : ps.length ≤ 1048576) : ∃ r : Int × Int, Ev (fun k => spec_RoomOf.f k ws ps) r ∧ Ev (fun k => impl_RoomOf.f k ws ps) r ∧ True := by
  by_cases h0 : df ws ps = 0
  · have hf := fine h0
    obtain ⟨s, s1, s2, s3, s4, s5⟩ := scan_both hf
    have e : wrap64 (wrap64 (64 - s.2) - 2) = 62 - s.2 := by
      rw [wrap_id (show -9223372036854775808 ≤ 64 - s.2 by omega) (by omega), wrap_id (show -9223372036854775808 ≤ 64 - s.2 - 2 by omega) (by omega)]; omega
    refine ⟨(0, if s.2 > 62 then 0 else 62 - s.2), ?_, ?_, trivial⟩
    · unfold spec_RoomOf.f
      refine ev_bind (l1Fault_ev ws ps (by omega) (by omega)) ?_
      simp only [if_pos h0]
      refine ev_bind (all_ev hf) (ev_bind s1 ?_)
      simp only [e, spec_l1Max.f]
      by_cases c : s.2 > 62
      · simp only [if_pos c, if_pos (show (0 : Int) > 62 - s.2 by omega), Option.bind_some]; exact ev_now rfl
      · simp only [if_neg c, if_neg (show ¬ (0 : Int) > 62 - s.2 by omega), Option.bind_some]; exact ev_now rfl
    · unfold impl_RoomOf.f
      refine ev_bind (impl_ev ws ps (by omega) (by omega)) ?_
      simp only [if_pos h0]
      refine ev_bind s2 ?_
      simp only [e, mx]
      by_cases c : s.2 > 62
      · simp only [if_pos c, if_neg (show ¬ (0 : Int) < 62 - s.2 by omega)]; exact ev_now rfl
      · simp only [if_neg c]
        refine ev_now ?_
        by_cases c2 : (0 : Int) < 62 - s.2
        · rw [if_pos c2]
        · rw [if_neg c2]; congr 1; omega
  · refine ⟨(df ws ps, 0), ?_, ?_, trivial⟩
    · unfold spec_RoomOf.f
      refine ev_bind (l1Fault_ev ws ps (by omega) (by omega)) ?_
      simp only [if_neg h0]
      exact ev_now rfl
    · unfold impl_RoomOf.f
      refine ev_bind (impl_ev ws ps (by omega) (by omega)) ?_
      simp only [if_neg h0]
      exact ev_now rfl
end Go.Proofs.Ytaahjfjpbilfnaa.DiskD
/- The law of RoomOf answers true at every argument: the program's answer is the reference's, it is new memory, and the arguments stay. No condition beside the statement's own bounds. (The frame is printed by wip/genlaw.py.) -/
namespace Go.Proofs.Ytaahjfjpbilfnaa.Pure
open Go.RowKit Go.Proofs.Ytaahjfjpbilfnaa.PD Go.Proofs.YtaahjfjpbilfnaaW.PrintWords Go.Proofs.Ytaahjfjpbilfnaa.Lem Go.Proofs.Ytaahjfjpbilfnaa.DiskD
set_option linter.unusedVariables false
set_option linter.unusedSimpArgs false

theorem FnExactRoomOf : laws_FnExactRoomOf.Pure := by
  intro x0 hg
  obtain ⟨ws, lp⟩ := x0
  have g1 : ws.length ≤ 140737488351232 := by have := hg; simp [g25] at this; omega
  have g2 : lp.length ≤ 140737488351232 := by have := hg; simp [g25] at this; omega
  refine Ev.rounds (r := true) ?_
  unfold laws_FnExactRoomOf.f
  obtain ⟨t, ht, hb⟩ := sz_ok ws lp g1 g2
  simp only [ht, Option.bind_some]
  by_cases c : t < 0
  · simp only [if_pos c]
    exact ev_now rfl
  · simp only [if_neg c]
    obtain ⟨b1, b2⟩ := hb c
    have b3 : (lp.map PutD.toB).length ≤ 1048576 := by simpa using b2
    generalize hps : lp.map PutD.toB = ps at b3
    have cp := to_ev ws lp b1 b2
    rw [hps] at cp
    obtain ⟨r, hs, hi, hr⟩ := room_both ws ps b1 b3
    refine ev_bind cp (ev_bind hs (ev_bind cp (ev_bind hi ?_)))
    simp only [laws_eqIntResult.f, if_true, Option.bind_some]
    refine ev_bind cp (ev_bind (eq_ev ws ps (by omega) (by omega)) ?_)
    simp only [if_true]
    exact ev_now rfl
end Go.Proofs.Ytaahjfjpbilfnaa.Pure
/- The law FnExactRoomOf of the program holds at whatever its arguments read as (the statement's own bounds alone): the row, out of the plain statement and the walk. -/
namespace Go.Proofs.Ytaahjfjpbilfnaa.fnExactRoomOf
open Go.ChangeShapes Go.WideShapes Go.ChangeAt Go.RowKit Go.Proofs.Ytaahjfjpbilfnaa.PD Go.Proofs.YtaahjfjpbilfnaaW.PrintWords
open Go.ChangeMaps (open_string shut_string)
set_option linter.unusedVariables false
theorem own : ownKnob Try.prog.godebug = none := by kernel_rfl
theorem laidOut : laidOutB Try.prog = true := by kernel_rfl
set_option maxRecDepth 100000 in
theorem lifted (os : Os) (started : os.Started) (H : Type) (enc : TypeId × Value → H) :
    ReturnsInHanded {} Try.checked os 11 .any (Rows.fnExactRoomOfSpec.pre6 enc Try.prog Try.f11 Rows.fnExactRoomOfRow.domain false) (Rows.fnExactRoomOfSpec.post enc Try.prog Try.f11 false true false false) := by
  refine returnsInHanded_of_change_sized (C := Try.checked) own started (by kernel_rfl) Try.func11
    (ChangeSpec.witness6 (enc := enc) (C := Try.checked) false ⟨#[], #[.agg #[.slice none 0 0, .slice none 0 0]], []⟩ 12 (by kernel_rfl) (by kernel_rfl) (by kernel_rfl) (by kernel_rfl)) ?_
  intro W base args ds gs before hval0 hW hcnd hsz0 _
  have hsz : (DataW.weightsEach Try.prog (Try.f11.params.toList ++ Rows.fnExactRoomOfSpec.plain.varTypes Try.prog) (ds ++ gs)).all (· ≤ reachBytes) = true := hsz0
  have hval : ∀ (j : Nat) t v, Try.f11.params[j]? = some t → args[j]? = some v → Value.okWide Try.prog W .any base t v := hval0
  have hW' := hW
  obtain ⟨p, q, hA0, hV, rfl, hfz, hnd⟩ := hW
  have hA : DataW.TrodAll enc Try.prog W 0 (fun _ => true) true Try.f11.params.toList args.toList ds p := hA0
  rw [Try.params11] at hA hval hsz
  obtain ⟨v0, vs0, d0, ds0, p0, q0, hargs, rfl, rfl, h0, r0⟩ := trodAll_cons hA
  obtain ⟨rfl, rfl, rfl⟩ := trodAll_nil r0
  obtain rfl : args = #[v0] := by cases args; simp_all
  obtain ⟨rfl, rfl⟩ := trodVars_none hV
  have k0 := h0
  have lt0 : ∀ x ∈ p0, x.block < W.heap.size := by obtain ⟨m, hm⟩ := k0; exact DataW.trod_lt m _ _ _ hm
  obtain ⟨cs0, rfl, _⟩ := okWide_struct Try.underlying25 (hval 0 25 v0 rfl rfl)
  obtain ⟨x0, kx0, w0⟩ := Open.Opens.arg opens25 hsz (j := 0) rfl rfl h0
  obtain ⟨A0_0, c0_0, A0_1, c0_1, e0, hl0_0, hC0_0, hl0_1, hC0_1⟩ := k25_open kx0
  obtain rfl : cs0 = #[.slice A0_0 x0.f0.length c0_0, .slice A0_1 x0.f1.length c0_1] := by apply Array.ext'; simpa [Value.cells] using e0
  clear hA0 hval0 hsz0 hsz
  obtain ⟨k, h⟩ := Pure.FnExactRoomOf x0 w0
  refine (PD.laws_FnExactRoomOf.calls k _ _ x0.f0 _ _ x0.f1 true W hC0_0 hl0_0 hC0_1 hl0_1 rfl h).mono fun e W' ⟨he, bel0⟩ => ?_
  have bel := bel0
  subst he
  exact ⟨_, rfl, _, _, _, [], _, [], hW', trodAll_mk1 (shut_bool Try.underlying4 _), (trodAll_cons_mk (Below.trod laidOut (by kernel_rfl) (of_decide_eq_true (by kernel_rfl)) k0 bel lt0) trodAll_mk0), rfl, bel.frame _, fun h => by cases h⟩
theorem closed : joinedFacts Try.pinned.checked.prog 11 Try.f11 Rows.fnExactRoomOfSpec Rows.fnExactRoomOfRow = true := by
  rw [joinedFacts, Order.may, Order.lifts, Order.made]
  kernel_rfl
theorem over : Rows.fnExactRoomOfRow.holds Try.pinned (OpenSpec.ofChange Rows.fnExactRoomOfSpec) :=
  OpenClaim.holds_of_wide 11 Try.f11 rfl rfl rfl rfl rfl rfl rfl ⟨rfl, rfl, rfl, rfl, rfl⟩ rfl rfl rfl rfl rfl (by kernel_rfl) Try.func11 closed
    (of_decide_eq_true (by kernel_rfl)) (by unfold Func.isWrapper; first | (rw [if_pos (by decide +kernel)]; kernel_rfl) | (rw [if_neg (by decide +kernel)]; exact ⟨rfl, rfl⟩))
    (fun os started H enc _ => lifted os started H enc)
theorem proved : Rows.FnExactRoomOfSaid := over
#print axioms proved
end Go.Proofs.Ytaahjfjpbilfnaa.fnExactRoomOf
namespace Go.Proofs.Ytaahjfjpbilfnaa
/-- The row, under a short name, for the claim. -/
theorem fnExactRoomOf_holds : Rows.FnExactRoomOfSaid := fnExactRoomOf.proved
end Go.Proofs.Ytaahjfjpbilfnaa
