/- What two functions of Go's library give: strconv.FormatInt at base 10, strings.Join. -/
import Derived.Test.YtohanpndekfbgaaDoorVMS
import Derived.Shelf.Strings.OnBuilder
import Derived.Shelf.Strconv.Itoa4
namespace Go.Proofs.YtohanpndekfbgaaDoor.V
open Go
def strsOf : List Value → Option (List ByteArray)
  | [] => some []
  | .string s :: r => (strsOf r).map (s :: ·)
  | _ => none
def natInt (args : List Value) (_ : Hp) : Option Value := match args with
  | [.int .i64 n, .int .i64 b] => if b = 10 ∧ -9223372036854775808 ≤ n ∧ n ≤ 9223372036854775807 then some (.string ⟨(Lib.itoa n).toArray⟩) else none
  | _ => none
def natJoin (args : List Value) (H : Hp) : Option Value := match args with
  | [.slice (some a) n s, .string sep] => if 0 < n ∧ n ≤ 100000 then (scells H 1 (.slice (some a) n s)).bind fun cs => (strsOf cs).bind fun xs =>
      if (Lib.join (xs.map (·.data.toList)) sep.data.toList).length ≤ 1000000 then some (.string ⟨(Lib.join (xs.map (·.data.toList)) sep.data.toList).toArray⟩) else none
    else none
  | _ => none
end Go.Proofs.YtohanpndekfbgaaDoor.V
