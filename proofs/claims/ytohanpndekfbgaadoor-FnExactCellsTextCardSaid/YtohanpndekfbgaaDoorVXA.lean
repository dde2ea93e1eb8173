/- Digits: the reference's, the program's. -/
import Derived.Test.YtohanpndekfbgaaDoorVLF
import Derived.Lib.ItoaMem
import Derived.Lib.ItoaLen
namespace Go.Proofs.YtohanpndekfbgaaDoor.V
open Go
set_option linter.unusedVariables false
set_option linter.unusedSimpArgs false
set_option maxRecDepth 100000
/-- A string of bytes. -/
def str (l : List UInt8) : Value := .string ⟨l.toArray⟩
theorem szB (l : List UInt8) : (⟨l.toArray⟩ : ByteArray).size = l.length := rfl
theorem apB (a b : List UInt8) : (⟨a.toArray⟩ ++ ⟨b.toArray⟩ : ByteArray) = ⟨(a ++ b).toArray⟩ := by
  apply ByteArray.ext
  simp
theorem u8w : ∀ n, n < 10 → IntKind.u8.wrap ((48 + n : Nat) : Int) = ((48 + n : Nat) : Int) := by decide
theorem one_byte (n : Nat) : strOf [(n : Int)] = ⟨[UInt8.ofNat n].toArray⟩ := rfl
theorem z01 : ((0 : Nat) < 1) = True := eq_true (by omega)
theorem digits_c : ∀ (k d lo : Nat) (H : Hp) (n : Nat), n < 10 ^ (k + 1) → n ≤ 1000000 → vcall env (d + k + 1) 27 [.int .i64 (n : Nat)] lo H = some (str (Lib.decDigits n), H) := by
  intro k
  induction k with
  | zero =>
    intro d lo H n hn hm
    have h10 : n < 10 := by simpa using hn
    have hl : decide ((n : Int) < 10) = true := decide_eq_true (by omega)
    have w1 : IntKind.i64.wrap ((48 : Int) + (n : Int)) = ((48 + n : Nat) : Int) := by rw [wr (by omega) (by omega)]; omega
    have w2 := u8w n h10
    rw [Lib.decDigits, dif_pos h10, call_eq find27 _ _ _ rfl]
    have hb := one_byte (48 + n)
    simp -implicitDefEqProofs only [v27, VMs, noRef, noRef1, isRef, List.all_cons, List.all_nil, vop, VOp.still, VOp.app, VOp.plain, allP, lof, evs, start, asI, vbin, vcells, ntup, setAll, vfill, vress, vres, tup, Nat.reduceEqDiff, ↓reduceIte, Nat.reduceAdd, Nat.reduceMul, Nat.reduceLeDiff, reduceCtorEq, hl, w1, w2, scells, bytesOf, Option.map_some, hb, str, h10, z01]
  | succ k ih =>
    intro d lo H n hn hm
    by_cases h10 : n < 10
    · have hl : decide ((n : Int) < 10) = true := decide_eq_true (by omega)
      have w1 : IntKind.i64.wrap ((48 : Int) + (n : Int)) = ((48 + n : Nat) : Int) := by rw [wr (by omega) (by omega)]; omega
      have w2 := u8w n h10
      rw [Lib.decDigits, dif_pos h10, call_eq find27 _ _ _ rfl]
      have hb := one_byte (48 + n)
      simp -implicitDefEqProofs only [v27, VMs, noRef, noRef1, isRef, List.all_cons, List.all_nil, vop, VOp.still, VOp.app, VOp.plain, allP, lof, evs, start, asI, vbin, vcells, ntup, setAll, vfill, vress, vres, tup, Nat.reduceEqDiff, ↓reduceIte, Nat.reduceAdd, Nat.reduceMul, Nat.reduceLeDiff, reduceCtorEq, hl, w1, w2, scells, bytesOf, Option.map_some, hb, str, h10, z01]
    · have hl : decide ((n : Int) < 10) = false := decide_eq_false (by omega)
      have h0 : ((10 : Int) = 0) = False := eq_false (by omega)
      have hq : IntKind.i64.wrap ((n : Int).tdiv 10) = ((n / 10 : Nat) : Int) := by
        have : (n : Int).tdiv 10 = ((n / 10 : Nat) : Int) := rfl
        rw [this, wr (by omega) (by omega)]
      have hr : (n : Int).tmod 10 = ((n % 10 : Nat) : Int) := rfl
      have hlt := Nat.mod_lt n (show 0 < 10 by omega)
      have c : vcall env (d + (k + 1)) 27 [.int .i64 ((n / 10 : Nat) : Int)] 0 [] = some (str (Lib.decDigits (n / 10)), []) := ih d 0 [] (n / 10) (by rw [Nat.pow_succ] at hn; omega) (by omega)
      have w1 : IntKind.i64.wrap ((48 : Int) + ((n % 10 : Nat) : Int)) = ((48 + n % 10 : Nat) : Int) := by rw [wr (by omega) (by omega)]; omega
      have w2 := u8w (n % 10) hlt
      have hb := one_byte (48 + n % 10)
      have hsz : Lib.decDigits n = Lib.decDigits (n / 10) ++ [UInt8.ofNat (48 + n % 10)] := by
        conv => lhs; rw [Lib.decDigits]
        rw [dif_neg h10]
      have hlen : (Lib.decDigits (n / 10)).length ≤ 21 := by
        rw [← Lib.itoa_nonneg]
        exact Lib.itoa_length_le _ (by omega) (by omega)
      rw [hsz, call_eq find27 _ _ _ rfl]
      generalize Lib.decDigits (n / 10) = L at *
      have hfit : (L.length ≤ 999999) = True := eq_true (by omega)
      simp only [str] at c ⊢
      simp -implicitDefEqProofs only [v27, VMs, noRef, noRef1, isRef, List.all_cons, List.all_nil, vop, VOp.still, VOp.app, VOp.plain, allP, lof, evs, start, asI, vbin, vcells, ntup, setAll, vfill, vress, vres, tup, Nat.reduceEqDiff, ↓reduceIte, Nat.reduceAdd, Nat.reduceMul, Nat.reduceLeDiff, reduceCtorEq, hl, h0, hq, hr, vdr, scal, c, w1, w2, scells, bytesOf, Option.map_some, hb, z01, szB, apB, hfit]
theorem decimal_c (d lo : Nat) (H : Hp) (n : Nat) (hn : n ≤ 1000000) : vcall env (d + 2) 37 [.int .i64 (n : Nat)] lo H = some (str (Lib.decDigits n), H) := by
  have hN : vcall env (d + 1) 55 [.int .i64 (n : Nat), .int .i64 10] 0 [] = some (str (Lib.decDigits n), []) := by
    have hf : env.find 55 = none := by kernel_rfl
    have hi : nat 55 [.int .i64 (n : Nat), .int .i64 10] [] = some (str (Lib.decDigits n)) := by
      have h1 : (-9223372036854775808 : Int) ≤ (n : Int) ∧ (n : Int) ≤ 9223372036854775807 := by omega
      simp only [nat, natInt, Nat.reduceEqDiff, if_false, if_true, true_and, h1, and_self, Lib.itoa_nonneg, str]
    simp only [vcall, hf]
    rw [show env.nat = nat from rfl, hi]; rfl
  rw [call_eq find37 _ _ _ rfl]
  simp only [str] at hN ⊢
  simp -implicitDefEqProofs only [v37, VMs, noRef, noRef1, isRef, List.all_cons, List.all_nil, vop, VOp.still, VOp.app, VOp.plain, allP, lof, evs, start, asI, vbin, vcells, ntup, setAll, vfill, vress, vres, tup, Nat.reduceEqDiff, ↓reduceIte, Nat.reduceAdd, Nat.reduceMul, Nat.reduceLeDiff, reduceCtorEq, scal, hN]
end Go.Proofs.YtohanpndekfbgaaDoor.V
