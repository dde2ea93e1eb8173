-- The print's words, what of them is needed here (slimmed by a program of the worker's).
import Derived.Test.YtflddpkmajoeaaaWMore
namespace Go.Proofs.YtflddpkmajoeaaaW.PrintWords
open Go.RowKit Go.Proofs.YtflddpkmajoeaaaW.PrintLast
set_option linter.unusedVariables false
set_option linter.unusedSimpArgs false
section
variable {P : Program} {ops : Array Oper} {rest : List Oper} {o : Oper} {a : Act} {w W : World} {Q : Exit → Act → World → Prop}
theorem gate_callee_t {t : Tmp} {as : Array Operand} {ts : Array TypeId} (_ho : o.op = .call { callee := .value (.tmp t), args := as, argTypes := ts }) (h : wpList P ops Q (o :: rest) a W) : wpList P ops Q (o :: rest) a W := h
theorem goesT_ {oi : Oper} {t : Tmp} (N : Option Tmp) (hd : oi.dst = N) (hg : oi.guard = none) {f : FuncId} {fn : Func} {as : Array Operand} {ts : Array TypeId} (hf : P.funcs[f]? = some fn) (hname : (fn.name == "runtime.NumGoroutine") = false) (hb : fn.body.isSome = true) (args : Array Value) {caps : Array Value}
    (hop : oi.op = .call { callee := .value (.tmp t), args := as, argTypes := ts }) (hev : a.eval (.tmp t) = .func (.func f) #[] caps) (hargs : as.map a.eval ++ caps = args)
    (h : Calls P f args w fun e w' => ∃ v, e = .returned v ∧ wpList P ops Q rest (a.put N v) w') : wpList P ops Q (oi :: rest) a w := by
  refine wpList_plain hg fun K hK => ?_
  have he := enters_ hf hname hb args w
  have hrun : (execOp a.eval oi).run P w = .ok (.enter f args) w := by
    unfold execOp
    simp only [hop, resolve, hev]
    simp [Deferred.ofValue, invoke, hargs, he]
  unfold Oper.wp
  rw [hrun, Oper.upon_enter]
  refine h.mono fun e w'' hh => ?_
  obtain ⟨v, rfl, hk⟩ := hh
  subst hd
  exact hK _ _ hk
end
namespace Kd
section
variable {α β γ : Type} {d : Kd α} {w : World}
theorem C_elem {A : Addr} {n : Nat} {xs : List α} {z : α} {i : Int} (h : d.C w (some A) n xs) (h0 : 0 ≤ i) (h1 : i < (xs.length : Int)) : d.C w (some (A.add (i.toNat * d.sz))) 1 [xs.getD i.toNat z] := by
  have hn := h.1
  obtain ⟨ad, c, e, hc, hK, hcell⟩ := C_get h z i h0 (by omega)
  injection e with e
  subst e
  refine ⟨rfl, by omega, fun _ => ⟨_, rfl, fun j p hj => ?_⟩⟩
  have hj0 : j = 0 := by
    have := (List.getElem?_eq_some_iff.1 hj).1
    simpa using this
  subst hj0
  have hp : xs.getD i.toNat z = p := by simpa using hj
  subst hp
  refine ⟨c, hc, hK, fun k u hu => ?_⟩
  have := hcell k u hu
  rw [Nat.zero_mul, Nat.zero_add]
  have ha : (A.add (i.toNat * d.sz)).add k = A.add (i.toNat * d.sz + k) := by
    unfold Addr.add
    by_cases h1 : i.toNat * d.sz = 0 <;> by_cases h2 : k = 0 <;> simp [h1, h2, Nat.add_assoc]
  rw [ha]
  exact this
theorem C_box {g t : Nat} {cs : Array Value} {x : α} (hb : w.heap[g]? = some (.cells cs t (0, 0))) (hK : d.K w x cs.toList) : d.C w (some ⟨g, 0, none⟩) 1 [x] := by
  refine ⟨rfl, by omega, fun _ => ⟨_, rfl, fun j p hj => ?_⟩⟩
  have hj0 : j = 0 := by
    have := (List.getElem?_eq_some_iff.1 hj).1
    simpa using this
  subst hj0
  have hp : x = p := by simpa using hj
  subst hp
  refine ⟨cs.toList, d.K_len hK, hK, fun k u hu => ?_⟩
  rw [Nat.zero_mul, Nat.zero_add, PrintWords.add_plain, blk_cell hb k]
  simpa using hu
theorem C_first {d' : Kd β} {f : γ → α × β} {A : Option Addr} {n : Nat} {x : γ} (h : Kd.C (Kd.iso (Kd.pair d d') f) w A n [x]) : d.C w A n [(f x).1] := by
  obtain ⟨h0, h1, h2⟩ := h
  refine ⟨h0, h1, fun hn => ?_⟩
  obtain ⟨ad, e, hc⟩ := h2 hn
  refine ⟨ad, e, fun j p hj => ?_⟩
  have hj0 : j = 0 := by
    have := (List.getElem?_eq_some_iff.1 hj).1
    simpa using this
  subst hj0
  have hp : (f x).1 = p := by simpa using hj
  subst hp
  obtain ⟨c, hl, ⟨c0, c1, rfl, k0, k1⟩, hcell⟩ := hc 0 x rfl
  refine ⟨c0, d.K_len k0, k0, fun k u hu => ?_⟩
  have := hcell k u (by rw [List.getElem?_append_left (List.getElem?_eq_some_iff.1 hu).1]; exact hu)
  rw [Nat.zero_mul, Nat.zero_add] at this ⊢
  exact this
end
end Kd
end Go.Proofs.YtflddpkmajoeaaaW.PrintWords
