/- A region that draws its order: in whatever order its operations come, the program comes to what the machine computes in the order of the text. -/
import Derived.Test.YtflddpkmajoeaaaVMG
namespace Go.Proofs.Ytflddpkmajoeaaa.V
open Go
set_option linter.unusedVariables false
set_option linter.unusedSimpArgs false

def optA : Option Arg → List Arg
  | none => []
  | some x => [x]
def VOp.args : VOp → List Arg
  | .mv x | .box x | .nilck x | .snil _ x | .not x | .conv _ x | .faddr _ x | .field _ _ _ x | .ext _ x | .len x | .clear _ _ x | .load _ _ x => [x]
  | .pick c a b => [c, a, b]
  | .new _ => []
  | .build _ ps | .bslice _ _ _ ps => ps.map (·.2.2)
  | .store _ a x => [a, x]
  | .bin _ x y | .beq _ x y | .iaddr _ x y | .append _ _ x y | .copy _ x y | .mx x y | .mn x y => [x, y]
  | .mkfn _ cap => cap
  | .mkslice _ _ _ l c => [l, c]
  | .slice _ x lo hi m => x :: (optA lo ++ optA hi ++ optA m)
  | .call _ args => args
  | .callv x args => x :: args
def tmpsA (l : List Arg) : List Nat := l.filterMap fun | .t n => some n | .c _ => none
def VO.looks (o : VO) : List Nat := tmpsA o.o.args ++ (match o.g with | some (t, _) => [t] | none => [])

theorem evs_congr {ts ts' : Ts} : ∀ {l : List Arg}, (∀ x ∈ l, ev ts x = ev ts' x) → evs ts l = evs ts' l
  | [], _ => rfl
  | x :: l, h => by simp only [evs]; rw [h x (by simp), evs_congr (fun y hy => h y (by simp [hy]))]
theorem vfill_congr {ts ts' : Ts} : ∀ {ps : List (Nat × Nat × Arg)} {cs : List Value}, (∀ x ∈ ps.map (·.2.2), ev ts x = ev ts' x) → vfill cs ts ps = vfill cs ts' ps
  | [], _, _ => rfl
  | (o, n, x) :: ps, cs, h => by
    simp only [vfill]
    rw [h x (by simp)]
    congr 1; funext v
    split
    · exact vfill_congr (fun y hy => h y (by simp only [List.map_cons, List.mem_cons]; exact .inr hy))
    · rfl
theorem vop_congr {call : Cal} {lo : Nat} {ts ts' : Ts} {H : Hp} {op : VOp} (h : ∀ x ∈ op.args, ev ts x = ev ts' x) : vop call lo ts H op = vop call lo ts' H op := by
  cases op <;> simp only [VOp.args] at h <;> simp only [vop]
  case build z ps => rw [vfill_congr h]
  case bslice st z n ps => rw [vfill_congr h]
  case mkfn f cap => rw [evs_congr h]
  case call f args => rw [evs_congr h]
  case callv x args => rw [h x (by simp), evs_congr (fun y hy => h y (by simp [hy]))]
  case pick c a b =>
    rw [h c (by simp)]
    congr 1; funext v
    cases v <;> try rfl
    rename_i t
    cases t
    · simp only [Bool.false_eq_true, if_false]; rw [h b (by simp)]
    · simp only [if_true]; rw [h a (by simp)]
  case slice st x lo' hi mx =>
    rw [h x (by simp)]
    congr 1; funext v
    cases lo' <;> cases hi <;> cases mx <;> simp only [optA, List.nil_append, List.append_nil, List.singleton_append, List.mem_cons, List.not_mem_nil, or_false, forall_eq_or_imp, forall_eq, List.cons_append] at h <;> simp only [h]
  all_goals (try simp only [List.mem_cons, List.not_mem_nil, or_false, forall_eq_or_imp, forall_eq] at h)
  all_goals (try simp only [h])

theorem rd_keep {H G : Hp} (h : ∀ i, i < H.length → G[i]? = H[i]?) {a : Addr} {v : Value} (hr : rd H a = some v) : rd G a = some v := by
  unfold rd at hr ⊢
  have hb : G.blk a.block = H.blk a.block := by
    unfold Hp.blk
    by_cases hl : a.block < H.length
    · rw [h _ hl]
    · have : H.blk a.block = none := by unfold Hp.blk; rw [List.getElem?_eq_none (by omega)]; rfl
      rw [this] at hr; cases hr
  rw [hb]; exact hr
theorem rdN_keep {H G : Hp} (h : ∀ i, i < H.length → G[i]? = H[i]?) {a : Addr} {n : Nat} {v : List Value} (hr : rdN H a n = some v) : rdN G a n = some v := by
  unfold rdN at hr ⊢
  have hb : G.blk a.block = H.blk a.block := by
    unfold Hp.blk
    by_cases hl : a.block < H.length
    · rw [h _ hl]
    · have : H.blk a.block = none := by unfold Hp.blk; rw [List.getElem?_eq_none (by omega)]; rfl
      rw [this] at hr; cases hr
  rw [hb]; exact hr
theorem vop_still {call : Cal} {lo lo' : Nat} {ts : Ts} {H H1 G : Hp} {op : VOp} {v : Value} (hst : op.still = true) (hv : vop call lo ts H op = some (v, H1)) (h : ∀ i, i < H.length → G[i]? = H[i]?) : vop call lo' ts G op = some (v, G) := by
  cases op <;> simp only [VOp.still, Bool.false_eq_true] at hst <;> simp only [vop] at hv ⊢
  case load g n x =>
    simp only [Option.bind_eq_some_iff] at hv ⊢
    obtain ⟨p, hp, hv⟩ := hv
    refine ⟨p, hp, ?_⟩
    cases p <;> try (cases hv; done)
    rename_i a
    cases a <;> try (cases hv; done)
    simp only at hv ⊢
    split at hv
    · simp only [Option.bind_eq_some_iff, Option.some.injEq, Prod.mk.injEq] at hv
      obtain ⟨cs, hcs, rfl, rfl⟩ := hv
      rw [if_pos ‹_›, rdN_keep h hcs]; rfl
    · simp only [Option.bind_eq_some_iff, Option.some.injEq, Prod.mk.injEq] at hv
      obtain ⟨cs, hcs, rfl, rfl⟩ := hv
      rw [if_neg ‹_›, rd_keep h hcs]; rfl
  case pick c a b =>
    simp only [Option.bind_eq_some_iff] at hv ⊢
    obtain ⟨p, hp, hv⟩ := hv
    refine ⟨p, hp, ?_⟩
    cases p <;> try (cases hv; done)
    simp only [Option.bind_eq_some_iff, Option.some.injEq, Prod.mk.injEq] at hv ⊢
    obtain ⟨u, hu, rfl, rfl⟩ := hv
    exact ⟨u, hu, rfl, trivial⟩
  case field g o n x =>
    simp only [Option.bind_eq_some_iff] at hv ⊢
    obtain ⟨p, hp, hv⟩ := hv
    refine ⟨p, hp, ?_⟩
    cases p <;> try (cases hv; done)
    simp only at hv ⊢
    split at hv
    · rw [if_pos ‹_›]
      split at hv
      · rw [if_pos ‹_›]; cases hv; rfl
      · cases hv
    · rw [if_neg ‹_›]
      simp only [Option.bind_eq_some_iff, Option.some.injEq, Prod.mk.injEq] at hv ⊢
      obtain ⟨u, hu, rfl, rfl⟩ := hv
      exact ⟨u, hu, rfl, trivial⟩
  case ext i x =>
    simp only [Option.bind_eq_some_iff] at hv ⊢
    obtain ⟨p, hp, hv⟩ := hv
    refine ⟨p, hp, ?_⟩
    cases p <;> try (cases hv; done)
    simp only [Option.bind_eq_some_iff, Option.some.injEq, Prod.mk.injEq] at hv ⊢
    obtain ⟨u, hu, rfl, rfl⟩ := hv
    exact ⟨u, hu, rfl, trivial⟩
  case mx x y =>
    simp only [Option.bind_eq_some_iff] at hv ⊢
    obtain ⟨p, hp, q, hq, hv⟩ := hv
    refine ⟨p, hp, q, hq, ?_⟩
    cases p <;> try (cases hv; done)
    cases q <;> try (cases hv; done)
    simp only at hv ⊢
    split at hv
    · rw [if_pos ‹_›]; cases hv; rfl
    · cases hv
  case mn x y =>
    simp only [Option.bind_eq_some_iff] at hv ⊢
    obtain ⟨p, hp, q, hq, hv⟩ := hv
    refine ⟨p, hp, q, hq, ?_⟩
    cases p <;> try (cases hv; done)
    cases q <;> try (cases hv; done)
    simp only at hv ⊢
    split at hv
    · rw [if_pos ‹_›]; cases hv; rfl
    · cases hv
  all_goals
    simp only [Option.bind_eq_some_iff] at hv ⊢
    first
    | (obtain ⟨x, hx, hv⟩ := hv; refine ⟨x, hx, ?_⟩; (repeat' split at hv) <;> simp_all; done)
    | (obtain ⟨x, hx, y, hy, hv⟩ := hv; refine ⟨x, hx, y, hy, ?_⟩; (repeat' split at hv) <;> simp_all; done)
    | (obtain ⟨x, hx, y, hy, z, hz, hv⟩ := hv; refine ⟨x, hx, y, hy, z, hz, ?_⟩; (repeat' split at hv) <;> simp_all; done)
    | skip
end Go.Proofs.Ytflddpkmajoeaaa.V
