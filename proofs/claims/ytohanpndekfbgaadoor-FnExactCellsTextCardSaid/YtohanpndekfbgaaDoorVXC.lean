/- The text of a plain pool: the program's. -/
import Derived.Test.YtohanpndekfbgaaDoorVXB
namespace Go.Proofs.YtohanpndekfbgaaDoor.V
open Go
set_option linter.unusedVariables false
set_option linter.unusedSimpArgs false
set_option maxRecDepth 100000
/-- What is not in S is as before; a block of S may even be gone. -/
structure Fw (S : Nat → Prop) (H H' : Hp) : Prop where
  len : H.length ≤ H'.length
  blk : ∀ i, i < H.length → ¬ S i → H'.blk i = H.blk i
theorem Fr.w {S : Nat → Prop} {H H' : Hp} (h : Fr S H H') : Fw S H H' := ⟨h.len, h.blk⟩
theorem Fw.refl {S : Nat → Prop} {H : Hp} : Fw S H H := Fr.refl.w
theorem Fw.mono {S T : Nat → Prop} {H H' : Hp} (h : Fw S H H') (hst : ∀ i, S i → T i) : Fw T H H' := ⟨h.len, fun i hi ht => h.blk i hi fun hs => ht (hst i hs)⟩
theorem Fw.trans {S : Nat → Prop} {H H' H'' : Hp} (h : Fw S H H') (h' : Fw S H' H'') : Fw S H H'' :=
  ⟨Nat.le_trans h.len h'.len, fun i hi hs => (h'.blk i (Nat.lt_of_lt_of_le hi h.len) hs).trans (h.blk i hi hs)⟩
/-- Behind a step that may turn S, one that turns what S covers or what is new. -/
theorem Fw.then {S T : Nat → Prop} {H H' H'' : Hp} (h : Fw S H H') (h' : Fw T H' H'') (hT : ∀ i, T i → i < H.length → S i) : Fw S H H'' :=
  ⟨Nat.le_trans h.len h'.len, fun i hi hs => (h'.blk i (Nat.lt_of_lt_of_le hi h.len) fun ht => hs (hT i ht hi)).trans (h.blk i hi hs)⟩
theorem Fw.rd {S : Nat → Prop} {H H' : Hp} (h : Fw S H H') (i o : Nat) (hi : i < H.length) (hs : ¬ S i) : V.rd H' ⟨i, o, none⟩ = V.rd H ⟨i, o, none⟩ := by simp only [V.rd, h.blk i hi hs]
theorem Fw.rdN {S : Nat → Prop} {H H' : Hp} (h : Fw S H H') (i o n : Nat) (hi : i < H.length) (hs : ¬ S i) : V.rdN H' ⟨i, o, none⟩ n = V.rdN H ⟨i, o, none⟩ n := by simp only [V.rdN, h.blk i hi hs]
theorem Fw.fn {S : Nat → Prop} {H0 H H' : Hp} (h : Fw S H H') (h0 : Fn H0 H) (hS : ∀ i, S i → H0.length ≤ i) : Fn H0 H' :=
  have key : ∀ i, i < H0.length → H'.blk i = H0.blk i := fun i hi => (h.blk i (Nat.lt_of_lt_of_le hi h0.len) fun hs => by have := hS i hs; omega).trans (h0.blk i hi id)
  ⟨Nat.le_trans h0.len h.len, fun i hi _ => key i hi, fun lo i ⟨h1, b, h2, h3⟩ => ⟨h1, b, (key i (blk_lt h2)).trans h2, h3⟩⟩
theorem Fw.wb {S : Nat → Prop} {H H' : Hp} (h : Fw S H H') {lo i : Nat} (hw : WB lo H i) (hs : ¬ S i) : WB lo H' i := let ⟨h1, b, h2, h3⟩ := hw; ⟨h1, b, (h.blk i (blk_lt h2) hs).trans h2, h3⟩
theorem h30 : ((3 : Nat) == 0) = false := rfl
theorem h10 : ((1 : Nat) == 0) = false := rfl
def vS (l : List (List UInt8)) : List Value := l.map str
theorem vS_len (l : List (List UInt8)) : (vS l).length = l.length := List.length_map _
theorem strsOf_vS : ∀ l : List (List UInt8), strsOf (vS l) = some (l.map fun x => ⟨x.toArray⟩)
  | [] => rfl
  | x :: l => by
    have := strsOf_vS l
    simp only [vS, List.map_cons, str, strsOf] at this ⊢
    rw [this]; rfl
theorem join_c (d lo : Nat) (H : Hp) {i n : Nat} {L : List (List UInt8)} {k0 : Bool} (hb : H.blk i = some ⟨vS L, true, k0⟩) (hl : L.length = n) (hn : 0 < n) (hn2 : n ≤ 100000) (hlen : (Lib.join L [32]).length ≤ 1000000) :
    vcall env (d + 1) 38 [.slice (some ⟨i, 0, none⟩) n 1, .string ⟨#[32]⟩] lo H = some (.string ⟨(Lib.join L [32]).toArray⟩, H) := by
  have hf : env.find 38 = none := by kernel_rfl
  have hc : scells H 1 (.slice (some ⟨i, 0, none⟩) n 1) = some (vS L) := by
    rw [scells, if_neg (by omega), if_pos rfl]
    simp only [rdN, hb, Option.bind_some, Nat.mul_one, Nat.zero_add, List.drop_zero]
    rw [if_pos (by rw [vS_len]; omega), List.take_of_length_le (by rw [vS_len]; omega)]
  have hm : (L.map fun x => (⟨x.toArray⟩ : ByteArray)).map (·.data.toList) = L := by
    rw [List.map_map]
    conv => rhs; rw [← List.map_id L]
    rfl
  have hi : nat 38 [.slice (some ⟨i, 0, none⟩) n 1, .string ⟨#[32]⟩] H = some (.string ⟨(Lib.join L [32]).toArray⟩) := by
    have h1 : 0 < n ∧ n ≤ 100000 := ⟨hn, hn2⟩
    simp only [nat, natJoin, if_true, h1, and_self, hc, Option.bind_some, strsOf_vS, hm]
    rw [if_pos hlen]
  simp only [vcall, hf]
  rw [show env.nat = nat from rfl, hi]; rfl
theorem join_line (v : Vo) (cs : List Vo) : Lib.join ([118, 111, 108] :: dgB v.i :: dgB v.q :: (own cs v.i).map wordB) [32] = headB v ++ cellsB (own cs v.i) := by
  rw [Lib.join_cons]
  unfold Lib.joinTail headB cellsB
  simp [Function.comp_def]
set_option maxHeartbeats 8000000 in
theorem cellsText_c (d lo : Nat) (H : Hp) {av nv ac nc az nz} {p : Pl} (h : RL H av nv ac nc az nz p) (hx : Ex H ac) (g : LG p) :
    vcall env (d + 5) 19 [.agg #[.int .i64 p.b, .slice av nv (sg av 3), .slice ac nc (sg ac 3), .slice az nz (sg az 1)]] lo H = some (str (textB p.v p.c), H) := by
  have n1 := h.v.1
  have n2 := h.c.1
  have gv := g.v
  have gc := g.c
  obtain ⟨HB, hHB⟩ : ∃ HB : Hp, HB = H ++ [some ⟨[.int .i64 p.b, .slice av nv (sg av 3), .slice ac nc (sg ac 3), .slice az nz (sg az 1)], true, false⟩] := ⟨_, rfl⟩
  have fB : Fn H HB := hHB ▸ Fr.app
  have lB : HB.length = H.length + 1 := by rw [hHB]; simp
  have bB : HB.blk H.length = some ⟨[.int .i64 p.b, .slice av nv (sg av 3), .slice ac nc (sg ac 3), .slice az nz (sg az 1)], true, false⟩ := by rw [hHB]; exact blk0
  have hloop : ∃ r, lim (rnd (vcall env (d + 4)) H.length [1, 3, 10, 11, 12] [2, 3] l19_1) [(1, .pointer (some ⟨H.length, 0, none⟩)), (3, .string ⟨#[]⟩), (10, .slice av nv (sg av 3)), (11, .int .i64 (nv : Nat)), (12, .int .i64 0)] HB = some r ∧
      ∃ X, r = (.exit 0, [(3, .string ⟨(textB p.v p.c).toArray⟩)], X) := by
    refine lim_inv (fun i ts X => ts = [(1, .pointer (some ⟨H.length, 0, none⟩)), (3, .string ⟨(textB (p.v.take i) p.c).toArray⟩), (10, .slice av nv (sg av 3)), (11, .int .i64 (nv : Nat)), (12, .int .i64 (i : Nat))] ∧ Fn HB X) nv ?_ ?_ ?_
    · rintro i ts X hi ⟨rfl, fX⟩
      have hil : i < p.v.length := by omega
      have hiw : IntKind.i64.wrap ((i : Int) + 1) = ((i + 1 : Nat) : Int) := by rw [wr (by omega) (by omega)]; rfl
      obtain ⟨v1, v2, rfl, ev⟩ := ((h.v.fnV fB).fnV fX).at hil
      have gvi := g.vi _ (List.getElem_mem hil)
      have htl := textB_len g (p.v.take i) (fun x hx => List.mem_of_mem_take hx)
      rw [List.length_take] at htl
      have hll := cellsB_len (own p.c p.v[i].i) (fun x hx => g.ci x (own_mem hx))
      have hol := own_le p.c p.v[i].i
      rw [textB_take hil]
      generalize p.v[i] = v at *
      have ev0 := ev.val
      have lX := fX.len
      have q1 : rd X ⟨H.length, 2, none⟩ = some (.slice ac nc (sg ac 3)) := by rw [fX.rd _ _ (by omega) id]; simp [rd, bB]
      have d1 := dec_c (d + 2) 0 [] (n := v.i) (by omega) (by omega)
      have d2 := dec_c (d + 2) 0 [] (n := v.q) (by omega) (by omega)
      -- the words
      obtain ⟨Y, hY⟩ : ∃ Y : Hp, Y = X ++ [some ⟨[.int .i64 v.i, .int .i64 v.q, .int .i64 v.r], true, false⟩, some ⟨vS [[118, 111, 108], dgB v.i, dgB v.q], true, false⟩] := ⟨_, rfl⟩
      have fY : Fn X Y := hY ▸ Fr.app
      have lY : Y.length = X.length + 2 := by rw [hY]; simp
      have bW : Y.blk (X.length + 1) = some ⟨vS [[118, 111, 108], dgB v.i, dgB v.q], true, false⟩ := by rw [hY]; exact blkn 1
      have FY : Fn H Y := fB.trans (fX.trans fY)
      obtain ⟨b, Z, c3, fZ, rZ⟩ := cellsOf_c d H.length Y ((((h.c.fnV fB).fnV fX).fnV fY)) (hx.fn FY) (by omega) v.i
      have lZ := fZ.len
      have bWZ := (fZ.blk _ (blk_lt bW) id).trans bW
      obtain ⟨m, hm⟩ : ∃ m : Nat, m = (own p.c v.i).length := ⟨_, rfl⟩
      rw [← hm] at c3 rZ
      obtain ⟨W0, hW0⟩ : ∃ W0 : Nat, W0 = X.length + 1 := ⟨_, rfl⟩
      have q2 : rd Y ⟨H.length, 2, none⟩ = some (.slice ac nc (sg ac 3)) := by rw [fY.rd _ _ (by omega) id]; exact q1
      have hinner : ∃ r, lim (rnd (vcall env (d + 4)) H.length [1, 3, 6, 10, 11, 12, 27, 28, 29] [1, 2, 3, 6, 10, 11, 12] l19_0) [(1, .pointer (some ⟨H.length, 0, none⟩)), (3, .string ⟨(textB (p.v.take i) p.c).toArray⟩), (6, .slice (some ⟨W0, 0, none⟩) 3 1), (10, .slice (some ⟨v1, v2, none⟩) nv 3), (11, .int .i64 (nv : Nat)), (12, .int .i64 (i : Nat)), (27, .slice b m (sg b 3)), (28, .int .i64 (m : Nat)), (29, .int .i64 0)] Z = some r ∧
          ∃ X' wi k0, r = (.exit 2, [(1, .pointer (some ⟨H.length, 0, none⟩)), (3, .string ⟨(textB (p.v.take i) p.c).toArray⟩), (6, .slice (some ⟨wi, 0, none⟩) (3 + m) 1), (10, .slice (some ⟨v1, v2, none⟩) nv 3), (11, .int .i64 (nv : Nat)), (12, .int .i64 (i : Nat))], X') ∧ Fw (· = W0) Z X' ∧ X'.blk wi = some ⟨vS ([118, 111, 108] :: dgB v.i :: dgB v.q :: (own p.c v.i).map wordB), true, k0⟩ := by
        refine lim_inv (fun j ts X' => ∃ wi, ts = [(1, .pointer (some ⟨H.length, 0, none⟩)), (3, .string ⟨(textB (p.v.take i) p.c).toArray⟩), (6, .slice (some ⟨wi, 0, none⟩) (3 + j) 1), (10, .slice (some ⟨v1, v2, none⟩) nv 3), (11, .int .i64 (nv : Nat)), (12, .int .i64 (i : Nat)), (27, .slice b m (sg b 3)), (28, .int .i64 (m : Nat)), (29, .int .i64 (j : Nat))] ∧ Fw (· = W0) Z X' ∧ X'.blk wi = some ⟨vS ([118, 111, 108] :: dgB v.i :: dgB v.q :: ((own p.c v.i).take j).map wordB), true, false⟩ ∧ W0 ≤ wi ∧ (wi = W0 ∨ Z.length ≤ wi)) m ?_ ?_ ?_
        · rintro j ts X' hj ⟨wi, rfl, fX', bX', hwi, hor⟩
          have hjl : j < (own p.c v.i).length := by omega
          have hjw : IntKind.i64.wrap ((j : Int) + 1) = ((j + 1 : Nat) : Int) := by rw [wr (by omega) (by omega)]; rfl
          have gcj := g.ci _ (own_mem (List.getElem_mem hjl))
          have hjm : j < m := hj
          obtain ⟨c1, c2, rfl, ec⟩ := rZ.at hjl
          have lX' := fX'.len
          have hne : c1 ≠ W0 := fun e => by
            have := ec.1
            rw [e, hW0] at this
            simp only [rd, bWZ, Option.bind_some, vS, List.map_cons, List.map_nil, str] at this
            rcases hk : c2 + j * 3 with _ | _ | _ | k <;> rw [hk] at this <;> simp at this
          have hcl := rd_lt ec.1
          have ec0 : rdN X' ⟨c1, c2 + j * 3, none⟩ 3 = some [.int .i64 ((own p.c v.i)[j]).i, .int .i64 ((own p.c v.i)[j]).q, .int .i64 ((own p.c v.i)[j]).r] := (fX'.rdN _ _ _ hcl hne).trans ec.val
          have hmap : ((own p.c v.i).take (j + 1)).map wordB = ((own p.c v.i).take j).map wordB ++ [wordB (own p.c v.i)[j]] := by
            rw [List.take_succ_eq_append_getElem hjl, List.map_append]; rfl
          rw [hmap]
          have hLl : ((own p.c v.i).take j).length = j := by rw [List.length_take]; omega
          generalize (own p.c v.i)[j] = c at *
          obtain ⟨L, hL⟩ : ∃ L, L = [118, 111, 108] :: dgB v.i :: dgB v.q :: ((own p.c v.i).take j).map wordB := ⟨_, rfl⟩
          have hLlen : L.length = 3 + j := by rw [hL]; simp [hLl]; omega
          have hLL : ([118, 111, 108] : List UInt8) :: dgB v.i :: dgB v.q :: (((own p.c v.i).take j).map wordB ++ [wordB c]) = L ++ [wordB c] := by rw [hL]; rfl
          rw [hLL]
          rw [← hL] at bX'
          have e1 := dec_c (d + 2) 0 [] gcj.1.1 (show c.q ≤ 255 by omega)
          have e2 := dec_c (d + 2) 0 [] gcj.2.1 gcj.2.2
          have m1 := dgB_len gcj.1.1 (by omega)
          have m2 := dgB_len gcj.2.1 (by omega)
          have hwd : wordB c = (dgB c.q ++ [58]) ++ dgB c.r := rfl
          obtain ⟨D1, hD1⟩ : ∃ D1, D1 = dgB c.q := ⟨_, rfl⟩
          obtain ⟨D2, hD2⟩ : ∃ D2, D2 = dgB c.r := ⟨_, rfl⟩
          rw [← hD1, ← hD2] at hwd
          rw [← hD1] at e1 m1
          rw [← hD2] at e2 m2
          obtain ⟨E1, hE1⟩ : ∃ E1, E1 = D1 ++ [58] := ⟨_, rfl⟩
          have mE : E1.length = D1.length + 1 := by rw [hE1]; simp
          rw [← hE1] at hwd
          replace hE1 := hE1.symm
          have s1 : (D1.length ≤ 999999) = True := eq_true (by omega)
          have s2 : (E1.length + D2.length ≤ 1000000) = True := eq_true (by omega)
          obtain ⟨wd, hwd2⟩ : ∃ wd, wd = wordB c := ⟨_, rfl⟩
          rw [← hwd2] at hwd ⊢
          obtain ⟨G, hG⟩ : ∃ G : Hp, G = X' ++ [some ⟨[.int .i64 c.i, .int .i64 c.q, .int .i64 c.r], true, false⟩, some ⟨[.string ⟨wd.toArray⟩], true, false⟩] := ⟨_, rfl⟩
          have fG : Fn X' G := hG ▸ Fr.app
          have lG : G.length = X'.length + 2 := by rw [hG]; simp
          have bG := (fG.blk _ (blk_lt bX') id).trans bX'
          obtain ⟨G2, ha, hb2, hl2, _, ho2⟩ := app_own (st := 1) (by_ := 16) (lo := H.length) (i := wi) (n := 3 + j) (m := 1) (M := [.string ⟨wd.toArray⟩]) (y := .slice (some ⟨X'.length + 1, 0, none⟩) 1 1) bG (by rw [vS_len, hLlen, Nat.mul_one]) (fun e => by omega) (by omega) rfl (by rw [hG]; simp [scells, rdNk]) (by omega) (fits_small (by omega))
          have fw : Fw (· = wi) G G2 := ⟨by omega, fun j hj hs => ho2 j hs hj⟩
          have hlX' : (H.length ≤ X'.length) = True := eq_true (by omega)
          refine ⟨_, G2, ?_, G.length, by rw [← Nat.add_assoc], ?_, by rw [hb2, hwd2]; simp [vS, str], by omega, Or.inr (by omega)⟩
          · subst hG
            simp only [str] at e1 e2
            simp only [sgs, List.length_append, List.length_cons, List.length_nil, Nat.zero_add, Nat.reduceAdd] at ha
            simp -implicitDefEqProofs only [rnd, l19_0, VMs, noRef, noRef1, isRef, List.all_cons, List.all_nil, vop, VOp.still, VOp.app, VOp.plain, allP, lof, evs, start, asI, vbin, vcells, ntup, setAll, vfill, vress, vres, tup, Nat.reduceEqDiff, ↓reduceIte, Nat.reduceAdd, Nat.reduceMul, Nat.reduceLeDiff, reduceCtorEq, vdr, sgs, ltc hjm, ge0, decide_true, Int.toNat_natCast, ec0, scal, e1, e2, szB, apB, hE1, s1, s2, ← hwd, h10, hlX', ha, hjw]
          · exact (fX'.trans (fG.w.mono fun _ => False.elim)).then fw (fun j e hj => by omega)
        · rintro ts X' ⟨wi, rfl, fX', bX', hwi, hor⟩
          rw [hm, List.take_length] at bX'
          exact ⟨_, by simp -implicitDefEqProofs only [rnd, l19_0, VMs, noRef, noRef1, isRef, List.all_cons, List.all_nil, vop, VOp.still, VOp.app, VOp.plain, allP, lof, evs, start, asI, vbin, vcells, ntup, setAll, vfill, vress, vres, tup, Nat.reduceEqDiff, ↓reduceIte, Nat.reduceAdd, Nat.reduceMul, Nat.reduceLeDiff, reduceCtorEq, Int.lt_irrefl, decide_false], by simp, X', wi, false, rfl, fX', bX'⟩
        · exact ⟨W0, rfl, Fw.refl, by rw [hW0, bWZ]; simp [vS], Nat.le_refl _, Or.inl rfl⟩
      obtain ⟨_, hl, X', wi, k0, rfl, fX', bX'⟩ := hinner
      have hjl := join_line v p.c
      have hh := headB_len gvi
      have c4 := join_c (d + 3) H.length X' (n := 3 + m) bX' (by simp [hm]; omega) (by omega) (by omega) (by rw [hjl, List.length_append]; omega)
      rw [hjl] at c4
      obtain ⟨J, hJ⟩ : ∃ J, J = headB v ++ cellsB (own p.c v.i) := ⟨_, rfl⟩
      have mJ : J.length ≤ 47 + 44 * 96 := by rw [hJ, List.length_append]; omega
      have hlb : lineB v p.c = J ++ [10] := by rw [hJ]; rfl
      rw [← hJ] at c4
      rw [hlb]
      obtain ⟨T, hT⟩ : ∃ T, T = textB (p.v.take i) p.c := ⟨_, rfl⟩
      rw [← hT] at hl htl ⊢
      obtain ⟨J1, hJ1⟩ : ∃ J1, J1 = J ++ [10] := ⟨_, rfl⟩
      have mJ1 : J1.length = J.length + 1 := by rw [hJ1]; simp
      rw [← hJ1]
      have s1 : (J.length ≤ 999999) = True := eq_true (by omega)
      have s2 : (T.length + J1.length ≤ 1000000) = True := eq_true (by omega)
      replace hJ1 := hJ1.symm
      have hlX : (H.length ≤ X.length) = True := eq_true (by omega)
      refine ⟨_, X', ?_, by rfl, fX'.fn (fX.trans (fY.trans fZ)) (fun j e => by omega)⟩
      subst hW0
      subst hY
      simp only [str] at d1 d2
      simp only [vS, List.map_cons, List.map_nil, str] at c3 q2
      simp -implicitDefEqProofs only [rnd, l19_1, VMs, noRef, noRef1, isRef, List.all_cons, List.all_nil, vop, VOp.still, VOp.app, VOp.plain, allP, lof, evs, start, asI, vbin, vcells, ntup, setAll, vfill, vress, vres, tup, Nat.reduceEqDiff, ↓reduceIte, Nat.reduceAdd, Nat.reduceMul, Nat.reduceLeDiff, reduceCtorEq, vdr, sgs, ltc hi, ge0, decide_true, Int.toNat_natCast, ev0, scal, d1, d2, h30, q2, c3, slen, vlp, hl, c4, szB, apB, hJ1, s1, s2, hiw, hlX]
    · rintro ts X ⟨rfl, fX⟩
      rw [n1, List.take_length]
      exact ⟨_, by simp -implicitDefEqProofs only [rnd, l19_1, VMs, noRef, noRef1, isRef, List.all_cons, List.all_nil, vop, VOp.still, VOp.app, VOp.plain, allP, lof, evs, start, asI, vbin, vcells, ntup, setAll, vfill, vress, vres, tup, Nat.reduceEqDiff, ↓reduceIte, Nat.reduceAdd, Nat.reduceMul, Nat.reduceLeDiff, reduceCtorEq, Int.lt_irrefl, decide_false], by simp, X, rfl⟩
    · exact ⟨by simp [textB], Fr.refl⟩
  obtain ⟨_, hl, X, rfl⟩ := hloop
  subst hHB
  rw [call_eq find19 _ _ _ rfl]
  simp -implicitDefEqProofs only [v19, VMs, noRef, noRef1, isRef, List.all_cons, List.all_nil, vop, VOp.still, VOp.app, VOp.plain, allP, lof, evs, start, asI, vbin, vcells, ntup, setAll, vfill, vress, vres, tup, Nat.reduceEqDiff, ↓reduceIte, Nat.reduceAdd, Nat.reduceMul, Nat.reduceLeDiff, reduceCtorEq, slen, vlp, hl, str]
end Go.Proofs.YtohanpndekfbgaaDoor.V
