import Derived.Test.YtmjjfchahkdceaaDoorCJ
import Derived.Test.YtmjjfchahkdceaaDoorGD
set_option linter.unusedVariables false
set_option linter.unusedSimpArgs false
set_option maxRecDepth 100000
set_option maxHeartbeats 1000000
namespace Go.Proofs.YtmjjfchahkdceaaDoor
open Go.Ab
variable {h : Heap} {K : Kt}
def wb : List UInt8 := [9, 0, 0, 0, 5, 0, 1, 8, 0, 0, 0, 0, 0]
abbrev wR : Hd := ⟨1, false, 0, 0, 0, 0, 0, 0⟩
abbrev wS : Hd := ⟨1, false, 0, 0, 0, 0, 12, 13⟩
theorem unitAll_len : ∀ (f : Nat) (c : Cur) (acc : List Hd), acc.length ≤ 60 → (unitAll f c acc).1.length ≤ 60
  | 0, _, _, h => h
  | f + 1, c, acc, h => by
    unfold unitAll
    split
    · exact h
    · split
      · simp
      · split
        · simp
        · exact unitAll_len f _ _ (by simp; omega)
theorem uR_len {t : List UInt8} : (uR t).1.length ≤ 60 := unitAll_len _ _ _ (by simp)
theorem works15_ok (hK : ∀ h', Keeps h h' → K.K (Bo true) h') : ACall X 6 [] h K := by
  apply i6
  (simp +contextual -dsimp only [R6, evA, evB, ↓a_on_t, ↓a_on_f, ↓a_on_und, ↓a_cond_b, ↓reduceIte, Go.Ab.part, List.getD_cons_zero, List.getD_cons_succ, List.set_cons_zero, List.set_cons_succ, List.length_cons, List.length_nil, List.cons_append, List.nil_append, cond_true, cond_false, Bool.cond_true, reduceCtorEq, Option.map_some, Option.map_none, forall_const, ne_eq, implies_true, Nat.reduceAdd, Nat.reduceLeDiff, Nat.reduceLT, Nat.beq, Option.isNone_none, beq_self_eq_true, bne_self_eq_false, Int.reduceBEq, Int.reduceBNe, Int.reduceLT, Int.reduceLE, Int.reduceGT, Int.reduceGE, Int.reduceEq, Int.reduceNe, Int.reduceToNat, List.take_zero, List.drop_zero, List.all_cons, List.all_nil, List.append_nil, List.length_append, List.length_set, List.append_assoc, List.drop_nil, List.take_nil, fill, setAt] <;> try simp -dsimp only [if_conj])
  have k0 : Keeps h (h ++ [.o 1 (byt [0])]) := Keeps.adds Adds.mk
  refine Put15_ok (R := wR) (m := [0]) (by decide) (IsB.s (hget_new (h := h) (l := []) (o := .o 1 (byt [0])))) fun h1 r k1 i1 _ => ?_
  have e0 : uPut wR [0] = (wb, 0) := by rfl
  rw [e0] at i1 ⊢
  (simp +contextual -dsimp only [R6, evA, evB, ↓a_on_t, ↓a_on_f, ↓a_on_und, ↓a_cond_b, ↓reduceIte, Go.Ab.part, List.getD_cons_zero, List.getD_cons_succ, List.set_cons_zero, List.set_cons_succ, List.length_cons, List.length_nil, List.cons_append, List.nil_append, cond_true, cond_false, Bool.cond_true, reduceCtorEq, Option.map_some, Option.map_none, forall_const, ne_eq, implies_true, Nat.reduceAdd, Nat.reduceLeDiff, Nat.reduceLT, Nat.beq, Option.isNone_none, beq_self_eq_true, bne_self_eq_false, Int.reduceBEq, Int.reduceBNe, Int.reduceLT, Int.reduceLE, Int.reduceGT, Int.reduceGE, Int.reduceEq, Int.reduceNe, Int.reduceToNat, List.take_zero, List.drop_zero, List.all_cons, List.all_nil, List.append_nil, List.length_append, List.length_set, List.append_assoc, List.drop_nil, List.take_nil] <;> try simp -dsimp only [if_conj])
  refine uAll_ok (t := wb) (by decide) i1 fun h2 r2 k2 i2 => ?_
  have e1 : uR wb = ([wS], 0) := by rfl
  rw [e1] at i2 ⊢
  rcases i2 with ⟨_, hn⟩ | ⟨id, rfl, g2⟩
  · cases hn
  have s1 := fun K => (i1.keeps k2).cstr (K := K)
  have d1 : decide (mkStr wb = ⟨#[9, 0, 0, 0, 5, 0, 1, 8, 0, 0, 0, 0, 0]⟩) = true := decide_eq_true rfl
  have i2 : IsR Hd.row 8 [wS] (.s id 0 [wS].length) h2 := .inr ⟨id, rfl, g2⟩
  have g2 : h2.getD id .dead = .o 8 [I 1, Bo false, U 0, U 0, U 0, U 0, U 12, U 13] := g2
  have d2 : (((1 : Nat) : Int) == 1) = true := rfl
  have d3 : ((0 : Int) < ((1 : Nat) : Int)) = True := by simp
  (simp +contextual -dsimp only [R6, evA, evB, ↓a_on_t, ↓a_on_f, ↓a_on_und, ↓a_cond_b, ↓reduceIte, Go.Ab.part, List.getD_cons_zero, List.getD_cons_succ, List.set_cons_zero, List.set_cons_succ, List.length_cons, List.length_nil, List.cons_append, List.nil_append, cond_true, cond_false, Bool.cond_true, reduceCtorEq, Option.map_some, Option.map_none, forall_const, ne_eq, implies_true, Nat.reduceAdd, Nat.reduceLeDiff, Nat.reduceLT, Nat.beq, Option.isNone_none, beq_self_eq_true, bne_self_eq_false, Int.reduceBEq, Int.reduceBNe, Int.reduceLT, Int.reduceLE, Int.reduceGT, Int.reduceGE, Int.reduceEq, Int.reduceNe, Int.reduceToNat, List.take_zero, List.drop_zero, List.all_cons, List.all_nil, List.append_nil, List.length_append, List.length_set, List.append_assoc, List.drop_nil, List.take_nil, s1, d1, g2, d2, d3] <;> try simp -dsimp only [if_conj])
  refine uOf_ok (l := [wS]) (o := 12) (by decide) i2 fun h3 k3 => ?_
  rw [show ofU 0 [wS] 12 = 0 from rfl]
  (simp +contextual -dsimp only [R6, evA, evB, ↓a_on_t, ↓a_on_f, ↓a_on_und, ↓a_cond_b, ↓reduceIte, Go.Ab.part, List.getD_cons_zero, List.getD_cons_succ, List.set_cons_zero, List.set_cons_succ, List.length_cons, List.length_nil, List.cons_append, List.nil_append, cond_true, cond_false, Bool.cond_true, reduceCtorEq, Option.map_some, Option.map_none, forall_const, ne_eq, implies_true, Nat.reduceAdd, Nat.reduceLeDiff, Nat.reduceLT, Nat.beq, Option.isNone_none, beq_self_eq_true, bne_self_eq_false, Int.reduceBEq, Int.reduceBNe, Int.reduceLT, Int.reduceLE, Int.reduceGT, Int.reduceGE, Int.reduceEq, Int.reduceNe, Int.reduceToNat, List.take_zero, List.drop_zero, List.all_cons, List.all_nil, List.append_nil, List.length_append, List.length_set, List.append_assoc, List.drop_nil, List.take_nil] <;> try simp -dsimp only [if_conj])
  refine uOf_ok (l := [wS]) (o := 13) (by decide) (i2.keeps k3) fun h4 k4 => ?_
  rw [show ofU 0 [wS] 13 = -1 from rfl]
  (simp +contextual -dsimp only [R6, evA, evB, ↓a_on_t, ↓a_on_f, ↓a_on_und, ↓a_cond_b, ↓reduceIte, Go.Ab.part, List.getD_cons_zero, List.getD_cons_succ, List.set_cons_zero, List.set_cons_succ, List.length_cons, List.length_nil, List.cons_append, List.nil_append, cond_true, cond_false, Bool.cond_true, reduceCtorEq, Option.map_some, Option.map_none, forall_const, ne_eq, implies_true, Nat.reduceAdd, Nat.reduceLeDiff, Nat.reduceLT, Nat.beq, Option.isNone_none, beq_self_eq_true, bne_self_eq_false, Int.reduceBEq, Int.reduceBNe, Int.reduceLT, Int.reduceLE, Int.reduceGT, Int.reduceGE, Int.reduceEq, Int.reduceNe, Int.reduceToNat, List.take_zero, List.drop_zero, List.all_cons, List.all_nil, List.append_nil, List.length_append, List.length_set, List.append_assoc, List.drop_nil, List.take_nil] <;> try simp -dsimp only [if_conj])
  exact hK _ ((k0.trans k1).trans (k2.trans (k3.trans k4)))
theorem uall_ok {t : List UInt8} {o : Nat} (ho : o < 18446744073709551616) : ACall X 3 [.z (byt t) t.length, U o] [] (.c (fun r _ => r = Bo true) ()) := by
  apply i3
  by_cases ht : t.length ≤ 5000
  · have ht' : decide ((t.length : Int) > 5000) = false := by simp; omega
    have ht3 : t.length ≤ 300000 := by omega
    have hl : (uR t).1.length ≤ 30000 := Nat.le_trans uR_len (by decide)
    (simp +contextual -dsimp only [R3, evA, evB, ↓a_on_t, ↓a_on_f, ↓a_on_und, ↓a_cond_b, ↓reduceIte, Go.Ab.part, List.getD_cons_zero, List.getD_cons_succ, List.set_cons_zero, List.set_cons_succ, List.length_cons, List.length_nil, List.cons_append, List.nil_append, cond_true, cond_false, Bool.cond_true, reduceCtorEq, Option.map_some, Option.map_none, forall_const, ne_eq, implies_true, Nat.reduceAdd, Nat.reduceLeDiff, Nat.reduceLT, Nat.beq, Option.isNone_none, beq_self_eq_true, bne_self_eq_false, Int.reduceBEq, Int.reduceBNe, Int.reduceLT, Int.reduceLE, Int.reduceGT, Int.reduceGE, Int.reduceEq, Int.reduceNe, Int.reduceToNat, List.take_zero, List.drop_zero, List.all_cons, List.all_nil, List.append_nil, List.length_append, List.length_set, List.append_assoc, List.drop_nil, List.take_nil, ht'] <;> try simp -dsimp only [if_conj])
    refine uAll_ok ht3 IsB.z fun h1 r1 k1 i1 => ?_
    (simp +contextual -dsimp only [R3, evA, evB, ↓a_on_t, ↓a_on_f, ↓a_on_und, ↓a_cond_b, ↓reduceIte, Go.Ab.part, List.getD_cons_zero, List.getD_cons_succ, List.set_cons_zero, List.set_cons_succ, List.length_cons, List.length_nil, List.cons_append, List.nil_append, cond_true, cond_false, Bool.cond_true, reduceCtorEq, Option.map_some, Option.map_none, forall_const, ne_eq, implies_true, Nat.reduceAdd, Nat.reduceLeDiff, Nat.reduceLT, Nat.beq, Option.isNone_none, beq_self_eq_true, bne_self_eq_false, Int.reduceBEq, Int.reduceBNe, Int.reduceLT, Int.reduceLE, Int.reduceGT, Int.reduceGE, Int.reduceEq, Int.reduceNe, Int.reduceToNat, List.take_zero, List.drop_zero, List.all_cons, List.all_nil, List.append_nil, List.length_append, List.length_set, List.append_assoc, List.drop_nil, List.take_nil] <;> try simp -dsimp only [if_conj])
    refine rAll15_ok ht3 fun h2 r2 k2 i2 => ?_
    (simp +contextual -dsimp only [R3, evA, evB, ↓a_on_t, ↓a_on_f, ↓a_on_und, ↓a_cond_b, ↓reduceIte, Go.Ab.part, List.getD_cons_zero, List.getD_cons_succ, List.set_cons_zero, List.set_cons_succ, List.length_cons, List.length_nil, List.cons_append, List.nil_append, cond_true, cond_false, Bool.cond_true, reduceCtorEq, Option.map_some, Option.map_none, forall_const, ne_eq, implies_true, Nat.reduceAdd, Nat.reduceLeDiff, Nat.reduceLT, Nat.beq, Option.isNone_none, beq_self_eq_true, bne_self_eq_false, Int.reduceBEq, Int.reduceBNe, Int.reduceLT, Int.reduceLE, Int.reduceGT, Int.reduceGE, Int.reduceEq, Int.reduceNe, Int.reduceToNat, List.take_zero, List.drop_zero, List.all_cons, List.all_nil, List.append_nil, List.length_append, List.length_set, List.append_assoc, List.drop_nil, List.take_nil] <;> try simp -dsimp only [if_conj])
    refine told15_ok hl (i1.keeps k2) fun h3 r3 k3 i3 => ?_
    (simp +contextual -dsimp only [R3, evA, evB, ↓a_on_t, ↓a_on_f, ↓a_on_und, ↓a_cond_b, ↓reduceIte, Go.Ab.part, List.getD_cons_zero, List.getD_cons_succ, List.set_cons_zero, List.set_cons_succ, List.length_cons, List.length_nil, List.cons_append, List.nil_append, cond_true, cond_false, Bool.cond_true, reduceCtorEq, Option.map_some, Option.map_none, forall_const, ne_eq, implies_true, Nat.reduceAdd, Nat.reduceLeDiff, Nat.reduceLT, Nat.beq, Option.isNone_none, beq_self_eq_true, bne_self_eq_false, Int.reduceBEq, Int.reduceBNe, Int.reduceLT, Int.reduceLE, Int.reduceGT, Int.reduceGE, Int.reduceEq, Int.reduceNe, Int.reduceToNat, List.take_zero, List.drop_zero, List.all_cons, List.all_nil, List.append_nil, List.length_append, List.length_set, List.append_assoc, List.drop_nil, List.take_nil] <;> try simp -dsimp only [if_conj])
    refine same15_ok hl i3 (i2.keeps k3) fun h4 k4 => ?_
    (simp +contextual -dsimp only [R3, evA, evB, ↓a_on_t, ↓a_on_f, ↓a_on_und, ↓a_cond_b, ↓reduceIte, Go.Ab.part, List.getD_cons_zero, List.getD_cons_succ, List.set_cons_zero, List.set_cons_succ, List.length_cons, List.length_nil, List.cons_append, List.nil_append, cond_true, cond_false, Bool.cond_true, reduceCtorEq, Option.map_some, Option.map_none, forall_const, ne_eq, implies_true, Nat.reduceAdd, Nat.reduceLeDiff, Nat.reduceLT, Nat.beq, Option.isNone_none, beq_self_eq_true, bne_self_eq_false, Int.reduceBEq, Int.reduceBNe, Int.reduceLT, Int.reduceLE, Int.reduceGT, Int.reduceGE, Int.reduceEq, Int.reduceNe, Int.reduceToNat, List.take_zero, List.drop_zero, List.all_cons, List.all_nil, List.append_nil, List.length_append, List.length_set, List.append_assoc, List.drop_nil, List.take_nil] <;> try simp -dsimp only [if_conj])
    refine uOf_ok hl (((i1.keeps k2).keeps k3).keeps k4) fun h5 k5 => ?_
    (simp +contextual -dsimp only [R3, evA, evB, ↓a_on_t, ↓a_on_f, ↓a_on_und, ↓a_cond_b, ↓reduceIte, Go.Ab.part, List.getD_cons_zero, List.getD_cons_succ, List.set_cons_zero, List.set_cons_succ, List.length_cons, List.length_nil, List.cons_append, List.nil_append, cond_true, cond_false, Bool.cond_true, reduceCtorEq, Option.map_some, Option.map_none, forall_const, ne_eq, implies_true, Nat.reduceAdd, Nat.reduceLeDiff, Nat.reduceLT, Nat.beq, Option.isNone_none, beq_self_eq_true, bne_self_eq_false, Int.reduceBEq, Int.reduceBNe, Int.reduceLT, Int.reduceLE, Int.reduceGT, Int.reduceGE, Int.reduceEq, Int.reduceNe, Int.reduceToNat, List.take_zero, List.drop_zero, List.all_cons, List.all_nil, List.append_nil, List.length_append, List.length_set, List.append_assoc, List.drop_nil, List.take_nil] <;> try simp -dsimp only [if_conj])
    refine rOf15_ok hl (((i2.keeps k3).keeps k4).keeps k5) fun h6 k6 => ?_
    (simp +contextual -dsimp only [R3, evA, evB, ↓a_on_t, ↓a_on_f, ↓a_on_und, ↓a_cond_b, ↓reduceIte, Go.Ab.part, List.getD_cons_zero, List.getD_cons_succ, List.set_cons_zero, List.set_cons_succ, List.length_cons, List.length_nil, List.cons_append, List.nil_append, cond_true, cond_false, Bool.cond_true, reduceCtorEq, Option.map_some, Option.map_none, forall_const, ne_eq, implies_true, Nat.reduceAdd, Nat.reduceLeDiff, Nat.reduceLT, Nat.beq, Option.isNone_none, beq_self_eq_true, bne_self_eq_false, Int.reduceBEq, Int.reduceBNe, Int.reduceLT, Int.reduceLE, Int.reduceGT, Int.reduceGE, Int.reduceEq, Int.reduceNe, Int.reduceToNat, List.take_zero, List.drop_zero, List.all_cons, List.all_nil, List.append_nil, List.length_append, List.length_set, List.append_assoc, List.drop_nil, List.take_nil] <;> try simp -dsimp only [if_conj])
    refine works15_ok fun h7 k7 => ?_
    (simp +contextual -dsimp only [R3, evA, evB, ↓a_on_t, ↓a_on_f, ↓a_on_und, ↓a_cond_b, ↓reduceIte, Go.Ab.part, List.getD_cons_zero, List.getD_cons_succ, List.set_cons_zero, List.set_cons_succ, List.length_cons, List.length_nil, List.cons_append, List.nil_append, cond_true, cond_false, Bool.cond_true, reduceCtorEq, Option.map_some, Option.map_none, forall_const, ne_eq, implies_true, Nat.reduceAdd, Nat.reduceLeDiff, Nat.reduceLT, Nat.beq, Option.isNone_none, beq_self_eq_true, bne_self_eq_false, Int.reduceBEq, Int.reduceBNe, Int.reduceLT, Int.reduceLE, Int.reduceGT, Int.reduceGE, Int.reduceEq, Int.reduceNe, Int.reduceToNat, List.take_zero, List.drop_zero, List.all_cons, List.all_nil, List.append_nil, List.length_append, List.length_set, List.append_assoc, List.drop_nil, List.take_nil] <;> try simp -dsimp only [if_conj])
  · have ht' : decide ((t.length : Int) > 5000) = true := by simp; omega
    (simp +contextual -dsimp only [R3, evA, evB, ↓a_on_t, ↓a_on_f, ↓a_on_und, ↓a_cond_b, ↓reduceIte, Go.Ab.part, List.getD_cons_zero, List.getD_cons_succ, List.set_cons_zero, List.set_cons_succ, List.length_cons, List.length_nil, List.cons_append, List.nil_append, cond_true, cond_false, Bool.cond_true, reduceCtorEq, Option.map_some, Option.map_none, forall_const, ne_eq, implies_true, Nat.reduceAdd, Nat.reduceLeDiff, Nat.reduceLT, Nat.beq, Option.isNone_none, beq_self_eq_true, bne_self_eq_false, Int.reduceBEq, Int.reduceBNe, Int.reduceLT, Int.reduceLE, Int.reduceGT, Int.reduceGE, Int.reduceEq, Int.reduceNe, Int.reduceToNat, List.take_zero, List.drop_zero, List.all_cons, List.all_nil, List.append_nil, List.length_append, List.length_set, List.append_assoc, List.drop_nil, List.take_nil, ht'] <;> try simp -dsimp only [if_conj])
    refine works15_ok fun h7 k7 => ?_
    (simp +contextual -dsimp only [R3, evA, evB, ↓a_on_t, ↓a_on_f, ↓a_on_und, ↓a_cond_b, ↓reduceIte, Go.Ab.part, List.getD_cons_zero, List.getD_cons_succ, List.set_cons_zero, List.set_cons_succ, List.length_cons, List.length_nil, List.cons_append, List.nil_append, cond_true, cond_false, Bool.cond_true, reduceCtorEq, Option.map_some, Option.map_none, forall_const, ne_eq, implies_true, Nat.reduceAdd, Nat.reduceLeDiff, Nat.reduceLT, Nat.beq, Option.isNone_none, beq_self_eq_true, bne_self_eq_false, Int.reduceBEq, Int.reduceBNe, Int.reduceLT, Int.reduceLE, Int.reduceGT, Int.reduceGE, Int.reduceEq, Int.reduceNe, Int.reduceToNat, List.take_zero, List.drop_zero, List.all_cons, List.all_nil, List.append_nil, List.length_append, List.length_set, List.append_assoc, List.drop_nil, List.take_nil] <;> try simp -dsimp only [if_conj])
theorem uputs_ok {R : Hd} {t : List UInt8} (hab : R.ab < 18446744073709551616) (hsig : R.sig < 18446744073709551616) (hty : R.ty < 18446744073709551616) : ACall X 4 [.g R.row, .z (byt t) t.length] [] (.c (fun r _ => r = Bo true) ()) := by
  apply i4
  by_cases ht : t.length ≤ 5000
  · have ht' : decide ((t.length : Int) > 5000) = false := by simp; omega
    have ht3 : t.length ≤ 300000 := by omega
    have rall : R.row.all AV.one = true := rfl
    have g0 : List.getD [AO.o 1 R.row] 0 .dead = .o 1 R.row := rfl
    have et : R.row.take 8 = R.row := rfl
    have rl : R.row.length = 8 := rfl
    (simp +contextual -dsimp only [R4, evA, evB, ↓a_on_t, ↓a_on_f, ↓a_on_und, ↓a_cond_b, ↓reduceIte, Go.Ab.part, List.getD_cons_zero, List.getD_cons_succ, List.set_cons_zero, List.set_cons_succ, List.length_cons, List.length_nil, List.cons_append, List.nil_append, cond_true, cond_false, Bool.cond_true, reduceCtorEq, Option.map_some, Option.map_none, forall_const, ne_eq, implies_true, Nat.reduceAdd, Nat.reduceLeDiff, Nat.reduceLT, Nat.beq, Option.isNone_none, beq_self_eq_true, bne_self_eq_false, Int.reduceBEq, Int.reduceBNe, Int.reduceLT, Int.reduceLE, Int.reduceGT, Int.reduceGE, Int.reduceEq, Int.reduceNe, Int.reduceToNat, List.take_zero, List.drop_zero, List.all_cons, List.all_nil, List.append_nil, List.length_append, List.length_set, List.append_assoc, List.drop_nil, List.take_nil, ht', g0, rall, et, rl] <;> try simp -dsimp only [if_conj])
    refine Put15_ok ht3 IsB.z fun h1 r1 k1 i1 _ => ?_
    have g1 : h1.getD 0 .dead = .o 1 R.row := k1.at g0 (by simp)
    (simp +contextual -dsimp only [R4, evA, evB, ↓a_on_t, ↓a_on_f, ↓a_on_und, ↓a_cond_b, ↓reduceIte, Go.Ab.part, List.getD_cons_zero, List.getD_cons_succ, List.set_cons_zero, List.set_cons_succ, List.length_cons, List.length_nil, List.cons_append, List.nil_append, cond_true, cond_false, Bool.cond_true, reduceCtorEq, Option.map_some, Option.map_none, forall_const, ne_eq, implies_true, Nat.reduceAdd, Nat.reduceLeDiff, Nat.reduceLT, Nat.beq, Option.isNone_none, beq_self_eq_true, bne_self_eq_false, Int.reduceBEq, Int.reduceBNe, Int.reduceLT, Int.reduceLE, Int.reduceGT, Int.reduceGE, Int.reduceEq, Int.reduceNe, Int.reduceToNat, List.take_zero, List.drop_zero, List.all_cons, List.all_nil, List.append_nil, List.length_append, List.length_set, List.append_assoc, List.drop_nil, List.take_nil, g1, et, rl] <;> try simp -dsimp only [if_conj])
    refine rPut15_ok hab hsig hty ht3 IsB.z fun h2 r2 k2 i2 => ?_
    have g2 : h2.getD 0 .dead = .o 1 R.row := k2.at g1 (by simp)
    have s1 := fun K => (i1.keeps k2).cstr (K := K)
    have s2 := fun K => i2.cstr (K := K)
    have r0 : R.row.getD 0 .bad = I R.kind := rfl
    have r1' : R.row.getD 1 .bad = Bo R.w := rfl
    (simp +contextual -dsimp only [R4, evA, evB, ↓a_on_t, ↓a_on_f, ↓a_on_und, ↓a_cond_b, ↓reduceIte, Go.Ab.part, List.getD_cons_zero, List.getD_cons_succ, List.set_cons_zero, List.set_cons_succ, List.length_cons, List.length_nil, List.cons_append, List.nil_append, cond_true, cond_false, Bool.cond_true, reduceCtorEq, Option.map_some, Option.map_none, forall_const, ne_eq, implies_true, Nat.reduceAdd, Nat.reduceLeDiff, Nat.reduceLT, Nat.beq, Option.isNone_none, beq_self_eq_true, bne_self_eq_false, Int.reduceBEq, Int.reduceBNe, Int.reduceLT, Int.reduceLE, Int.reduceGT, Int.reduceGE, Int.reduceEq, Int.reduceNe, Int.reduceToNat, List.take_zero, List.drop_zero, List.all_cons, List.all_nil, List.append_nil, List.length_append, List.length_set, List.append_assoc, List.drop_nil, List.take_nil, g2, s1, s2, rl, r0, r1'] <;> try simp -dsimp only [if_conj])
    refine Size_ok ?_
    (simp +contextual -dsimp only [R4, evA, evB, ↓a_on_t, ↓a_on_f, ↓a_on_und, ↓a_cond_b, ↓reduceIte, Go.Ab.part, List.getD_cons_zero, List.getD_cons_succ, List.set_cons_zero, List.set_cons_succ, List.length_cons, List.length_nil, List.cons_append, List.nil_append, cond_true, cond_false, Bool.cond_true, reduceCtorEq, Option.map_some, Option.map_none, forall_const, ne_eq, implies_true, Nat.reduceAdd, Nat.reduceLeDiff, Nat.reduceLT, Nat.beq, Option.isNone_none, beq_self_eq_true, bne_self_eq_false, Int.reduceBEq, Int.reduceBNe, Int.reduceLT, Int.reduceLE, Int.reduceGT, Int.reduceGE, Int.reduceEq, Int.reduceNe, Int.reduceToNat, List.take_zero, List.drop_zero, List.all_cons, List.all_nil, List.append_nil, List.length_append, List.length_set, List.append_assoc, List.drop_nil, List.take_nil, g2, rl, r0, r1'] <;> try simp -dsimp only [if_conj])
    refine rSize15_ok ?_
    (simp +contextual -dsimp only [R4, evA, evB, ↓a_on_t, ↓a_on_f, ↓a_on_und, ↓a_cond_b, ↓reduceIte, Go.Ab.part, List.getD_cons_zero, List.getD_cons_succ, List.set_cons_zero, List.set_cons_succ, List.length_cons, List.length_nil, List.cons_append, List.nil_append, cond_true, cond_false, Bool.cond_true, reduceCtorEq, Option.map_some, Option.map_none, forall_const, ne_eq, implies_true, Nat.reduceAdd, Nat.reduceLeDiff, Nat.reduceLT, Nat.beq, Option.isNone_none, beq_self_eq_true, bne_self_eq_false, Int.reduceBEq, Int.reduceBNe, Int.reduceLT, Int.reduceLE, Int.reduceGT, Int.reduceGE, Int.reduceEq, Int.reduceNe, Int.reduceToNat, List.take_zero, List.drop_zero, List.all_cons, List.all_nil, List.append_nil, List.length_append, List.length_set, List.append_assoc, List.drop_nil, List.take_nil] <;> try simp -dsimp only [if_conj])
    refine works15_ok fun h7 k7 => ?_
    (simp +contextual -dsimp only [R4, evA, evB, ↓a_on_t, ↓a_on_f, ↓a_on_und, ↓a_cond_b, ↓reduceIte, Go.Ab.part, List.getD_cons_zero, List.getD_cons_succ, List.set_cons_zero, List.set_cons_succ, List.length_cons, List.length_nil, List.cons_append, List.nil_append, cond_true, cond_false, Bool.cond_true, reduceCtorEq, Option.map_some, Option.map_none, forall_const, ne_eq, implies_true, Nat.reduceAdd, Nat.reduceLeDiff, Nat.reduceLT, Nat.beq, Option.isNone_none, beq_self_eq_true, bne_self_eq_false, Int.reduceBEq, Int.reduceBNe, Int.reduceLT, Int.reduceLE, Int.reduceGT, Int.reduceGE, Int.reduceEq, Int.reduceNe, Int.reduceToNat, List.take_zero, List.drop_zero, List.all_cons, List.all_nil, List.append_nil, List.length_append, List.length_set, List.append_assoc, List.drop_nil, List.take_nil] <;> try simp -dsimp only [if_conj])
  · have ht' : decide ((t.length : Int) > 5000) = true := by simp; omega
    have rall : R.row.all AV.one = true := rfl
    (simp +contextual -dsimp only [R4, evA, evB, ↓a_on_t, ↓a_on_f, ↓a_on_und, ↓a_cond_b, ↓reduceIte, Go.Ab.part, List.getD_cons_zero, List.getD_cons_succ, List.set_cons_zero, List.set_cons_succ, List.length_cons, List.length_nil, List.cons_append, List.nil_append, cond_true, cond_false, Bool.cond_true, reduceCtorEq, Option.map_some, Option.map_none, forall_const, ne_eq, implies_true, Nat.reduceAdd, Nat.reduceLeDiff, Nat.reduceLT, Nat.beq, Option.isNone_none, beq_self_eq_true, bne_self_eq_false, Int.reduceBEq, Int.reduceBNe, Int.reduceLT, Int.reduceLE, Int.reduceGT, Int.reduceGE, Int.reduceEq, Int.reduceNe, Int.reduceToNat, List.take_zero, List.drop_zero, List.all_cons, List.all_nil, List.append_nil, List.length_append, List.length_set, List.append_assoc, List.drop_nil, List.take_nil, ht', rall] <;> try simp -dsimp only [if_conj])
    refine works15_ok fun h7 k7 => ?_
    (simp +contextual -dsimp only [R4, evA, evB, ↓a_on_t, ↓a_on_f, ↓a_on_und, ↓a_cond_b, ↓reduceIte, Go.Ab.part, List.getD_cons_zero, List.getD_cons_succ, List.set_cons_zero, List.set_cons_succ, List.length_cons, List.length_nil, List.cons_append, List.nil_append, cond_true, cond_false, Bool.cond_true, reduceCtorEq, Option.map_some, Option.map_none, forall_const, ne_eq, implies_true, Nat.reduceAdd, Nat.reduceLeDiff, Nat.reduceLT, Nat.beq, Option.isNone_none, beq_self_eq_true, bne_self_eq_false, Int.reduceBEq, Int.reduceBNe, Int.reduceLT, Int.reduceLE, Int.reduceGT, Int.reduceGE, Int.reduceEq, Int.reduceNe, Int.reduceToNat, List.take_zero, List.drop_zero, List.all_cons, List.all_nil, List.append_nil, List.length_append, List.length_set, List.append_assoc, List.drop_nil, List.take_nil] <;> try simp -dsimp only [if_conj])
theorem shape_hd {P : Program} {t b i u : TypeId} {xs : List AV} (hf : fieldsOf P t = [i, b, u, u, u, u, u, u]) (hi : P.underlying i = some (.int .i64)) (hb : P.underlying b = some .bool) (hu : P.underlying u = some (.int .u64)) (h : Shape P t xs) :
    ∃ R : Hd, xs = R.row ∧ (-9223372036854775808 ≤ R.kind ∧ R.kind < 9223372036854775808) ∧ R.ab < 18446744073709551616 ∧ R.sig < 18446744073709551616 ∧ R.ty < 18446744073709551616 := by
  obtain ⟨c1, d1, rfl, s1, h⟩ := (shape_fields hf (by simp) h).inv
  obtain ⟨c2, d2, rfl, s2, h⟩ := h.inv
  obtain ⟨c3, d3, rfl, s3, h⟩ := h.inv
  obtain ⟨c4, d4, rfl, s4, h⟩ := h.inv
  obtain ⟨c5, d5, rfl, s5, h⟩ := h.inv
  obtain ⟨c6, d6, rfl, s6, h⟩ := h.inv
  obtain ⟨c7, d7, rfl, s7, h⟩ := h.inv
  obtain ⟨c8, d8, rfl, s8, h⟩ := h.inv
  have := h.inv0; subst this
  obtain ⟨k, rfl, k1, k2⟩ := shape_i64 hi s1
  obtain ⟨w, rfl⟩ := shape_bool hb s2
  obtain ⟨a1, rfl, g1⟩ := shape_u64 hu s3
  obtain ⟨a2, rfl, g2⟩ := shape_u64 hu s4
  obtain ⟨a3, rfl, g3⟩ := shape_u64 hu s5
  obtain ⟨a4, rfl, g4⟩ := shape_u64 hu s6
  obtain ⟨a5, rfl, g5⟩ := shape_u64 hu s7
  obtain ⟨a6, rfl, g6⟩ := shape_u64 hu s8
  exact ⟨⟨k, w, a1, a2, a3, a4, a5, a6⟩, rfl, ⟨k1, k2⟩, g1, g2, g3⟩
theorem arg_hd {P : Program} {t b i u : TypeId} {a : AV} (hr : isRowT P t = true) (hf : fieldsOf P t = [i, b, u, u, u, u, u, u]) (hi : P.underlying i = some (.int .i64)) (hb : P.underlying b = some .bool) (hu : P.underlying u = some (.int .u64)) (h : ShapeA P t a) :
    ∃ R : Hd, a = .g R.row ∧ R.ab < 18446744073709551616 ∧ R.sig < 18446744073709551616 ∧ R.ty < 18446744073709551616 := by
  obtain ⟨xs, h1, rfl⟩ := h
  obtain ⟨R, rfl, _, h2⟩ := shape_hd hf hi hb hu h1
  rw [hr]
  exact ⟨R, rfl, h2⟩
end Go.Proofs.YtmjjfchahkdceaaDoor
