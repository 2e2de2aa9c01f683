import Derived.Test.YtebacdlbhjgmlaaCA
import Derived.Test.YtebacdlbhjgmlaaGA
set_option linter.unusedVariables false
set_option linter.unusedSimpArgs false
set_option maxRecDepth 100000
namespace Go.Proofs.Ytebacdlbhjgmlaa
open Go.Ab
variable {c : Cur} {h : Heap} {id : Nat} {K : Kt}

theorem size_ok {n : Int} (hK : K.K (I (wid n)) h) : ACall X 29 [I n] h K := by
  apply i29
  (simp +contextual -dsimp only [R29, evA, evB, ↓a_on_t, ↓a_on_f, ↓a_on_und, ↓a_cond_b, ↓reduceIte, Go.Ab.part, List.getD_cons_zero, List.getD_cons_succ, List.set_cons_zero, List.set_cons_succ, List.length_cons, List.length_nil, List.cons_append, List.nil_append, cond_true, cond_false, Bool.cond_true, reduceCtorEq, Option.map_some, Option.map_none, forall_const, ne_eq, implies_true, Nat.reduceAdd, Nat.reduceLeDiff, Nat.reduceLT, Nat.beq, Option.isNone_none, beq_self_eq_true, bne_self_eq_false, Int.reduceBEq, Int.reduceBNe, Int.reduceLT, Int.reduceLE, Int.reduceGT, Int.reduceGE, Int.reduceEq, Int.reduceNe, Int.reduceToNat, List.take_zero, List.drop_zero, List.all_cons, List.all_nil, List.append_nil, List.length_append, List.length_set, List.append_assoc, List.drop_nil, List.take_nil] <;> try simp -dsimp only [if_conj])
  unfold wid at hK
  refine ⟨fun e => ?_, fun e => ⟨fun e2 => ?_, fun e2 => ?_⟩⟩
  · have e : n < 0 := by simpa using e
    rw [show ((min (max n 0) 8).toNat : Int) = 0 by omega] at hK; exact hK
  · have e2 : n > 8 := by simpa using e2
    rw [show ((min (max n 0) 8).toNat : Int) = 8 by omega] at hK; exact hK
  · have e : ¬ n < 0 := by simpa using e
    have e2 : ¬ n > 8 := by simpa using e2
    rw [show ((min (max n 0) 8).toNat : Int) = n by omega] at hK; exact hK
theorem ecase (c : Cur) : (c.e = 0 ∧ (c.e == 0) = true ∧ (c.e != 0) = false) ∨ (c.e ≠ 0 ∧ (c.e == 0) = false ∧ (c.e != 0) = true) := by
  by_cases h : c.e = 0
  · exact .inl ⟨h, by simp [h], by simp [h]⟩
  · exact .inr ⟨h, by simp [h], by simp [h]⟩
end Go.Proofs.Ytebacdlbhjgmlaa
