import Derived.Test.YtebacdlbhjgmlaaCA
import Derived.Test.YtebacdlbhjgmlaaCR
set_option linter.unusedVariables false
set_option linter.unusedSimpArgs false
set_option maxRecDepth 100000
namespace Go.Proofs.Ytebacdlbhjgmlaa
open Go.Ab
variable {h : Heap} {K : Kt}

theorem shr_byte {n i : Nat} (hi : i < 8) : IntKind.u8.wrap (((n : Int)).fdiv (2 ^ min (Int.toNat (8 * (i : Int))) IntKind.u64.bits)) = ((n / 256 ^ i % 256 : Nat) : Int) := by
  have e8 : (256 : Nat) ^ i = 2 ^ (8 * i) := by rw [Nat.pow_mul]
  have hb : min (Int.toNat (8 * (i : Int))) IntKind.u64.bits = 8 * i := by
    simp only [IntKind.bits]; omega
  rw [hb, wrap_u8_eq, e8, Int.fdiv_eq_ediv_of_nonneg _ (by exact_mod_cast Nat.zero_le _)]
  push_cast; rfl
theorem Put_ok {id : Nat} {l : List UInt8} {n : Nat} {size : Int} (hid : h.getD id .dead = .o 1 (byt l)) (hl : l.length + 8 ≤ bigRoom)
    (hK : ∀ h1 id1, Grown h id h1 id1 (.o 1 (byt (l ++ leB (wid size) n))) → K.K (.s id1 0 (l.length + wid size)) h1) : ACall X 22 [.s id 0 l.length, U n, I size] h K := by
  have hw := wid_le size
  apply i22
  (simp +contextual -dsimp only [R22, evA, evB, ↓a_on_t, ↓a_on_f, ↓a_on_und, ↓a_cond_b, ↓reduceIte, Go.Ab.part, List.getD_cons_zero, List.getD_cons_succ, List.set_cons_zero, List.set_cons_succ, List.length_cons, List.length_nil, List.cons_append, List.nil_append, cond_true, cond_false, Bool.cond_true, reduceCtorEq, Option.map_some, Option.map_none, forall_const, ne_eq, implies_true, Nat.reduceAdd, Nat.reduceLeDiff, Nat.reduceLT, Nat.beq, Option.isNone_none, beq_self_eq_true, bne_self_eq_false, Int.reduceBEq, Int.reduceBNe, Int.reduceLT, Int.reduceLE, Int.reduceGT, Int.reduceGE, Int.reduceEq, Int.reduceNe, Int.reduceToNat, List.take_zero, List.drop_zero, List.all_cons, List.all_nil, List.append_nil, List.length_append, List.length_set, List.append_assoc, List.drop_nil, List.take_nil] <;> try simp -dsimp only [if_conj])
  refine width_ok ?_
  (simp +contextual -dsimp only [R22, evA, evB, ↓a_on_t, ↓a_on_f, ↓a_on_und, ↓a_cond_b, ↓reduceIte, Go.Ab.part, List.getD_cons_zero, List.getD_cons_succ, List.set_cons_zero, List.set_cons_succ, List.length_cons, List.length_nil, List.cons_append, List.nil_append, cond_true, cond_false, Bool.cond_true, reduceCtorEq, Option.map_some, Option.map_none, forall_const, ne_eq, implies_true, Nat.reduceAdd, Nat.reduceLeDiff, Nat.reduceLT, Nat.beq, Option.isNone_none, beq_self_eq_true, bne_self_eq_false, Int.reduceBEq, Int.reduceBNe, Int.reduceLT, Int.reduceLE, Int.reduceGT, Int.reduceGE, Int.reduceEq, Int.reduceNe, Int.reduceToNat, List.take_zero, List.drop_zero, List.all_cons, List.all_nil, List.append_nil, List.length_append, List.length_set, List.append_assoc, List.drop_nil, List.take_nil] <;> try simp -dsimp only [if_conj])
  refine aloop (fun m st => ∃ i h1 id1, m + i = wid size ∧ Grown h id h1 id1 (.o 1 (byt (l ++ leB i n))) ∧ st = ((.s id1 0 (l.length + i) :: U n :: I size :: sl st.1 3 :: sl st.1 4 :: sl st.1 5 :: sl st.1 6 :: sl st.1 7 :: sl st.1 8 :: I (wid size) :: I i :: sl st.1 11 :: sl st.1 12 :: sl st.1 13 :: sl st.1 14 :: sl st.1 15 :: sl st.1 16 :: sl st.1 17 :: sl st.1 18 :: sl st.1 19 :: sl st.1 20 :: sl st.1 21 :: sl st.1 22 :: sl st.1 23 :: []), h1)) (wid size) _ (Nat.le_refl _) (Weak.refl _ (Nat.le_refl _))
    ⟨0, h, id, by omega, Grown.refl (by simpa [leB] using hid), rfl⟩ ?_
  rintro m st ⟨i, h1, id1, hm, g, hst⟩
  rw [hst]
  (simp +contextual -dsimp only [R22, evA, evB, ↓a_on_t, ↓a_on_f, ↓a_on_und, ↓a_cond_b, ↓reduceIte, Go.Ab.part, List.getD_cons_zero, List.getD_cons_succ, List.set_cons_zero, List.set_cons_succ, List.length_cons, List.length_nil, List.cons_append, List.nil_append, cond_true, cond_false, Bool.cond_true, reduceCtorEq, Option.map_some, Option.map_none, forall_const, ne_eq, implies_true, Nat.reduceAdd, Nat.reduceLeDiff, Nat.reduceLT, Nat.beq, Option.isNone_none, beq_self_eq_true, bne_self_eq_false, Int.reduceBEq, Int.reduceBNe, Int.reduceLT, Int.reduceLE, Int.reduceGT, Int.reduceGE, Int.reduceEq, Int.reduceNe, Int.reduceToNat, List.take_zero, List.drop_zero, List.all_cons, List.all_nil, List.append_nil, List.length_append, List.length_set, List.append_assoc, List.drop_nil, List.take_nil] <;> try simp -dsimp only [if_conj])
  refine ⟨fun hi => ?_, fun hi => ?_⟩
  · replace hi : i < wid size := by simpa using hi
    rw [wrap_i64 (n := 8 * (i : Int)) (by omega) (by omega), wrap_u64 (n := 8 * (i : Int)) (by omega) (by omega)]
    rw [shr_byte (by omega)]
    have et : ∀ x : AV, List.take 1 [x] = [x] := fun _ => rfl
    have e2 : List.take (l.length + i) (byt (l ++ leB i n)) = byt (l ++ leB i n) := List.take_of_length_le (by simp [byt_length, leB_length])
    have e3 : byt (l ++ leB i n) ++ [.v (.int .u8 ((n / 256 ^ i % 256 : Nat) : Int))] = byt (l ++ leB (i + 1) n) := by rw [byt_snoc, leB_succ, List.append_assoc]
    have hne : ¬ h1.length = id1 := by have := hlt g.get (by simp); omega
    (simp +contextual -dsimp only [R22, evA, evB, ↓a_on_t, ↓a_on_f, ↓a_on_und, ↓a_cond_b, ↓reduceIte, Go.Ab.part, List.getD_cons_zero, List.getD_cons_succ, List.set_cons_zero, List.set_cons_succ, List.length_cons, List.length_nil, List.cons_append, List.nil_append, cond_true, cond_false, Bool.cond_true, reduceCtorEq, Option.map_some, Option.map_none, forall_const, ne_eq, implies_true, Nat.reduceAdd, Nat.reduceLeDiff, Nat.reduceLT, Nat.beq, Option.isNone_none, beq_self_eq_true, bne_self_eq_false, Int.reduceBEq, Int.reduceBNe, Int.reduceLT, Int.reduceLE, Int.reduceGT, Int.reduceGE, Int.reduceEq, Int.reduceNe, Int.reduceToNat, List.take_zero, List.drop_zero, List.all_cons, List.all_nil, List.append_nil, List.length_append, List.length_set, List.append_assoc, List.drop_nil, List.take_nil, hget_app g.get (by simp), hget_new, et, e2] <;> try simp -dsimp only [if_conj])
    rw [wrap_i64 (n := (i : Int) + 1) (by omega) (by omega), e3]
    exact ⟨by omega, ⟨by omega, hne⟩, m - 1, _, by omega, Weak.refl _ (by have := g.len; simp; omega), i + 1, _, _, by omega, g.step (by simp), rfl⟩
  · replace hi : i = wid size := by have : ¬ i < wid size := by simpa using hi
                                    omega
    rw [hi] at g ⊢
    exact hK _ _ g
theorem rPut_ok {n : Nat} {size : Int} (hn : n < 18446744073709551616)
    (hK : ∀ h1 id1, Grown (h ++ [.o 1 []]) h.length h1 id1 (.o 1 (byt (leB (wid size) n))) → K.K (.s id1 0 (wid size)) h1) : ACall X 23 [U n, I size] h K := by
  have hw := wid_le size
  apply i23
  (simp +contextual -dsimp only [R23, evA, evB, ↓a_on_t, ↓a_on_f, ↓a_on_und, ↓a_cond_b, ↓reduceIte, Go.Ab.part, List.getD_cons_zero, List.getD_cons_succ, List.set_cons_zero, List.set_cons_succ, List.length_cons, List.length_nil, List.cons_append, List.nil_append, cond_true, cond_false, Bool.cond_true, reduceCtorEq, Option.map_some, Option.map_none, forall_const, ne_eq, implies_true, Nat.reduceAdd, Nat.reduceLeDiff, Nat.reduceLT, Nat.beq, Option.isNone_none, beq_self_eq_true, bne_self_eq_false, Int.reduceBEq, Int.reduceBNe, Int.reduceLT, Int.reduceLE, Int.reduceGT, Int.reduceGE, Int.reduceEq, Int.reduceNe, Int.reduceToNat, List.take_zero, List.drop_zero, List.all_cons, List.all_nil, List.append_nil, List.length_append, List.length_set, List.append_assoc, List.drop_nil, List.take_nil] <;> try simp -dsimp only [if_conj])
  refine aloop (fun m st => ∃ i q h1 id1, m + i = wid size ∧ q = n / 256 ^ i ∧ Grown (h ++ [.o 1 []]) h.length h1 id1 (.o 1 (byt (leB i n))) ∧ st = ((U (q : Nat) :: I size :: sl st.1 2 :: sl st.1 3 :: sl st.1 4 :: .s id1 0 i :: I i :: sl st.1 7 :: sl st.1 8 :: sl st.1 9 :: sl st.1 10 :: sl st.1 11 :: sl st.1 12 :: sl st.1 13 :: sl st.1 14 :: sl st.1 15 :: sl st.1 16 :: sl st.1 17 :: sl st.1 18 :: sl st.1 19 :: sl st.1 20 :: sl st.1 21 :: []), h1)) (wid size) _ (Nat.le_refl _)
    (weak_nils (tm' := (U n :: I size :: .bad :: .bad :: .bad :: .s h.length 0 0 :: I 0 :: .bad :: .bad :: .bad :: .bad :: .bad :: .bad :: .bad :: .bad :: .bad :: .bad :: .bad :: .bad :: .bad :: .bad :: .bad :: [])) (sz := 1) (Nat.le_refl _) (by simp [NilOk])) ⟨0, n, h ++ [.o 1 []], h.length, by omega, by simp, Grown.refl hget_new, rfl⟩ ?_
  rintro m st ⟨i, q, h1, id1, hm, rfl, g, hst⟩
  rw [hst]
  (simp +contextual -dsimp only [R23, evA, evB, ↓a_on_t, ↓a_on_f, ↓a_on_und, ↓a_cond_b, ↓reduceIte, Go.Ab.part, List.getD_cons_zero, List.getD_cons_succ, List.set_cons_zero, List.set_cons_succ, List.length_cons, List.length_nil, List.cons_append, List.nil_append, cond_true, cond_false, Bool.cond_true, reduceCtorEq, Option.map_some, Option.map_none, forall_const, ne_eq, implies_true, Nat.reduceAdd, Nat.reduceLeDiff, Nat.reduceLT, Nat.beq, Option.isNone_none, beq_self_eq_true, bne_self_eq_false, Int.reduceBEq, Int.reduceBNe, Int.reduceLT, Int.reduceLE, Int.reduceGT, Int.reduceGE, Int.reduceEq, Int.reduceNe, Int.reduceToNat, List.take_zero, List.drop_zero, List.all_cons, List.all_nil, List.append_nil, List.length_append, List.length_set, List.append_assoc, List.drop_nil, List.take_nil] <;> try simp -dsimp only [if_conj])
  refine size_ok ?_
  (simp +contextual -dsimp only [R23, evA, evB, ↓a_on_t, ↓a_on_f, ↓a_on_und, ↓a_cond_b, ↓reduceIte, Go.Ab.part, List.getD_cons_zero, List.getD_cons_succ, List.set_cons_zero, List.set_cons_succ, List.length_cons, List.length_nil, List.cons_append, List.nil_append, cond_true, cond_false, Bool.cond_true, reduceCtorEq, Option.map_some, Option.map_none, forall_const, ne_eq, implies_true, Nat.reduceAdd, Nat.reduceLeDiff, Nat.reduceLT, Nat.beq, Option.isNone_none, beq_self_eq_true, bne_self_eq_false, Int.reduceBEq, Int.reduceBNe, Int.reduceLT, Int.reduceLE, Int.reduceGT, Int.reduceGE, Int.reduceEq, Int.reduceNe, Int.reduceToNat, List.take_zero, List.drop_zero, List.all_cons, List.all_nil, List.append_nil, List.length_append, List.length_set, List.append_assoc, List.drop_nil, List.take_nil] <;> try simp -dsimp only [if_conj])
  refine ⟨fun hi => ?_, fun hi => ?_⟩
  · replace hi : i < wid size := by simpa using hi
    have hd : (((n / 256 ^ i : Nat)) : Int).tmod 256 = ((n / 256 ^ i % 256 : Nat) : Int) := tmod_nat _ 256
    have hq : (((n / 256 ^ i : Nat)) : Int).tdiv 256 = ((n / 256 ^ (i + 1) : Nat) : Int) := by
      rw [Nat.pow_succ, ← Nat.div_div_eq_div_mul]; exact tdiv_nat _ 256
    have hlt1 : n / 256 ^ (i + 1) ≤ n := Nat.div_le_self _ _
    have hlt2 : n / 256 ^ i ≤ n := Nat.div_le_self _ _
    rw [hd, wrap_u8_eq, show ((n / 256 ^ i % 256 : Nat) : Int) % 256 = ((n / 256 ^ i % 256 : Nat) : Int) by omega]
    have et : ∀ x : AV, List.take 1 [x] = [x] := fun _ => rfl
    have e2 : List.take i (byt (leB i n)) = byt (leB i n) := List.take_of_length_le (by simp [byt_length, leB_length])
    have e3 : byt (leB i n) ++ [.v (.int .u8 ((n / 256 ^ i % 256 : Nat) : Int))] = byt (leB (i + 1) n) := by rw [byt_snoc, leB_succ]
    have hne : ¬ h1.length = id1 := by have := hlt g.get (by simp); omega
    (simp +contextual -dsimp only [R23, evA, evB, ↓a_on_t, ↓a_on_f, ↓a_on_und, ↓a_cond_b, ↓reduceIte, Go.Ab.part, List.getD_cons_zero, List.getD_cons_succ, List.set_cons_zero, List.set_cons_succ, List.length_cons, List.length_nil, List.cons_append, List.nil_append, cond_true, cond_false, Bool.cond_true, reduceCtorEq, Option.map_some, Option.map_none, forall_const, ne_eq, implies_true, Nat.reduceAdd, Nat.reduceLeDiff, Nat.reduceLT, Nat.beq, Option.isNone_none, beq_self_eq_true, bne_self_eq_false, Int.reduceBEq, Int.reduceBNe, Int.reduceLT, Int.reduceLE, Int.reduceGT, Int.reduceGE, Int.reduceEq, Int.reduceNe, Int.reduceToNat, List.take_zero, List.drop_zero, List.all_cons, List.all_nil, List.append_nil, List.length_append, List.length_set, List.append_assoc, List.drop_nil, List.take_nil, hget_app g.get (by simp), hget_new, et, e2] <;> try simp -dsimp only [if_conj])
    rw [wrap_i64 (n := (i : Int) + 1) (by omega) (by omega), hq, wrap_u64 (Int.natCast_nonneg _) (by omega), e3]
    have hb : (10 : Nat) ≤ bigRoom := by decide
    exact ⟨⟨by omega, hne⟩, m - 1, _, by omega, Weak.refl _ (by have := g.len; simp at this ⊢; omega), i + 1, _, _, _, by omega, rfl, g.step (by simp), rfl⟩
  · replace hi : i = wid size := by have : ¬ i < wid size := by simpa using hi
                                    omega
    rw [hi] at g ⊢
    exact hK _ _ g
end Go.Proofs.Ytebacdlbhjgmlaa
