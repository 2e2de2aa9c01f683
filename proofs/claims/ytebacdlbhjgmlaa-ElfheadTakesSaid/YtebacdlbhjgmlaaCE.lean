import Derived.Test.YtebacdlbhjgmlaaCD
set_option linter.unusedVariables false
set_option linter.unusedSimpArgs false
set_option maxRecDepth 100000
namespace Go.Proofs.Ytebacdlbhjgmlaa
open Go.Ab
variable {h : Heap} {K : Kt}

/-- what stands at a file's front -/
def hdAt (b : List UInt8) : Hd := ⟨num b 16 2, num b 18 2, num b 40 8, num b 60 2, num b 62 2⟩
/-- why there is no header, or 0 -/
def bad (b : List UInt8) : Int :=
  if b.length < 64 ∨ b.take 7 ≠ elf then 20
  else if num b 20 4 = 1 ∧ num b 52 2 = 64 ∧ num b 56 2 = 0 ∧ num b 58 2 = 64 ∧ right (hdAt b) b.length = true then 0 else 21
def hdOf (b : List UInt8) : Hd := if bad b = 0 then hdAt b else ⟨0, 0, 0, 0, 0⟩
theorem hd_fit (b : List UInt8) : (hdAt b).fit := by
  have h1 := num_lt b 16 2; have h2 := num_lt b 18 2; have h3 := num_lt b 40 8; have h4 := num_lt b 60 2; have h5 := num_lt b 62 2
  refine ⟨?_, ?_, ?_, ?_, ?_⟩ <;> simp only [hdAt] <;> omega
theorem bad20 {b : List UInt8} (h : b.length < 64 ∨ b.take 7 ≠ elf) : bad b = 20 ∧ hdOf b = ⟨0, 0, 0, 0, 0⟩ := by
  have e : bad b = 20 := if_pos h
  exact ⟨e, by unfold hdOf; rw [if_neg (by rw [e]; decide)]⟩
theorem bad21 {b : List UInt8} (h : 64 ≤ b.length) (h2 : b.take 7 = elf) (h3 : ¬ (num b 20 4 = 1 ∧ num b 52 2 = 64 ∧ num b 56 2 = 0 ∧ num b 58 2 = 64 ∧ right (hdAt b) b.length = true)) : bad b = 21 ∧ hdOf b = ⟨0, 0, 0, 0, 0⟩ := by
  have e : bad b = 21 := by unfold bad; rw [if_neg (fun h' => h'.elim (by omega) (fun n => n h2)), if_neg h3]
  exact ⟨e, by unfold hdOf; rw [if_neg (by rw [e]; decide)]⟩
theorem bad0 {b : List UInt8} (h : 64 ≤ b.length) (h2 : b.take 7 = elf) (h3 : num b 20 4 = 1 ∧ num b 52 2 = 64 ∧ num b 56 2 = 0 ∧ num b 58 2 = 64 ∧ right (hdAt b) b.length = true) : bad b = 0 ∧ hdOf b = hdAt b := by
  have e : bad b = 0 := by unfold bad; rw [if_neg (fun h' => h'.elim (by omega) (fun n => n h2)), if_pos h3]
  exact ⟨e, by unfold hdOf; rw [if_pos e]⟩
theorem rTake_ok {b : List UInt8} (hb : b.length < 9223372036854775808) (hK : ∀ h1, Keeps h h1 → K.K (.t [.g (hdOf b).row, I (bad b)]) h1) : ACall X 7 [.z (byt b) b.length] h K := by
  apply i7
  by_cases c1 : b.length < 64
  · obtain ⟨e1, e2⟩ := bad20 (.inl c1)
    rw [e1, e2] at hK
    have d1 : decide ((b.length : Int) < 64) = true := by simp; omega
    (simp +contextual -dsimp only [R7, evA, evB, ↓a_on_t, ↓a_on_f, ↓a_on_und, ↓a_cond_b, ↓reduceIte, Go.Ab.part, List.getD_cons_zero, List.getD_cons_succ, List.set_cons_zero, List.set_cons_succ, List.length_cons, List.length_nil, List.cons_append, List.nil_append, cond_true, cond_false, Bool.cond_true, reduceCtorEq, Option.map_some, Option.map_none, forall_const, ne_eq, implies_true, Nat.reduceAdd, Nat.reduceLeDiff, Nat.reduceLT, Nat.beq, Option.isNone_none, beq_self_eq_true, bne_self_eq_false, Int.reduceBEq, Int.reduceBNe, Int.reduceLT, Int.reduceLE, Int.reduceGT, Int.reduceGE, Int.reduceEq, Int.reduceNe, Int.reduceToNat, List.take_zero, List.drop_zero, List.all_cons, List.all_nil, List.append_nil, List.length_append, List.length_set, List.append_assoc, List.drop_nil, List.take_nil, d1, hget_new, hset_new] <;> try simp -dsimp only [if_conj])
    exact hK _ (Keeps.adds Adds.mk)
  have d1 : decide ((b.length : Int) < 64) = false := by simp; omega
  have ct : (byt b).take 7 = byt (b.take 7) := byt_take _ _
  have cl : (b.take 7).length = 7 := by rw [List.length_take]; omega
  have cs : ∀ H (K' : Kt), a_cstr (.z (byt (b.take 7)) 7) H K' = K'.K (.v (.string (mkStr (b.take 7)))) H := fun H K' => cstr_b cl.symm
  have ce : (⟨#[127, 69, 76, 70, 2, 1, 1]⟩ : ByteArray) = mkStr elf := rfl
  by_cases c2 : b.take 7 ≠ elf
  · obtain ⟨e1, e2⟩ := bad20 (.inr c2)
    rw [e1, e2] at hK
    have d2 : (!decide (mkStr (b.take 7) = mkStr elf)) = true := by simpa [mkStr_inj] using c2
    (simp +contextual -dsimp only [R7, evA, evB, ↓a_on_t, ↓a_on_f, ↓a_on_und, ↓a_cond_b, ↓reduceIte, Go.Ab.part, List.getD_cons_zero, List.getD_cons_succ, List.set_cons_zero, List.set_cons_succ, List.length_cons, List.length_nil, List.cons_append, List.nil_append, cond_true, cond_false, Bool.cond_true, reduceCtorEq, Option.map_some, Option.map_none, forall_const, ne_eq, implies_true, Nat.reduceAdd, Nat.reduceLeDiff, Nat.reduceLT, Nat.beq, Option.isNone_none, beq_self_eq_true, bne_self_eq_false, Int.reduceBEq, Int.reduceBNe, Int.reduceLT, Int.reduceLE, Int.reduceGT, Int.reduceGE, Int.reduceEq, Int.reduceNe, Int.reduceToNat, List.take_zero, List.drop_zero, List.all_cons, List.all_nil, List.append_nil, List.length_append, List.length_set, List.append_assoc, List.drop_nil, List.take_nil, d1, hget_new, hset_new, ct, cs, ce, d2] <;> try simp -dsimp only [if_conj])
    exact ⟨⟨.inl trivial, by omega⟩, hK _ (Keeps.adds Adds.mk)⟩
  replace c2 : b.take 7 = elf := Decidable.not_not.1 c2
  have d2 : (!decide (mkStr (b.take 7) = mkStr elf)) = false := by rw [c2]; simp
  (simp +contextual -dsimp only [R7, evA, evB, ↓a_on_t, ↓a_on_f, ↓a_on_und, ↓a_cond_b, ↓reduceIte, Go.Ab.part, List.getD_cons_zero, List.getD_cons_succ, List.set_cons_zero, List.set_cons_succ, List.length_cons, List.length_nil, List.cons_append, List.nil_append, cond_true, cond_false, Bool.cond_true, reduceCtorEq, Option.map_some, Option.map_none, forall_const, ne_eq, implies_true, Nat.reduceAdd, Nat.reduceLeDiff, Nat.reduceLT, Nat.beq, Option.isNone_none, beq_self_eq_true, bne_self_eq_false, Int.reduceBEq, Int.reduceBNe, Int.reduceLT, Int.reduceLE, Int.reduceGT, Int.reduceGE, Int.reduceEq, Int.reduceNe, Int.reduceToNat, List.take_zero, List.drop_zero, List.all_cons, List.all_nil, List.append_nil, List.length_append, List.length_set, List.append_assoc, List.drop_nil, List.take_nil, d1, hget_new, hset_new, ct, cs, ce, d2] <;> try simp -dsimp only [if_conj])
  refine ⟨⟨.inl trivial, by omega⟩, ?_⟩
  have n1 := num_lt b 16 2; have n2 := num_lt b 18 2; have n3 := num_lt b 40 8; have n4 := num_lt b 60 2; have n5 := num_lt b 62 2
  have w1 : IntKind.i64.wrap (num b 16 2 : Int) = num b 16 2 := wrap_i64 (by omega) (by omega)
  have w2 : IntKind.i64.wrap (num b 18 2 : Int) = num b 18 2 := wrap_i64 (by omega) (by omega)
  have w4 : IntKind.i64.wrap (num b 60 2 : Int) = num b 60 2 := wrap_i64 (by omega) (by omega)
  have w5 : IntKind.i64.wrap (num b 62 2 : Int) = num b 62 2 := wrap_i64 (by omega) (by omega)
  have g0 : (h ++ [AO.o 1 [I 0, I 0, U 0, I 0, I 0]]).getD h.length .dead = .o 1 [I 0, I 0, U 0, I 0, I 0] := hget_new
  have k0 : Keeps h (h ++ [AO.o 1 [I 0, I 0, U 0, I 0, I 0]]) := Keeps.adds Adds.mk
  generalize h ++ [AO.o 1 [I 0, I 0, U 0, I 0, I 0]] = H at *
  have hl := hlt g0 (by simp)
  refine at_ok (i := 16) (n := 2) hb (by omega) (by decide) ?_
  (simp +contextual -dsimp only [R7, evA, evB, ↓a_on_t, ↓a_on_f, ↓a_on_und, ↓a_cond_b, ↓reduceIte, Go.Ab.part, List.getD_cons_zero, List.getD_cons_succ, List.set_cons_zero, List.set_cons_succ, List.length_cons, List.length_nil, List.cons_append, List.nil_append, cond_true, cond_false, Bool.cond_true, reduceCtorEq, Option.map_some, Option.map_none, forall_const, ne_eq, implies_true, Nat.reduceAdd, Nat.reduceLeDiff, Nat.reduceLT, Nat.beq, Option.isNone_none, beq_self_eq_true, bne_self_eq_false, Int.reduceBEq, Int.reduceBNe, Int.reduceLT, Int.reduceLE, Int.reduceGT, Int.reduceGE, Int.reduceEq, Int.reduceNe, Int.reduceToNat, List.take_zero, List.drop_zero, List.all_cons, List.all_nil, List.append_nil, List.length_append, List.length_set, List.append_assoc, List.drop_nil, List.take_nil, w1] <;> try simp -dsimp only [if_conj])
  refine at_ok (i := 18) (n := 2) hb (by omega) (by decide) ?_
  (simp +contextual -dsimp only [R7, evA, evB, ↓a_on_t, ↓a_on_f, ↓a_on_und, ↓a_cond_b, ↓reduceIte, Go.Ab.part, List.getD_cons_zero, List.getD_cons_succ, List.set_cons_zero, List.set_cons_succ, List.length_cons, List.length_nil, List.cons_append, List.nil_append, cond_true, cond_false, Bool.cond_true, reduceCtorEq, Option.map_some, Option.map_none, forall_const, ne_eq, implies_true, Nat.reduceAdd, Nat.reduceLeDiff, Nat.reduceLT, Nat.beq, Option.isNone_none, beq_self_eq_true, bne_self_eq_false, Int.reduceBEq, Int.reduceBNe, Int.reduceLT, Int.reduceLE, Int.reduceGT, Int.reduceGE, Int.reduceEq, Int.reduceNe, Int.reduceToNat, List.take_zero, List.drop_zero, List.all_cons, List.all_nil, List.append_nil, List.length_append, List.length_set, List.append_assoc, List.drop_nil, List.take_nil, w2] <;> try simp -dsimp only [if_conj])
  refine at_ok (i := 40) (n := 8) hb (by omega) (by decide) ?_
  (simp +contextual -dsimp only [R7, evA, evB, ↓a_on_t, ↓a_on_f, ↓a_on_und, ↓a_cond_b, ↓reduceIte, Go.Ab.part, List.getD_cons_zero, List.getD_cons_succ, List.set_cons_zero, List.set_cons_succ, List.length_cons, List.length_nil, List.cons_append, List.nil_append, cond_true, cond_false, Bool.cond_true, reduceCtorEq, Option.map_some, Option.map_none, forall_const, ne_eq, implies_true, Nat.reduceAdd, Nat.reduceLeDiff, Nat.reduceLT, Nat.beq, Option.isNone_none, beq_self_eq_true, bne_self_eq_false, Int.reduceBEq, Int.reduceBNe, Int.reduceLT, Int.reduceLE, Int.reduceGT, Int.reduceGE, Int.reduceEq, Int.reduceNe, Int.reduceToNat, List.take_zero, List.drop_zero, List.all_cons, List.all_nil, List.append_nil, List.length_append, List.length_set, List.append_assoc, List.drop_nil, List.take_nil] <;> try simp -dsimp only [if_conj])
  refine at_ok (i := 60) (n := 2) hb (by omega) (by decide) ?_
  (simp +contextual -dsimp only [R7, evA, evB, ↓a_on_t, ↓a_on_f, ↓a_on_und, ↓a_cond_b, ↓reduceIte, Go.Ab.part, List.getD_cons_zero, List.getD_cons_succ, List.set_cons_zero, List.set_cons_succ, List.length_cons, List.length_nil, List.cons_append, List.nil_append, cond_true, cond_false, Bool.cond_true, reduceCtorEq, Option.map_some, Option.map_none, forall_const, ne_eq, implies_true, Nat.reduceAdd, Nat.reduceLeDiff, Nat.reduceLT, Nat.beq, Option.isNone_none, beq_self_eq_true, bne_self_eq_false, Int.reduceBEq, Int.reduceBNe, Int.reduceLT, Int.reduceLE, Int.reduceGT, Int.reduceGE, Int.reduceEq, Int.reduceNe, Int.reduceToNat, List.take_zero, List.drop_zero, List.all_cons, List.all_nil, List.append_nil, List.length_append, List.length_set, List.append_assoc, List.drop_nil, List.take_nil, w4] <;> try simp -dsimp only [if_conj])
  refine at_ok (i := 62) (n := 2) hb (by omega) (by decide) ?_
  (simp +contextual -dsimp only [R7, evA, evB, ↓a_on_t, ↓a_on_f, ↓a_on_und, ↓a_cond_b, ↓reduceIte, Go.Ab.part, List.getD_cons_zero, List.getD_cons_succ, List.set_cons_zero, List.set_cons_succ, List.length_cons, List.length_nil, List.cons_append, List.nil_append, cond_true, cond_false, Bool.cond_true, reduceCtorEq, Option.map_some, Option.map_none, forall_const, ne_eq, implies_true, Nat.reduceAdd, Nat.reduceLeDiff, Nat.reduceLT, Nat.beq, Option.isNone_none, beq_self_eq_true, bne_self_eq_false, Int.reduceBEq, Int.reduceBNe, Int.reduceLT, Int.reduceLE, Int.reduceGT, Int.reduceGE, Int.reduceEq, Int.reduceNe, Int.reduceToNat, List.take_zero, List.drop_zero, List.all_cons, List.all_nil, List.append_nil, List.length_append, List.length_set, List.append_assoc, List.drop_nil, List.take_nil, w1, w2, w4, w5, hget_new, hset_new] <;> try simp -dsimp only [if_conj])
  have g1 : (H ++ [AO.o 1 (hdAt b).row]).getD h.length .dead = .o 1 [I 0, I 0, U 0, I 0, I 0] := hget_app g0 (by simp)
  have g2 : (H ++ [AO.o 1 (hdAt b).row]).getD H.length .dead = .o 1 (hdAt b).row := hget_new
  have k1 : Keeps h (H ++ [AO.o 1 (hdAt b).row]) := k0.trans (Keeps.adds Adds.mk)
  have k2 : ∀ o, Keeps h ((H ++ [AO.o 1 (hdAt b).row]).set h.length o) := fun o => ⟨by rw [List.length_set]; exact k1.len, fun hj => by rw [hget_set_ne (by omega)]; exact k1.get hj⟩
  have g3 : ∀ o, ((H ++ [AO.o 1 (hdAt b).row]).set h.length o).getD h.length .dead = o := fun o => hget_set (hlt g1 (by simp))
  have fr : (hdAt b).row.take 5 = (hdAt b).row := rfl
  have fa : (hdAt b).row.all AV.one = true := rfl
  have fl : (hdAt b).row.length = 5 := rfl
  have fs : setAt [I 0, I 0, U 0, I 0, I 0] 0 (hdAt b).row = (hdAt b).row := rfl
  have e0 : [AV.v (Value.int .i64 (num b 16 2)), AV.v (Value.int .i64 (num b 18 2)), AV.v (Value.int .u64 (num b 40 8)), AV.v (Value.int .i64 (num b 60 2)), AV.v (Value.int .i64 (num b 62 2))] = (hdAt b).row := rfl
  rw [e0]
  generalize H ++ [AO.o 1 (hdAt b).row] = H1 at *
  refine at_ok (i := 20) (n := 4) hb (by omega) (by decide) ?_
  by_cases c3 : num b 20 4 ≠ 1
  · obtain ⟨e1, e2⟩ := bad21 (by omega) c2 (fun h => by omega)
    rw [e1, e2] at hK
    have d3 : ((num b 20 4 : Int) != 1) = true := by simp; omega
    (simp +contextual -dsimp only [R7, evA, evB, ↓a_on_t, ↓a_on_f, ↓a_on_und, ↓a_cond_b, ↓reduceIte, Go.Ab.part, List.getD_cons_zero, List.getD_cons_succ, List.set_cons_zero, List.set_cons_succ, List.length_cons, List.length_nil, List.cons_append, List.nil_append, cond_true, cond_false, Bool.cond_true, reduceCtorEq, Option.map_some, Option.map_none, forall_const, ne_eq, implies_true, Nat.reduceAdd, Nat.reduceLeDiff, Nat.reduceLT, Nat.beq, Option.isNone_none, beq_self_eq_true, bne_self_eq_false, Int.reduceBEq, Int.reduceBNe, Int.reduceLT, Int.reduceLE, Int.reduceGT, Int.reduceGE, Int.reduceEq, Int.reduceNe, Int.reduceToNat, List.take_zero, List.drop_zero, List.all_cons, List.all_nil, List.append_nil, List.length_append, List.length_set, List.append_assoc, List.drop_nil, List.take_nil, d3] <;> try simp -dsimp only [if_conj])
    (simp +contextual -dsimp only [R7, evA, evB, ↓a_on_t, ↓a_on_f, ↓a_on_und, ↓a_cond_b, ↓reduceIte, Go.Ab.part, List.getD_cons_zero, List.getD_cons_succ, List.set_cons_zero, List.set_cons_succ, List.length_cons, List.length_nil, List.cons_append, List.nil_append, cond_true, cond_false, Bool.cond_true, reduceCtorEq, Option.map_some, Option.map_none, forall_const, ne_eq, implies_true, Nat.reduceAdd, Nat.reduceLeDiff, Nat.reduceLT, Nat.beq, Option.isNone_none, beq_self_eq_true, bne_self_eq_false, Int.reduceBEq, Int.reduceBNe, Int.reduceLT, Int.reduceLE, Int.reduceGT, Int.reduceGE, Int.reduceEq, Int.reduceNe, Int.reduceToNat, List.take_zero, List.drop_zero, List.all_cons, List.all_nil, List.append_nil, List.length_append, List.length_set, List.append_assoc, List.drop_nil, List.take_nil, g1, g3] <;> try simp -dsimp only [if_conj])
    exact hK _ (k2 _)
  have d3 : ((num b 20 4 : Int) != 1) = false := by simp; omega
  (simp +contextual -dsimp only [R7, evA, evB, ↓a_on_t, ↓a_on_f, ↓a_on_und, ↓a_cond_b, ↓reduceIte, Go.Ab.part, List.getD_cons_zero, List.getD_cons_succ, List.set_cons_zero, List.set_cons_succ, List.length_cons, List.length_nil, List.cons_append, List.nil_append, cond_true, cond_false, Bool.cond_true, reduceCtorEq, Option.map_some, Option.map_none, forall_const, ne_eq, implies_true, Nat.reduceAdd, Nat.reduceLeDiff, Nat.reduceLT, Nat.beq, Option.isNone_none, beq_self_eq_true, bne_self_eq_false, Int.reduceBEq, Int.reduceBNe, Int.reduceLT, Int.reduceLE, Int.reduceGT, Int.reduceGE, Int.reduceEq, Int.reduceNe, Int.reduceToNat, List.take_zero, List.drop_zero, List.all_cons, List.all_nil, List.append_nil, List.length_append, List.length_set, List.append_assoc, List.drop_nil, List.take_nil, d3] <;> try simp -dsimp only [if_conj])
  refine at_ok (i := 52) (n := 2) hb (by omega) (by decide) ?_
  by_cases c4 : num b 52 2 ≠ 64
  · obtain ⟨e1, e2⟩ := bad21 (by omega) c2 (fun h => by omega)
    rw [e1, e2] at hK
    have d4 : ((num b 52 2 : Int) != 64) = true := by simp; omega
    (simp +contextual -dsimp only [R7, evA, evB, ↓a_on_t, ↓a_on_f, ↓a_on_und, ↓a_cond_b, ↓reduceIte, Go.Ab.part, List.getD_cons_zero, List.getD_cons_succ, List.set_cons_zero, List.set_cons_succ, List.length_cons, List.length_nil, List.cons_append, List.nil_append, cond_true, cond_false, Bool.cond_true, reduceCtorEq, Option.map_some, Option.map_none, forall_const, ne_eq, implies_true, Nat.reduceAdd, Nat.reduceLeDiff, Nat.reduceLT, Nat.beq, Option.isNone_none, beq_self_eq_true, bne_self_eq_false, Int.reduceBEq, Int.reduceBNe, Int.reduceLT, Int.reduceLE, Int.reduceGT, Int.reduceGE, Int.reduceEq, Int.reduceNe, Int.reduceToNat, List.take_zero, List.drop_zero, List.all_cons, List.all_nil, List.append_nil, List.length_append, List.length_set, List.append_assoc, List.drop_nil, List.take_nil, d3, d4] <;> try simp -dsimp only [if_conj])
    (simp +contextual -dsimp only [R7, evA, evB, ↓a_on_t, ↓a_on_f, ↓a_on_und, ↓a_cond_b, ↓reduceIte, Go.Ab.part, List.getD_cons_zero, List.getD_cons_succ, List.set_cons_zero, List.set_cons_succ, List.length_cons, List.length_nil, List.cons_append, List.nil_append, cond_true, cond_false, Bool.cond_true, reduceCtorEq, Option.map_some, Option.map_none, forall_const, ne_eq, implies_true, Nat.reduceAdd, Nat.reduceLeDiff, Nat.reduceLT, Nat.beq, Option.isNone_none, beq_self_eq_true, bne_self_eq_false, Int.reduceBEq, Int.reduceBNe, Int.reduceLT, Int.reduceLE, Int.reduceGT, Int.reduceGE, Int.reduceEq, Int.reduceNe, Int.reduceToNat, List.take_zero, List.drop_zero, List.all_cons, List.all_nil, List.append_nil, List.length_append, List.length_set, List.append_assoc, List.drop_nil, List.take_nil, g1, g3] <;> try simp -dsimp only [if_conj])
    exact hK _ (k2 _)
  have d4 : ((num b 52 2 : Int) != 64) = false := by simp; omega
  (simp +contextual -dsimp only [R7, evA, evB, ↓a_on_t, ↓a_on_f, ↓a_on_und, ↓a_cond_b, ↓reduceIte, Go.Ab.part, List.getD_cons_zero, List.getD_cons_succ, List.set_cons_zero, List.set_cons_succ, List.length_cons, List.length_nil, List.cons_append, List.nil_append, cond_true, cond_false, Bool.cond_true, reduceCtorEq, Option.map_some, Option.map_none, forall_const, ne_eq, implies_true, Nat.reduceAdd, Nat.reduceLeDiff, Nat.reduceLT, Nat.beq, Option.isNone_none, beq_self_eq_true, bne_self_eq_false, Int.reduceBEq, Int.reduceBNe, Int.reduceLT, Int.reduceLE, Int.reduceGT, Int.reduceGE, Int.reduceEq, Int.reduceNe, Int.reduceToNat, List.take_zero, List.drop_zero, List.all_cons, List.all_nil, List.append_nil, List.length_append, List.length_set, List.append_assoc, List.drop_nil, List.take_nil, d3, d4] <;> try simp -dsimp only [if_conj])
  refine at_ok (i := 56) (n := 2) hb (by omega) (by decide) ?_
  by_cases c5 : num b 56 2 ≠ 0
  · obtain ⟨e1, e2⟩ := bad21 (by omega) c2 (fun h => by omega)
    rw [e1, e2] at hK
    have d5 : ((num b 56 2 : Int) != 0) = true := by simp; omega
    (simp +contextual -dsimp only [R7, evA, evB, ↓a_on_t, ↓a_on_f, ↓a_on_und, ↓a_cond_b, ↓reduceIte, Go.Ab.part, List.getD_cons_zero, List.getD_cons_succ, List.set_cons_zero, List.set_cons_succ, List.length_cons, List.length_nil, List.cons_append, List.nil_append, cond_true, cond_false, Bool.cond_true, reduceCtorEq, Option.map_some, Option.map_none, forall_const, ne_eq, implies_true, Nat.reduceAdd, Nat.reduceLeDiff, Nat.reduceLT, Nat.beq, Option.isNone_none, beq_self_eq_true, bne_self_eq_false, Int.reduceBEq, Int.reduceBNe, Int.reduceLT, Int.reduceLE, Int.reduceGT, Int.reduceGE, Int.reduceEq, Int.reduceNe, Int.reduceToNat, List.take_zero, List.drop_zero, List.all_cons, List.all_nil, List.append_nil, List.length_append, List.length_set, List.append_assoc, List.drop_nil, List.take_nil, d3, d4, d5] <;> try simp -dsimp only [if_conj])
    (simp +contextual -dsimp only [R7, evA, evB, ↓a_on_t, ↓a_on_f, ↓a_on_und, ↓a_cond_b, ↓reduceIte, Go.Ab.part, List.getD_cons_zero, List.getD_cons_succ, List.set_cons_zero, List.set_cons_succ, List.length_cons, List.length_nil, List.cons_append, List.nil_append, cond_true, cond_false, Bool.cond_true, reduceCtorEq, Option.map_some, Option.map_none, forall_const, ne_eq, implies_true, Nat.reduceAdd, Nat.reduceLeDiff, Nat.reduceLT, Nat.beq, Option.isNone_none, beq_self_eq_true, bne_self_eq_false, Int.reduceBEq, Int.reduceBNe, Int.reduceLT, Int.reduceLE, Int.reduceGT, Int.reduceGE, Int.reduceEq, Int.reduceNe, Int.reduceToNat, List.take_zero, List.drop_zero, List.all_cons, List.all_nil, List.append_nil, List.length_append, List.length_set, List.append_assoc, List.drop_nil, List.take_nil, g1, g3] <;> try simp -dsimp only [if_conj])
    exact hK _ (k2 _)
  have d5 : ((num b 56 2 : Int) != 0) = false := by simp; omega
  (simp +contextual -dsimp only [R7, evA, evB, ↓a_on_t, ↓a_on_f, ↓a_on_und, ↓a_cond_b, ↓reduceIte, Go.Ab.part, List.getD_cons_zero, List.getD_cons_succ, List.set_cons_zero, List.set_cons_succ, List.length_cons, List.length_nil, List.cons_append, List.nil_append, cond_true, cond_false, Bool.cond_true, reduceCtorEq, Option.map_some, Option.map_none, forall_const, ne_eq, implies_true, Nat.reduceAdd, Nat.reduceLeDiff, Nat.reduceLT, Nat.beq, Option.isNone_none, beq_self_eq_true, bne_self_eq_false, Int.reduceBEq, Int.reduceBNe, Int.reduceLT, Int.reduceLE, Int.reduceGT, Int.reduceGE, Int.reduceEq, Int.reduceNe, Int.reduceToNat, List.take_zero, List.drop_zero, List.all_cons, List.all_nil, List.append_nil, List.length_append, List.length_set, List.append_assoc, List.drop_nil, List.take_nil, d3, d4, d5] <;> try simp -dsimp only [if_conj])
  refine at_ok (i := 58) (n := 2) hb (by omega) (by decide) ?_
  by_cases c6 : num b 58 2 ≠ 64
  · obtain ⟨e1, e2⟩ := bad21 (by omega) c2 (fun h => by omega)
    rw [e1, e2] at hK
    have d6 : ((num b 58 2 : Int) != 64) = true := by simp; omega
    (simp +contextual -dsimp only [R7, evA, evB, ↓a_on_t, ↓a_on_f, ↓a_on_und, ↓a_cond_b, ↓reduceIte, Go.Ab.part, List.getD_cons_zero, List.getD_cons_succ, List.set_cons_zero, List.set_cons_succ, List.length_cons, List.length_nil, List.cons_append, List.nil_append, cond_true, cond_false, Bool.cond_true, reduceCtorEq, Option.map_some, Option.map_none, forall_const, ne_eq, implies_true, Nat.reduceAdd, Nat.reduceLeDiff, Nat.reduceLT, Nat.beq, Option.isNone_none, beq_self_eq_true, bne_self_eq_false, Int.reduceBEq, Int.reduceBNe, Int.reduceLT, Int.reduceLE, Int.reduceGT, Int.reduceGE, Int.reduceEq, Int.reduceNe, Int.reduceToNat, List.take_zero, List.drop_zero, List.all_cons, List.all_nil, List.append_nil, List.length_append, List.length_set, List.append_assoc, List.drop_nil, List.take_nil, d3, d4, d5, d6] <;> try simp -dsimp only [if_conj])
    (simp +contextual -dsimp only [R7, evA, evB, ↓a_on_t, ↓a_on_f, ↓a_on_und, ↓a_cond_b, ↓reduceIte, Go.Ab.part, List.getD_cons_zero, List.getD_cons_succ, List.set_cons_zero, List.set_cons_succ, List.length_cons, List.length_nil, List.cons_append, List.nil_append, cond_true, cond_false, Bool.cond_true, reduceCtorEq, Option.map_some, Option.map_none, forall_const, ne_eq, implies_true, Nat.reduceAdd, Nat.reduceLeDiff, Nat.reduceLT, Nat.beq, Option.isNone_none, beq_self_eq_true, bne_self_eq_false, Int.reduceBEq, Int.reduceBNe, Int.reduceLT, Int.reduceLE, Int.reduceGT, Int.reduceGE, Int.reduceEq, Int.reduceNe, Int.reduceToNat, List.take_zero, List.drop_zero, List.all_cons, List.all_nil, List.append_nil, List.length_append, List.length_set, List.append_assoc, List.drop_nil, List.take_nil, g1, g3] <;> try simp -dsimp only [if_conj])
    exact hK _ (k2 _)
  have d6 : ((num b 58 2 : Int) != 64) = false := by simp; omega
  (simp +contextual -dsimp only [R7, evA, evB, ↓a_on_t, ↓a_on_f, ↓a_on_und, ↓a_cond_b, ↓reduceIte, Go.Ab.part, List.getD_cons_zero, List.getD_cons_succ, List.set_cons_zero, List.set_cons_succ, List.length_cons, List.length_nil, List.cons_append, List.nil_append, cond_true, cond_false, Bool.cond_true, reduceCtorEq, Option.map_some, Option.map_none, forall_const, ne_eq, implies_true, Nat.reduceAdd, Nat.reduceLeDiff, Nat.reduceLT, Nat.beq, Option.isNone_none, beq_self_eq_true, bne_self_eq_false, Int.reduceBEq, Int.reduceBNe, Int.reduceLT, Int.reduceLE, Int.reduceGT, Int.reduceGE, Int.reduceEq, Int.reduceNe, Int.reduceToNat, List.take_zero, List.drop_zero, List.all_cons, List.all_nil, List.append_nil, List.length_append, List.length_set, List.append_assoc, List.drop_nil, List.take_nil, d3, d4, d5, d6, g2] <;> try simp -dsimp only [if_conj])
  refine ⟨by rw [fl]; omega, ?_⟩
  refine rRight_ok (hd_fit b) (by omega) (by omega) fun l => ?_
  have k3 : Keeps h (H1 ++ l) := k1.trans (Keeps.adds Adds.mk)
  have g4 : (H1 ++ l).getD H.length .dead = .o 1 (hdAt b).row := hget_app g2 (by simp)
  have g5 : (H1 ++ l).getD h.length .dead = .o 1 [I 0, I 0, U 0, I 0, I 0] := hget_app g1 (by simp)
  have g6 : ∀ o, ((H1 ++ l).set h.length o).getD h.length .dead = o := fun o => hget_set (hlt g5 (by simp))
  have k6 : ∀ o, Keeps h ((H1 ++ l).set h.length o) := fun o => ⟨by rw [List.length_set]; exact k3.len, fun hj => by rw [hget_set_ne (by omega)]; exact k3.get hj⟩
  generalize H1 ++ l = H2 at *
  cases c7 : right (hdAt b) b.length with
  | false =>
    obtain ⟨e1, e2⟩ := bad21 (by omega) c2 (fun h => by rw [c7] at h; exact absurd h.2.2.2.2 (by simp))
    rw [e1, e2] at hK
    (simp +contextual -dsimp only [R7, evA, evB, ↓a_on_t, ↓a_on_f, ↓a_on_und, ↓a_cond_b, ↓reduceIte, Go.Ab.part, List.getD_cons_zero, List.getD_cons_succ, List.set_cons_zero, List.set_cons_succ, List.length_cons, List.length_nil, List.cons_append, List.nil_append, cond_true, cond_false, Bool.cond_true, reduceCtorEq, Option.map_some, Option.map_none, forall_const, ne_eq, implies_true, Nat.reduceAdd, Nat.reduceLeDiff, Nat.reduceLT, Nat.beq, Option.isNone_none, beq_self_eq_true, bne_self_eq_false, Int.reduceBEq, Int.reduceBNe, Int.reduceLT, Int.reduceLE, Int.reduceGT, Int.reduceGE, Int.reduceEq, Int.reduceNe, Int.reduceToNat, List.take_zero, List.drop_zero, List.all_cons, List.all_nil, List.append_nil, List.length_append, List.length_set, List.append_assoc, List.drop_nil, List.take_nil, g5, g6] <;> try simp -dsimp only [if_conj])
    exact hK _ (k6 _)
  | true =>
    obtain ⟨e1, e2⟩ := bad0 (by omega) c2 ⟨by omega, by omega, by omega, by omega, c7⟩
    rw [e1, e2] at hK
    (simp +contextual -dsimp only [R7, evA, evB, ↓a_on_t, ↓a_on_f, ↓a_on_und, ↓a_cond_b, ↓reduceIte, Go.Ab.part, List.getD_cons_zero, List.getD_cons_succ, List.set_cons_zero, List.set_cons_succ, List.length_cons, List.length_nil, List.cons_append, List.nil_append, cond_true, cond_false, Bool.cond_true, reduceCtorEq, Option.map_some, Option.map_none, forall_const, ne_eq, implies_true, Nat.reduceAdd, Nat.reduceLeDiff, Nat.reduceLT, Nat.beq, Option.isNone_none, beq_self_eq_true, bne_self_eq_false, Int.reduceBEq, Int.reduceBNe, Int.reduceLT, Int.reduceLE, Int.reduceGT, Int.reduceGE, Int.reduceEq, Int.reduceNe, Int.reduceToNat, List.take_zero, List.drop_zero, List.all_cons, List.all_nil, List.append_nil, List.length_append, List.length_set, List.append_assoc, List.drop_nil, List.take_nil, g4, g5, g6, fr, fa, fl, fs] <;> try simp -dsimp only [if_conj])
    exact hK _ (k6 _)
theorem eql_byt (neg : Bool) : ∀ (x y : List UInt8) (t : Bool) (h : Heap) (K : Kt), x.length = y.length → a_eql neg (List.replicate x.length (.int .u8)) (byt x) (byt y) t h K = K.K (Bo (bif neg then !(t && decide (x = y)) else (t && decide (x = y)))) h
  | [], [], t, h, K, _ => by simp [byt_nil, a_eql]
  | a :: x, b :: y, t, h, K, e => by
    simp only [List.length_cons, List.replicate_succ, byt_cons, a_eql, true_and]
    rw [eql_byt neg x y _ h K (by simpa using e)]
    have : (t && (a.toNat : Int) == (b.toNat : Int) && decide (x = y)) = (t && decide (a :: x = b :: y)) := by
      by_cases hab : a = b
      · subst hab; simp
      · have : ((a.toNat : Int) == (b.toNat : Int)) = false := by
          rw [beq_eq_false_iff_ne]; intro h; exact hab (UInt8.toNat.inj (by omega))
        simp [this, hab]
    rw [this]
  | [], _ :: _, _, _, _, e => by simp at e
  | _ :: _, [], _, _, _, e => by simp at e
structure TS (h : Heap) (B : List UInt8) (cid hd p : Nat) (o : List AV) (H : Heap) : Prop where
  c : H.getD cid .dead = cur ⟨B, p, 0⟩
  z : H.getD h.length .dead = .o 1 [I 0, I 0, U 0, I 0, I 0]
  d : H.getD hd .dead = .o 1 o
  k : Keeps h H
  l : B.length = 64
  n1 : h.length < cid
  n2 : cid < hd
theorem TS.put {h H : Heap} {B : List UInt8} {cid hd p : Nat} {o o' : List AV} (s : TS h B cid hd p o H) : TS h B cid hd p o' (H.set hd (.o 1 o')) := by
  have n1 := s.n1; have n2 := s.n2
  exact ⟨(hget_set_ne (by omega)).trans s.c, (hget_set_ne (by omega)).trans s.z, hget_set (hlt s.d (by simp)), ⟨by rw [List.length_set]; exact s.k.len, fun hj => by rw [hget_set_ne (by omega)]; exact s.k.get hj⟩, s.l, n1, n2⟩
theorem TS.read {h H : Heap} {B : List UInt8} {cid hd p q : Nat} {o : List AV} (s : TS h B cid hd p o H) : TS h B cid hd q o (H.set cid (cur ⟨B, q, 0⟩)) := by
  have n1 := s.n1; have n2 := s.n2
  exact ⟨hget_set (hlt s.c (cur_ne _)), (hget_set_ne (by omega)).trans s.z, (hget_set_ne (by omega)).trans s.d, ⟨by rw [List.length_set]; exact s.k.len, fun hj => by rw [hget_set_ne (by omega)]; exact s.k.get hj⟩, s.l, n1, n2⟩
theorem TS.inv {h H : Heap} {B : List UInt8} {cid hd p : Nat} {o : List AV} (s : TS h B cid hd p o H) (hp : p ≤ 64) : (⟨B, p, 0⟩ : Cur).inv := Cur.mki (by rw [s.l]; exact hp) (by rw [s.l]; omega)
theorem rd2 {h H : Heap} {B : List UInt8} {cid hd p : Nat} {o : List AV} (s : TS h B cid hd p o H) (hp : p + 2 ≤ 64) (hK : ∀ H', TS h B cid hd (p + 2) o H' → K.K (U (num B p 2)) H') : ACall X 16 [.p cid 0] H K := by
  refine U16_ok s.c (s.inv (by omega)) ?_
  rw [Cur.gots (by rw [s.l]; exact hp), Cur.skips (by rw [s.l]; exact hp)]
  exact hK _ s.read
theorem rd4 {h H : Heap} {B : List UInt8} {cid hd p : Nat} {o : List AV} (s : TS h B cid hd p o H) (hp : p + 4 ≤ 64) (hK : ∀ H', TS h B cid hd (p + 4) o H' → K.K (U (num B p 4)) H') : ACall X 17 [.p cid 0] H K := by
  refine U32_ok s.c (s.inv (by omega)) ?_
  rw [Cur.gots (by rw [s.l]; exact hp), Cur.skips (by rw [s.l]; exact hp)]
  exact hK _ s.read
theorem rd8 {h H : Heap} {B : List UInt8} {cid hd p : Nat} {o : List AV} (s : TS h B cid hd p o H) (hp : p + 8 ≤ 64) (hK : ∀ H', TS h B cid hd (p + 8) o H' → K.K (U (num B p 8)) H') : ACall X 18 [.p cid 0] H K := by
  refine U64_ok s.c (s.inv (by omega)) ?_
  rw [Cur.gots (by rw [s.l]; exact hp), Cur.skips (by rw [s.l]; exact hp)]
  exact hK _ s.read
theorem num_take {b : List UInt8} {i n : Nat} (hi : i + n ≤ 64) : num (b.take 64) i n = num b i n := by
  unfold num
  congr 1
  rw [List.drop_take, List.take_take, Nat.min_eq_left (by omega)]
theorem Take_head {b r : List UInt8} {id : Nat} (hid : h.getD id .dead = .o 1 (byt (b ++ r))) (hb : b.length ≤ bigRoom) (hK : ∀ h1, Keeps h h1 → K.K (.t [.g (hdOf b).row, I (bad b)]) h1) : ACall X 6 [.s id 0 b.length] h K := by
  have hbr : bigRoom = 140737488355328 := rfl
  have hil := hlt hid (by simp)
  apply i6
  by_cases c1 : b.length < 64
  · obtain ⟨e1, e2⟩ := bad20 (.inl c1)
    rw [e1, e2] at hK
    have d1 : decide ((b.length : Int) < 64) = true := by simp; omega
    (simp +contextual -dsimp only [R6, evA, evB, ↓a_on_t, ↓a_on_f, ↓a_on_und, ↓a_cond_b, ↓reduceIte, Go.Ab.part, List.getD_cons_zero, List.getD_cons_succ, List.set_cons_zero, List.set_cons_succ, List.length_cons, List.length_nil, List.cons_append, List.nil_append, cond_true, cond_false, Bool.cond_true, reduceCtorEq, Option.map_some, Option.map_none, forall_const, ne_eq, implies_true, Nat.reduceAdd, Nat.reduceLeDiff, Nat.reduceLT, Nat.beq, Option.isNone_none, beq_self_eq_true, bne_self_eq_false, Int.reduceBEq, Int.reduceBNe, Int.reduceLT, Int.reduceLE, Int.reduceGT, Int.reduceGE, Int.reduceEq, Int.reduceNe, Int.reduceToNat, List.take_zero, List.drop_zero, List.all_cons, List.all_nil, List.append_nil, List.length_append, List.length_set, List.append_assoc, List.drop_nil, List.take_nil, d1, hget_new, hset_new] <;> try simp -dsimp only [if_conj])
    exact hK _ (Keeps.adds Adds.mk)
  have d1 : decide ((b.length : Int) < 64) = false := by simp; omega
  have g0 : (h ++ [AO.o 1 [I 0, I 0, U 0, I 0, I 0]]).getD h.length .dead = .o 1 [I 0, I 0, U 0, I 0, I 0] := hget_new
  have g1 : (h ++ [AO.o 1 [I 0, I 0, U 0, I 0, I 0]]).getD id .dead = .o 1 (byt (b ++ r)) := hget_app hid (by simp)
  have k0 : Keeps h (h ++ [AO.o 1 [I 0, I 0, U 0, I 0, I 0]]) := Keeps.adds Adds.mk
  (simp +contextual -dsimp only [R6, evA, evB, ↓a_on_t, ↓a_on_f, ↓a_on_und, ↓a_cond_b, ↓reduceIte, Go.Ab.part, List.getD_cons_zero, List.getD_cons_succ, List.set_cons_zero, List.set_cons_succ, List.length_cons, List.length_nil, List.cons_append, List.nil_append, cond_true, cond_false, Bool.cond_true, reduceCtorEq, Option.map_some, Option.map_none, forall_const, ne_eq, implies_true, Nat.reduceAdd, Nat.reduceLeDiff, Nat.reduceLT, Nat.beq, Option.isNone_none, beq_self_eq_true, bne_self_eq_false, Int.reduceBEq, Int.reduceBNe, Int.reduceLT, Int.reduceLE, Int.reduceGT, Int.reduceGE, Int.reduceEq, Int.reduceNe, Int.reduceToNat, List.take_zero, List.drop_zero, List.all_cons, List.all_nil, List.append_nil, List.length_append, List.length_set, List.append_assoc, List.drop_nil, List.take_nil, d1] <;> try simp -dsimp only [if_conj])
  generalize h ++ [AO.o 1 [I 0, I 0, U 0, I 0, I 0]] = H at *
  have hl := hlt g0 (by simp)
  have t7 : (byt (b ++ r)).take 7 = byt (b.take 7) := by rw [byt_take, List.take_append_of_le_length (by omega)]
  have l7 : (byt (b ++ r)).length = b.length + r.length := by rw [byt_length, List.length_append]
  (simp +contextual -dsimp only [R6, evA, evB, ↓a_on_t, ↓a_on_f, ↓a_on_und, ↓a_cond_b, ↓reduceIte, Go.Ab.part, List.getD_cons_zero, List.getD_cons_succ, List.set_cons_zero, List.set_cons_succ, List.length_cons, List.length_nil, List.cons_append, List.nil_append, cond_true, cond_false, Bool.cond_true, reduceCtorEq, Option.map_some, Option.map_none, forall_const, ne_eq, implies_true, Nat.reduceAdd, Nat.reduceLeDiff, Nat.reduceLT, Nat.beq, Option.isNone_none, beq_self_eq_true, bne_self_eq_false, Int.reduceBEq, Int.reduceBNe, Int.reduceLT, Int.reduceLE, Int.reduceGT, Int.reduceGE, Int.reduceEq, Int.reduceNe, Int.reduceToNat, List.take_zero, List.drop_zero, List.all_cons, List.all_nil, List.append_nil, List.length_append, List.length_set, List.append_assoc, List.drop_nil, List.take_nil, d1, g1, t7, l7] <;> try simp -dsimp only [if_conj])
  refine ⟨by omega, by omega, ?_⟩
  refine magic_ok fun l => ?_
  have g2 : (H ++ l).getD h.length .dead = .o 1 [I 0, I 0, U 0, I 0, I 0] := hget_app g0 (by simp)
  have g3 : (H ++ l).getD id .dead = .o 1 (byt (b ++ r)) := hget_app g1 (by simp)
  have k1 : Keeps h (H ++ l) := k0.trans (Keeps.adds Adds.mk)
  generalize H ++ l = H1 at *
  have lb : (b.take 7).length = 7 := by rw [List.length_take]; omega
  have eq7 : ∀ (hh : Heap) (KK : Kt), a_eql true [TK.int .u8, TK.int .u8, TK.int .u8, TK.int .u8, TK.int .u8, TK.int .u8, TK.int .u8] (byt (b.take 7)) (byt elf) true hh KK = KK.K (Bo (!decide (b.take 7 = elf))) hh := fun hh KK => by
    have := eql_byt true (b.take 7) elf true hh KK (by rw [lb]; rfl)
    rw [lb] at this
    exact this
  have hl1 := hlt g2 (by simp)
  have k2 : ∀ o, Keeps h (H1.set h.length o) := fun o => ⟨by rw [List.length_set]; exact k1.len, fun hj => by rw [hget_set_ne (by omega)]; exact k1.get hj⟩
  have g4 : ∀ o, (H1.set h.length o).getD h.length .dead = o := fun o => hget_set hl1
  by_cases c2 : b.take 7 ≠ elf
  · obtain ⟨e1, e2⟩ := bad20 (.inr c2)
    rw [e1, e2] at hK
    have d2 : (!decide (b.take 7 = elf)) = true := by simpa using c2
    (simp +contextual -dsimp only [R6, evA, evB, ↓a_on_t, ↓a_on_f, ↓a_on_und, ↓a_cond_b, ↓reduceIte, Go.Ab.part, List.getD_cons_zero, List.getD_cons_succ, List.set_cons_zero, List.set_cons_succ, List.length_cons, List.length_nil, List.cons_append, List.nil_append, cond_true, cond_false, Bool.cond_true, reduceCtorEq, Option.map_some, Option.map_none, forall_const, ne_eq, implies_true, Nat.reduceAdd, Nat.reduceLeDiff, Nat.reduceLT, Nat.beq, Option.isNone_none, beq_self_eq_true, bne_self_eq_false, Int.reduceBEq, Int.reduceBNe, Int.reduceLT, Int.reduceLE, Int.reduceGT, Int.reduceGE, Int.reduceEq, Int.reduceNe, Int.reduceToNat, List.take_zero, List.drop_zero, List.all_cons, List.all_nil, List.append_nil, List.length_append, List.length_set, List.append_assoc, List.drop_nil, List.take_nil, d1, g3, t7, l7, eq7, d2, g2, g4] <;> try simp -dsimp only [if_conj])
    exact ⟨by omega, hK _ (k2 _)⟩
  replace c2 : b.take 7 = elf := Decidable.not_not.1 c2
  have d2 : (!decide (b.take 7 = elf)) = false := by simpa using c2
  (simp +contextual -dsimp only [R6, evA, evB, ↓a_on_t, ↓a_on_f, ↓a_on_und, ↓a_cond_b, ↓reduceIte, Go.Ab.part, List.getD_cons_zero, List.getD_cons_succ, List.set_cons_zero, List.set_cons_succ, List.length_cons, List.length_nil, List.cons_append, List.nil_append, cond_true, cond_false, Bool.cond_true, reduceCtorEq, Option.map_some, Option.map_none, forall_const, ne_eq, implies_true, Nat.reduceAdd, Nat.reduceLeDiff, Nat.reduceLT, Nat.beq, Option.isNone_none, beq_self_eq_true, bne_self_eq_false, Int.reduceBEq, Int.reduceBNe, Int.reduceLT, Int.reduceLE, Int.reduceGT, Int.reduceGE, Int.reduceEq, Int.reduceNe, Int.reduceToNat, List.take_zero, List.drop_zero, List.all_cons, List.all_nil, List.append_nil, List.length_append, List.length_set, List.append_assoc, List.drop_nil, List.take_nil, d1, g3, t7, l7, eq7, d2, g2, g4] <;> try simp -dsimp only [if_conj])
  refine ⟨by omega, by omega, ?_⟩
  have lB : (b.take 64).length = 64 := by rw [List.length_take]; omega
  have ht : ((b ++ r).take 64) = b.take 64 := by rw [List.take_append_of_le_length (by omega)]
  refine New_ok (l := b.take 64) (fun rr => ?_) (by show id ≠ H1.length; have := hlt g3 (by simp); omega) (by rw [lB]; decide) ?_
  · show srcObj 0 64 1 ((H1 ++ rr).getD id .dead) = _
    rw [hget_app g3 (by simp), lB, ← ht, ← byt_take]
    rfl
  have kn : ∀ l : Heap, Keeps h (H1 ++ l) := fun l => k1.trans (Keeps.adds Adds.mk)
  have gn : ∀ l : Heap, (H1 ++ l).getD h.length .dead = .o 1 [I 0, I 0, U 0, I 0, I 0] := fun l => hget_app g2 (by simp)
  have gc : (H1 ++ [AO.dead, .dead, cur ⟨b.take 64, 0, 0⟩]).getD (H1.length + 2) .dead = cur ⟨b.take 64, 0, 0⟩ := hgets _ 2 rfl
  (simp +contextual -dsimp only [R6, evA, evB, ↓a_on_t, ↓a_on_f, ↓a_on_und, ↓a_cond_b, ↓reduceIte, Go.Ab.part, List.getD_cons_zero, List.getD_cons_succ, List.set_cons_zero, List.set_cons_succ, List.length_cons, List.length_nil, List.cons_append, List.nil_append, cond_true, cond_false, Bool.cond_true, reduceCtorEq, Option.map_some, Option.map_none, forall_const, ne_eq, implies_true, Nat.reduceAdd, Nat.reduceLeDiff, Nat.reduceLT, Nat.beq, Option.isNone_none, beq_self_eq_true, bne_self_eq_false, Int.reduceBEq, Int.reduceBNe, Int.reduceLT, Int.reduceLE, Int.reduceGT, Int.reduceGE, Int.reduceEq, Int.reduceNe, Int.reduceToNat, List.take_zero, List.drop_zero, List.all_cons, List.all_nil, List.append_nil, List.length_append, List.length_set, List.append_assoc, List.drop_nil, List.take_nil] <;> try simp -dsimp only [if_conj])
  refine magic_ok fun l2 => ?_
  have w16 : IntKind.u64.wrap (IntKind.i64.wrap (7 + 9)) = ((16 : Nat) : Int) := rfl
  have gc2 : (H1 ++ [AO.dead, .dead, cur ⟨b.take 64, 0, 0⟩] ++ l2).getD (H1.length + 2) .dead = cur ⟨b.take 64, 0, 0⟩ := hget_app gc (cur_ne _)
  have gn2 : (H1 ++ [AO.dead, .dead, cur ⟨b.take 64, 0, 0⟩] ++ l2).getD h.length .dead = .o 1 [I 0, I 0, U 0, I 0, I 0] := by rw [List.append_assoc]; exact gn _
  have kn2 : Keeps h (H1 ++ [AO.dead, .dead, cur ⟨b.take 64, 0, 0⟩] ++ l2) := by rw [List.append_assoc]; exact kn _
  clear gc gn kn
  generalize H1 ++ [AO.dead, .dead, cur ⟨b.take 64, 0, 0⟩] ++ l2 = H2 at *
  (simp +contextual -dsimp only [R6, evA, evB, ↓a_on_t, ↓a_on_f, ↓a_on_und, ↓a_cond_b, ↓reduceIte, Go.Ab.part, List.getD_cons_zero, List.getD_cons_succ, List.set_cons_zero, List.set_cons_succ, List.length_cons, List.length_nil, List.cons_append, List.nil_append, cond_true, cond_false, Bool.cond_true, reduceCtorEq, Option.map_some, Option.map_none, forall_const, ne_eq, implies_true, Nat.reduceAdd, Nat.reduceLeDiff, Nat.reduceLT, Nat.beq, Option.isNone_none, beq_self_eq_true, bne_self_eq_false, Int.reduceBEq, Int.reduceBNe, Int.reduceLT, Int.reduceLE, Int.reduceGT, Int.reduceGE, Int.reduceEq, Int.reduceNe, Int.reduceToNat, List.take_zero, List.drop_zero, List.all_cons, List.all_nil, List.append_nil, List.length_append, List.length_set, List.append_assoc, List.drop_nil, List.take_nil, w16] <;> try simp -dsimp only [if_conj])
  refine Seek_ok (n := 16) gc2 (Cur.mki (by rw [lB]; omega) (by rw [lB]; omega)) (by decide) ?_
  rw [show (⟨b.take 64, 0, 0⟩ : Cur).seek 16 = ⟨b.take 64, 16, 0⟩ by unfold Cur.seek; rw [if_pos rfl, if_pos (by rw [lB]; omega)]]
  (simp +contextual -dsimp only [R6, evA, evB, ↓a_on_t, ↓a_on_f, ↓a_on_und, ↓a_cond_b, ↓reduceIte, Go.Ab.part, List.getD_cons_zero, List.getD_cons_succ, List.set_cons_zero, List.set_cons_succ, List.length_cons, List.length_nil, List.cons_append, List.nil_append, cond_true, cond_false, Bool.cond_true, reduceCtorEq, Option.map_some, Option.map_none, forall_const, ne_eq, implies_true, Nat.reduceAdd, Nat.reduceLeDiff, Nat.reduceLT, Nat.beq, Option.isNone_none, beq_self_eq_true, bne_self_eq_false, Int.reduceBEq, Int.reduceBNe, Int.reduceLT, Int.reduceLE, Int.reduceGT, Int.reduceGE, Int.reduceEq, Int.reduceNe, Int.reduceToNat, List.take_zero, List.drop_zero, List.all_cons, List.all_nil, List.append_nil, List.length_append, List.length_set, List.append_assoc, List.drop_nil, List.take_nil] <;> try simp -dsimp only [if_conj])
  have hc2 := hlt gc2 (cur_ne _)
  have s0 : TS h (b.take 64) (H1.length + 2) H2.length 16 [I 0, I 0, U 0, I 0, I 0] (H2.set (H1.length + 2) (cur ⟨b.take 64, 16, 0⟩) ++ [AO.o 1 [I 0, I 0, U 0, I 0, I 0]]) := by
    refine ⟨hget_app (hget_set hc2) (cur_ne _), hget_app ((hget_set_ne (by omega)).trans gn2) (by simp), ?_, ⟨by rw [List.length_append, List.length_set]; have := kn2.len; omega, fun hj => ?_⟩, lB, by omega, hc2⟩
    · rw [show H2.length = (H2.set (H1.length + 2) (cur ⟨b.take 64, 16, 0⟩)).length by simp]; exact hget_new
    · rw [Adds.mk.at (by rw [List.length_set]; have := kn2.len; omega), hget_set_ne (by omega)]; exact kn2.get hj
  generalize H2.set (H1.length + 2) (cur ⟨b.take 64, 16, 0⟩) ++ [AO.o 1 [I 0, I 0, U 0, I 0, I 0]] = G at *
  generalize hcid : H1.length + 2 = cid at *
  generalize hhd : H2.length = hd at *
  clear gc2 gn2 kn2 k2 g4 g3 g2 k1 hc2 hl1
  have n1 := num_lt b 16 2; have n2 := num_lt b 18 2; have n3 := num_lt b 40 8; have n4 := num_lt b 60 2; have n5 := num_lt b 62 2
  have w1 : IntKind.i64.wrap (num b 16 2 : Int) = num b 16 2 := wrap_i64 (by omega) (by omega)
  have w2 : IntKind.i64.wrap (num b 18 2 : Int) = num b 18 2 := wrap_i64 (by omega) (by omega)
  have w4 : IntKind.i64.wrap (num b 60 2 : Int) = num b 60 2 := wrap_i64 (by omega) (by omega)
  have w5 : IntKind.i64.wrap (num b 62 2 : Int) = num b 62 2 := wrap_i64 (by omega) (by omega)
  refine rd2 s0 (by decide) fun G s1 => ?_
  rw [num_take (by decide)]
  (simp +contextual -dsimp only [R6, evA, evB, ↓a_on_t, ↓a_on_f, ↓a_on_und, ↓a_cond_b, ↓reduceIte, Go.Ab.part, List.getD_cons_zero, List.getD_cons_succ, List.set_cons_zero, List.set_cons_succ, List.length_cons, List.length_nil, List.cons_append, List.nil_append, cond_true, cond_false, Bool.cond_true, reduceCtorEq, Option.map_some, Option.map_none, forall_const, ne_eq, implies_true, Nat.reduceAdd, Nat.reduceLeDiff, Nat.reduceLT, Nat.beq, Option.isNone_none, beq_self_eq_true, bne_self_eq_false, Int.reduceBEq, Int.reduceBNe, Int.reduceLT, Int.reduceLE, Int.reduceGT, Int.reduceGE, Int.reduceEq, Int.reduceNe, Int.reduceToNat, List.take_zero, List.drop_zero, List.all_cons, List.all_nil, List.append_nil, List.length_append, List.length_set, List.append_assoc, List.drop_nil, List.take_nil, w1, w2] <;> try simp -dsimp only [if_conj])
  refine rd2 s1 (by decide) fun G s2 => ?_
  rw [num_take (by decide)]
  (simp +contextual -dsimp only [R6, evA, evB, ↓a_on_t, ↓a_on_f, ↓a_on_und, ↓a_cond_b, ↓reduceIte, Go.Ab.part, List.getD_cons_zero, List.getD_cons_succ, List.set_cons_zero, List.set_cons_succ, List.length_cons, List.length_nil, List.cons_append, List.nil_append, cond_true, cond_false, Bool.cond_true, reduceCtorEq, Option.map_some, Option.map_none, forall_const, ne_eq, implies_true, Nat.reduceAdd, Nat.reduceLeDiff, Nat.reduceLT, Nat.beq, Option.isNone_none, beq_self_eq_true, bne_self_eq_false, Int.reduceBEq, Int.reduceBNe, Int.reduceLT, Int.reduceLE, Int.reduceGT, Int.reduceGE, Int.reduceEq, Int.reduceNe, Int.reduceToNat, List.take_zero, List.drop_zero, List.all_cons, List.all_nil, List.append_nil, List.length_append, List.length_set, List.append_assoc, List.drop_nil, List.take_nil, w1, w2, s2.d] <;> try simp -dsimp only [if_conj])
  have s3 := s2.put (o' := [I (num b 16 2), I 0, U 0, I 0, I 0])
  generalize G.set hd (.o 1 [I (num b 16 2), I 0, U 0, I 0, I 0]) = G at *
  (simp +contextual -dsimp only [R6, evA, evB, ↓a_on_t, ↓a_on_f, ↓a_on_und, ↓a_cond_b, ↓reduceIte, Go.Ab.part, List.getD_cons_zero, List.getD_cons_succ, List.set_cons_zero, List.set_cons_succ, List.length_cons, List.length_nil, List.cons_append, List.nil_append, cond_true, cond_false, Bool.cond_true, reduceCtorEq, Option.map_some, Option.map_none, forall_const, ne_eq, implies_true, Nat.reduceAdd, Nat.reduceLeDiff, Nat.reduceLT, Nat.beq, Option.isNone_none, beq_self_eq_true, bne_self_eq_false, Int.reduceBEq, Int.reduceBNe, Int.reduceLT, Int.reduceLE, Int.reduceGT, Int.reduceGE, Int.reduceEq, Int.reduceNe, Int.reduceToNat, List.take_zero, List.drop_zero, List.all_cons, List.all_nil, List.append_nil, List.length_append, List.length_set, List.append_assoc, List.drop_nil, List.take_nil, w1, w2, s3.d] <;> try simp -dsimp only [if_conj])
  have s4 := s3.put (o' := [I (num b 16 2), I (num b 18 2), U 0, I 0, I 0])
  generalize G.set hd (.o 1 [I (num b 16 2), I (num b 18 2), U 0, I 0, I 0]) = G at *
  refine rd4 s4 (by decide) fun G s5 => ?_
  rw [num_take (by decide)]
  (simp +contextual -dsimp only [R6, evA, evB, ↓a_on_t, ↓a_on_f, ↓a_on_und, ↓a_cond_b, ↓reduceIte, Go.Ab.part, List.getD_cons_zero, List.getD_cons_succ, List.set_cons_zero, List.set_cons_succ, List.length_cons, List.length_nil, List.cons_append, List.nil_append, cond_true, cond_false, Bool.cond_true, reduceCtorEq, Option.map_some, Option.map_none, forall_const, ne_eq, implies_true, Nat.reduceAdd, Nat.reduceLeDiff, Nat.reduceLT, Nat.beq, Option.isNone_none, beq_self_eq_true, bne_self_eq_false, Int.reduceBEq, Int.reduceBNe, Int.reduceLT, Int.reduceLE, Int.reduceGT, Int.reduceGE, Int.reduceEq, Int.reduceNe, Int.reduceToNat, List.take_zero, List.drop_zero, List.all_cons, List.all_nil, List.append_nil, List.length_append, List.length_set, List.append_assoc, List.drop_nil, List.take_nil] <;> try simp -dsimp only [if_conj])
  refine rd8 s5 (by decide) fun G s6 => ?_
  rw [num_take (by decide)]
  (simp +contextual -dsimp only [R6, evA, evB, ↓a_on_t, ↓a_on_f, ↓a_on_und, ↓a_cond_b, ↓reduceIte, Go.Ab.part, List.getD_cons_zero, List.getD_cons_succ, List.set_cons_zero, List.set_cons_succ, List.length_cons, List.length_nil, List.cons_append, List.nil_append, cond_true, cond_false, Bool.cond_true, reduceCtorEq, Option.map_some, Option.map_none, forall_const, ne_eq, implies_true, Nat.reduceAdd, Nat.reduceLeDiff, Nat.reduceLT, Nat.beq, Option.isNone_none, beq_self_eq_true, bne_self_eq_false, Int.reduceBEq, Int.reduceBNe, Int.reduceLT, Int.reduceLE, Int.reduceGT, Int.reduceGE, Int.reduceEq, Int.reduceNe, Int.reduceToNat, List.take_zero, List.drop_zero, List.all_cons, List.all_nil, List.append_nil, List.length_append, List.length_set, List.append_assoc, List.drop_nil, List.take_nil] <;> try simp -dsimp only [if_conj])
  refine rd8 s6 (by decide) fun G s7 => ?_
  rw [num_take (by decide)]
  (simp +contextual -dsimp only [R6, evA, evB, ↓a_on_t, ↓a_on_f, ↓a_on_und, ↓a_cond_b, ↓reduceIte, Go.Ab.part, List.getD_cons_zero, List.getD_cons_succ, List.set_cons_zero, List.set_cons_succ, List.length_cons, List.length_nil, List.cons_append, List.nil_append, cond_true, cond_false, Bool.cond_true, reduceCtorEq, Option.map_some, Option.map_none, forall_const, ne_eq, implies_true, Nat.reduceAdd, Nat.reduceLeDiff, Nat.reduceLT, Nat.beq, Option.isNone_none, beq_self_eq_true, bne_self_eq_false, Int.reduceBEq, Int.reduceBNe, Int.reduceLT, Int.reduceLE, Int.reduceGT, Int.reduceGE, Int.reduceEq, Int.reduceNe, Int.reduceToNat, List.take_zero, List.drop_zero, List.all_cons, List.all_nil, List.append_nil, List.length_append, List.length_set, List.append_assoc, List.drop_nil, List.take_nil] <;> try simp -dsimp only [if_conj])
  refine rd8 s7 (by decide) fun G s8 => ?_
  rw [num_take (by decide)]
  (simp +contextual -dsimp only [R6, evA, evB, ↓a_on_t, ↓a_on_f, ↓a_on_und, ↓a_cond_b, ↓reduceIte, Go.Ab.part, List.getD_cons_zero, List.getD_cons_succ, List.set_cons_zero, List.set_cons_succ, List.length_cons, List.length_nil, List.cons_append, List.nil_append, cond_true, cond_false, Bool.cond_true, reduceCtorEq, Option.map_some, Option.map_none, forall_const, ne_eq, implies_true, Nat.reduceAdd, Nat.reduceLeDiff, Nat.reduceLT, Nat.beq, Option.isNone_none, beq_self_eq_true, bne_self_eq_false, Int.reduceBEq, Int.reduceBNe, Int.reduceLT, Int.reduceLE, Int.reduceGT, Int.reduceGE, Int.reduceEq, Int.reduceNe, Int.reduceToNat, List.take_zero, List.drop_zero, List.all_cons, List.all_nil, List.append_nil, List.length_append, List.length_set, List.append_assoc, List.drop_nil, List.take_nil, s8.d] <;> try simp -dsimp only [if_conj])
  have s9 := s8.put (o' := [I (num b 16 2), I (num b 18 2), U (num b 40 8), I 0, I 0])
  generalize G.set hd (.o 1 [I (num b 16 2), I (num b 18 2), U (num b 40 8), I 0, I 0]) = G at *
  refine rd4 s9 (by decide) fun G s10 => ?_
  rw [num_take (by decide)]
  (simp +contextual -dsimp only [R6, evA, evB, ↓a_on_t, ↓a_on_f, ↓a_on_und, ↓a_cond_b, ↓reduceIte, Go.Ab.part, List.getD_cons_zero, List.getD_cons_succ, List.set_cons_zero, List.set_cons_succ, List.length_cons, List.length_nil, List.cons_append, List.nil_append, cond_true, cond_false, Bool.cond_true, reduceCtorEq, Option.map_some, Option.map_none, forall_const, ne_eq, implies_true, Nat.reduceAdd, Nat.reduceLeDiff, Nat.reduceLT, Nat.beq, Option.isNone_none, beq_self_eq_true, bne_self_eq_false, Int.reduceBEq, Int.reduceBNe, Int.reduceLT, Int.reduceLE, Int.reduceGT, Int.reduceGE, Int.reduceEq, Int.reduceNe, Int.reduceToNat, List.take_zero, List.drop_zero, List.all_cons, List.all_nil, List.append_nil, List.length_append, List.length_set, List.append_assoc, List.drop_nil, List.take_nil] <;> try simp -dsimp only [if_conj])
  refine rd2 s10 (by decide) fun G s11 => ?_
  rw [num_take (by decide)]
  (simp +contextual -dsimp only [R6, evA, evB, ↓a_on_t, ↓a_on_f, ↓a_on_und, ↓a_cond_b, ↓reduceIte, Go.Ab.part, List.getD_cons_zero, List.getD_cons_succ, List.set_cons_zero, List.set_cons_succ, List.length_cons, List.length_nil, List.cons_append, List.nil_append, cond_true, cond_false, Bool.cond_true, reduceCtorEq, Option.map_some, Option.map_none, forall_const, ne_eq, implies_true, Nat.reduceAdd, Nat.reduceLeDiff, Nat.reduceLT, Nat.beq, Option.isNone_none, beq_self_eq_true, bne_self_eq_false, Int.reduceBEq, Int.reduceBNe, Int.reduceLT, Int.reduceLE, Int.reduceGT, Int.reduceGE, Int.reduceEq, Int.reduceNe, Int.reduceToNat, List.take_zero, List.drop_zero, List.all_cons, List.all_nil, List.append_nil, List.length_append, List.length_set, List.append_assoc, List.drop_nil, List.take_nil] <;> try simp -dsimp only [if_conj])
  refine rd2 s11 (by decide) fun G s12 => ?_
  rw [num_take (by decide)]
  (simp +contextual -dsimp only [R6, evA, evB, ↓a_on_t, ↓a_on_f, ↓a_on_und, ↓a_cond_b, ↓reduceIte, Go.Ab.part, List.getD_cons_zero, List.getD_cons_succ, List.set_cons_zero, List.set_cons_succ, List.length_cons, List.length_nil, List.cons_append, List.nil_append, cond_true, cond_false, Bool.cond_true, reduceCtorEq, Option.map_some, Option.map_none, forall_const, ne_eq, implies_true, Nat.reduceAdd, Nat.reduceLeDiff, Nat.reduceLT, Nat.beq, Option.isNone_none, beq_self_eq_true, bne_self_eq_false, Int.reduceBEq, Int.reduceBNe, Int.reduceLT, Int.reduceLE, Int.reduceGT, Int.reduceGE, Int.reduceEq, Int.reduceNe, Int.reduceToNat, List.take_zero, List.drop_zero, List.all_cons, List.all_nil, List.append_nil, List.length_append, List.length_set, List.append_assoc, List.drop_nil, List.take_nil] <;> try simp -dsimp only [if_conj])
  refine rd2 s12 (by decide) fun G s13 => ?_
  rw [num_take (by decide)]
  (simp +contextual -dsimp only [R6, evA, evB, ↓a_on_t, ↓a_on_f, ↓a_on_und, ↓a_cond_b, ↓reduceIte, Go.Ab.part, List.getD_cons_zero, List.getD_cons_succ, List.set_cons_zero, List.set_cons_succ, List.length_cons, List.length_nil, List.cons_append, List.nil_append, cond_true, cond_false, Bool.cond_true, reduceCtorEq, Option.map_some, Option.map_none, forall_const, ne_eq, implies_true, Nat.reduceAdd, Nat.reduceLeDiff, Nat.reduceLT, Nat.beq, Option.isNone_none, beq_self_eq_true, bne_self_eq_false, Int.reduceBEq, Int.reduceBNe, Int.reduceLT, Int.reduceLE, Int.reduceGT, Int.reduceGE, Int.reduceEq, Int.reduceNe, Int.reduceToNat, List.take_zero, List.drop_zero, List.all_cons, List.all_nil, List.append_nil, List.length_append, List.length_set, List.append_assoc, List.drop_nil, List.take_nil] <;> try simp -dsimp only [if_conj])
  refine rd2 s13 (by decide) fun G s14 => ?_
  rw [num_take (by decide)]
  (simp +contextual -dsimp only [R6, evA, evB, ↓a_on_t, ↓a_on_f, ↓a_on_und, ↓a_cond_b, ↓reduceIte, Go.Ab.part, List.getD_cons_zero, List.getD_cons_succ, List.set_cons_zero, List.set_cons_succ, List.length_cons, List.length_nil, List.cons_append, List.nil_append, cond_true, cond_false, Bool.cond_true, reduceCtorEq, Option.map_some, Option.map_none, forall_const, ne_eq, implies_true, Nat.reduceAdd, Nat.reduceLeDiff, Nat.reduceLT, Nat.beq, Option.isNone_none, beq_self_eq_true, bne_self_eq_false, Int.reduceBEq, Int.reduceBNe, Int.reduceLT, Int.reduceLE, Int.reduceGT, Int.reduceGE, Int.reduceEq, Int.reduceNe, Int.reduceToNat, List.take_zero, List.drop_zero, List.all_cons, List.all_nil, List.append_nil, List.length_append, List.length_set, List.append_assoc, List.drop_nil, List.take_nil, w4, w5] <;> try simp -dsimp only [if_conj])
  refine rd2 s14 (by decide) fun G s15 => ?_
  rw [num_take (by decide)]
  (simp +contextual -dsimp only [R6, evA, evB, ↓a_on_t, ↓a_on_f, ↓a_on_und, ↓a_cond_b, ↓reduceIte, Go.Ab.part, List.getD_cons_zero, List.getD_cons_succ, List.set_cons_zero, List.set_cons_succ, List.length_cons, List.length_nil, List.cons_append, List.nil_append, cond_true, cond_false, Bool.cond_true, reduceCtorEq, Option.map_some, Option.map_none, forall_const, ne_eq, implies_true, Nat.reduceAdd, Nat.reduceLeDiff, Nat.reduceLT, Nat.beq, Option.isNone_none, beq_self_eq_true, bne_self_eq_false, Int.reduceBEq, Int.reduceBNe, Int.reduceLT, Int.reduceLE, Int.reduceGT, Int.reduceGE, Int.reduceEq, Int.reduceNe, Int.reduceToNat, List.take_zero, List.drop_zero, List.all_cons, List.all_nil, List.append_nil, List.length_append, List.length_set, List.append_assoc, List.drop_nil, List.take_nil, w4, w5] <;> try simp -dsimp only [if_conj])
  refine rd2 s15 (by decide) fun G s16 => ?_
  rw [num_take (by decide)]
  (simp +contextual -dsimp only [R6, evA, evB, ↓a_on_t, ↓a_on_f, ↓a_on_und, ↓a_cond_b, ↓reduceIte, Go.Ab.part, List.getD_cons_zero, List.getD_cons_succ, List.set_cons_zero, List.set_cons_succ, List.length_cons, List.length_nil, List.cons_append, List.nil_append, cond_true, cond_false, Bool.cond_true, reduceCtorEq, Option.map_some, Option.map_none, forall_const, ne_eq, implies_true, Nat.reduceAdd, Nat.reduceLeDiff, Nat.reduceLT, Nat.beq, Option.isNone_none, beq_self_eq_true, bne_self_eq_false, Int.reduceBEq, Int.reduceBNe, Int.reduceLT, Int.reduceLE, Int.reduceGT, Int.reduceGE, Int.reduceEq, Int.reduceNe, Int.reduceToNat, List.take_zero, List.drop_zero, List.all_cons, List.all_nil, List.append_nil, List.length_append, List.length_set, List.append_assoc, List.drop_nil, List.take_nil, w4, w5, s16.d] <;> try simp -dsimp only [if_conj])
  have s17 := s16.put (o' := [I (num b 16 2), I (num b 18 2), U (num b 40 8), I (num b 60 2), I 0])
  generalize G.set hd (.o 1 [I (num b 16 2), I (num b 18 2), U (num b 40 8), I (num b 60 2), I 0]) = G at *
  (simp +contextual -dsimp only [R6, evA, evB, ↓a_on_t, ↓a_on_f, ↓a_on_und, ↓a_cond_b, ↓reduceIte, Go.Ab.part, List.getD_cons_zero, List.getD_cons_succ, List.set_cons_zero, List.set_cons_succ, List.length_cons, List.length_nil, List.cons_append, List.nil_append, cond_true, cond_false, Bool.cond_true, reduceCtorEq, Option.map_some, Option.map_none, forall_const, ne_eq, implies_true, Nat.reduceAdd, Nat.reduceLeDiff, Nat.reduceLT, Nat.beq, Option.isNone_none, beq_self_eq_true, bne_self_eq_false, Int.reduceBEq, Int.reduceBNe, Int.reduceLT, Int.reduceLE, Int.reduceGT, Int.reduceGE, Int.reduceEq, Int.reduceNe, Int.reduceToNat, List.take_zero, List.drop_zero, List.all_cons, List.all_nil, List.append_nil, List.length_append, List.length_set, List.append_assoc, List.drop_nil, List.take_nil, w4, w5, s17.d] <;> try simp -dsimp only [if_conj])
  have s18 := s17.put (o' := [I (num b 16 2), I (num b 18 2), U (num b 40 8), I (num b 60 2), I (num b 62 2)])
  generalize G.set hd (.o 1 [I (num b 16 2), I (num b 18 2), U (num b 40 8), I (num b 60 2), I (num b 62 2)]) = G at *
  replace s18 : TS h (b.take 64) cid hd 64 (hdAt b).row G := s18
  have hlG := hlt s18.z (by simp)
  have nn := s18.n1; have nn2 := s18.n2
  have k2 : ∀ o, Keeps h (G.set h.length o) := fun o => ⟨by rw [List.length_set]; exact s18.k.len, fun hj => by rw [hget_set_ne (by omega)]; exact s18.k.get hj⟩
  have g5 := s18.z
  have g6 : ∀ o, (G.set h.length o).getD h.length .dead = o := fun o => hget_set hlG
  have g4 := s18.d
  have fr : (hdAt b).row.take 5 = (hdAt b).row := rfl
  have fa : (hdAt b).row.all AV.one = true := rfl
  have fl : (hdAt b).row.length = 5 := rfl
  have fs : setAt [I 0, I 0, U 0, I 0, I 0] 0 (hdAt b).row = (hdAt b).row := rfl
  by_cases c3 : num b 20 4 ≠ 1
  · obtain ⟨e1, e2⟩ := bad21 (by omega) c2 (fun h => by omega)
    rw [e1, e2] at hK
    have e3 : ((num b 20 4 : Int) != 1) = true := by simp; omega
    (simp +contextual -dsimp only [R6, evA, evB, ↓a_on_t, ↓a_on_f, ↓a_on_und, ↓a_cond_b, ↓reduceIte, Go.Ab.part, List.getD_cons_zero, List.getD_cons_succ, List.set_cons_zero, List.set_cons_succ, List.length_cons, List.length_nil, List.cons_append, List.nil_append, cond_true, cond_false, Bool.cond_true, reduceCtorEq, Option.map_some, Option.map_none, forall_const, ne_eq, implies_true, Nat.reduceAdd, Nat.reduceLeDiff, Nat.reduceLT, Nat.beq, Option.isNone_none, beq_self_eq_true, bne_self_eq_false, Int.reduceBEq, Int.reduceBNe, Int.reduceLT, Int.reduceLE, Int.reduceGT, Int.reduceGE, Int.reduceEq, Int.reduceNe, Int.reduceToNat, List.take_zero, List.drop_zero, List.all_cons, List.all_nil, List.append_nil, List.length_append, List.length_set, List.append_assoc, List.drop_nil, List.take_nil, e3, g5, g6] <;> try simp -dsimp only [if_conj])
    exact hK _ (k2 _)
  have e3 : ((num b 20 4 : Int) != 1) = false := by simp; omega
  by_cases c4 : num b 52 2 ≠ 64
  · obtain ⟨e1, e2⟩ := bad21 (by omega) c2 (fun h => by omega)
    rw [e1, e2] at hK
    have e4 : ((num b 52 2 : Int) != 64) = true := by simp; omega
    (simp +contextual -dsimp only [R6, evA, evB, ↓a_on_t, ↓a_on_f, ↓a_on_und, ↓a_cond_b, ↓reduceIte, Go.Ab.part, List.getD_cons_zero, List.getD_cons_succ, List.set_cons_zero, List.set_cons_succ, List.length_cons, List.length_nil, List.cons_append, List.nil_append, cond_true, cond_false, Bool.cond_true, reduceCtorEq, Option.map_some, Option.map_none, forall_const, ne_eq, implies_true, Nat.reduceAdd, Nat.reduceLeDiff, Nat.reduceLT, Nat.beq, Option.isNone_none, beq_self_eq_true, bne_self_eq_false, Int.reduceBEq, Int.reduceBNe, Int.reduceLT, Int.reduceLE, Int.reduceGT, Int.reduceGE, Int.reduceEq, Int.reduceNe, Int.reduceToNat, List.take_zero, List.drop_zero, List.all_cons, List.all_nil, List.append_nil, List.length_append, List.length_set, List.append_assoc, List.drop_nil, List.take_nil, e3, e4, g5, g6] <;> try simp -dsimp only [if_conj])
    exact hK _ (k2 _)
  have e4 : ((num b 52 2 : Int) != 64) = false := by simp; omega
  by_cases c5 : num b 56 2 ≠ 0
  · obtain ⟨e1, e2⟩ := bad21 (by omega) c2 (fun h => by omega)
    rw [e1, e2] at hK
    have e5 : ((num b 56 2 : Int) != 0) = true := by simp; omega
    (simp +contextual -dsimp only [R6, evA, evB, ↓a_on_t, ↓a_on_f, ↓a_on_und, ↓a_cond_b, ↓reduceIte, Go.Ab.part, List.getD_cons_zero, List.getD_cons_succ, List.set_cons_zero, List.set_cons_succ, List.length_cons, List.length_nil, List.cons_append, List.nil_append, cond_true, cond_false, Bool.cond_true, reduceCtorEq, Option.map_some, Option.map_none, forall_const, ne_eq, implies_true, Nat.reduceAdd, Nat.reduceLeDiff, Nat.reduceLT, Nat.beq, Option.isNone_none, beq_self_eq_true, bne_self_eq_false, Int.reduceBEq, Int.reduceBNe, Int.reduceLT, Int.reduceLE, Int.reduceGT, Int.reduceGE, Int.reduceEq, Int.reduceNe, Int.reduceToNat, List.take_zero, List.drop_zero, List.all_cons, List.all_nil, List.append_nil, List.length_append, List.length_set, List.append_assoc, List.drop_nil, List.take_nil, e3, e4, e5, g5, g6] <;> try simp -dsimp only [if_conj])
    exact hK _ (k2 _)
  have e5 : ((num b 56 2 : Int) != 0) = false := by simp; omega
  by_cases c6 : num b 58 2 ≠ 64
  · obtain ⟨e1, e2⟩ := bad21 (by omega) c2 (fun h => by omega)
    rw [e1, e2] at hK
    have e6 : ((num b 58 2 : Int) != 64) = true := by simp; omega
    (simp +contextual -dsimp only [R6, evA, evB, ↓a_on_t, ↓a_on_f, ↓a_on_und, ↓a_cond_b, ↓reduceIte, Go.Ab.part, List.getD_cons_zero, List.getD_cons_succ, List.set_cons_zero, List.set_cons_succ, List.length_cons, List.length_nil, List.cons_append, List.nil_append, cond_true, cond_false, Bool.cond_true, reduceCtorEq, Option.map_some, Option.map_none, forall_const, ne_eq, implies_true, Nat.reduceAdd, Nat.reduceLeDiff, Nat.reduceLT, Nat.beq, Option.isNone_none, beq_self_eq_true, bne_self_eq_false, Int.reduceBEq, Int.reduceBNe, Int.reduceLT, Int.reduceLE, Int.reduceGT, Int.reduceGE, Int.reduceEq, Int.reduceNe, Int.reduceToNat, List.take_zero, List.drop_zero, List.all_cons, List.all_nil, List.append_nil, List.length_append, List.length_set, List.append_assoc, List.drop_nil, List.take_nil, e3, e4, e5, e6, g5, g6] <;> try simp -dsimp only [if_conj])
    exact hK _ (k2 _)
  have e6 : ((num b 58 2 : Int) != 64) = false := by simp; omega
  (simp +contextual -dsimp only [R6, evA, evB, ↓a_on_t, ↓a_on_f, ↓a_on_und, ↓a_cond_b, ↓reduceIte, Go.Ab.part, List.getD_cons_zero, List.getD_cons_succ, List.set_cons_zero, List.set_cons_succ, List.length_cons, List.length_nil, List.cons_append, List.nil_append, cond_true, cond_false, Bool.cond_true, reduceCtorEq, Option.map_some, Option.map_none, forall_const, ne_eq, implies_true, Nat.reduceAdd, Nat.reduceLeDiff, Nat.reduceLT, Nat.beq, Option.isNone_none, beq_self_eq_true, bne_self_eq_false, Int.reduceBEq, Int.reduceBNe, Int.reduceLT, Int.reduceLE, Int.reduceGT, Int.reduceGE, Int.reduceEq, Int.reduceNe, Int.reduceToNat, List.take_zero, List.drop_zero, List.all_cons, List.all_nil, List.append_nil, List.length_append, List.length_set, List.append_assoc, List.drop_nil, List.take_nil, e3, e4, e5, e6, g4] <;> try simp -dsimp only [if_conj])
  refine ⟨by rw [fl]; omega, ?_⟩
  refine Right_ok (hd_fit b) (by omega) (by omega) fun l => ?_
  have k3 : Keeps h (G ++ l) := s18.k.trans (Keeps.adds Adds.mk)
  have g4 : (G ++ l).getD hd .dead = .o 1 (hdAt b).row := hget_app g4 (by simp)
  have g5 : (G ++ l).getD h.length .dead = .o 1 [I 0, I 0, U 0, I 0, I 0] := hget_app g5 (by simp)
  have g6 : ∀ o, ((G ++ l).set h.length o).getD h.length .dead = o := fun o => hget_set (hlt g5 (by simp))
  have k6 : ∀ o, Keeps h ((G ++ l).set h.length o) := fun o => ⟨by rw [List.length_set]; exact k3.len, fun hj => by rw [hget_set_ne (by omega)]; exact k3.get hj⟩
  generalize G ++ l = H2 at *
  cases c7 : right (hdAt b) b.length with
  | false =>
    obtain ⟨e1, e2⟩ := bad21 (by omega) c2 (fun h => by rw [c7] at h; exact absurd h.2.2.2.2 (by simp))
    rw [e1, e2] at hK
    (simp +contextual -dsimp only [R6, evA, evB, ↓a_on_t, ↓a_on_f, ↓a_on_und, ↓a_cond_b, ↓reduceIte, Go.Ab.part, List.getD_cons_zero, List.getD_cons_succ, List.set_cons_zero, List.set_cons_succ, List.length_cons, List.length_nil, List.cons_append, List.nil_append, cond_true, cond_false, Bool.cond_true, reduceCtorEq, Option.map_some, Option.map_none, forall_const, ne_eq, implies_true, Nat.reduceAdd, Nat.reduceLeDiff, Nat.reduceLT, Nat.beq, Option.isNone_none, beq_self_eq_true, bne_self_eq_false, Int.reduceBEq, Int.reduceBNe, Int.reduceLT, Int.reduceLE, Int.reduceGT, Int.reduceGE, Int.reduceEq, Int.reduceNe, Int.reduceToNat, List.take_zero, List.drop_zero, List.all_cons, List.all_nil, List.append_nil, List.length_append, List.length_set, List.append_assoc, List.drop_nil, List.take_nil, e6, g5, g6] <;> try simp -dsimp only [if_conj])
    exact hK _ (k6 _)
  | true =>
    obtain ⟨e1, e2⟩ := bad0 (by omega) c2 ⟨by omega, by omega, by omega, by omega, c7⟩
    rw [e1, e2] at hK
    (simp +contextual -dsimp only [R6, evA, evB, ↓a_on_t, ↓a_on_f, ↓a_on_und, ↓a_cond_b, ↓reduceIte, Go.Ab.part, List.getD_cons_zero, List.getD_cons_succ, List.set_cons_zero, List.set_cons_succ, List.length_cons, List.length_nil, List.cons_append, List.nil_append, cond_true, cond_false, Bool.cond_true, reduceCtorEq, Option.map_some, Option.map_none, forall_const, ne_eq, implies_true, Nat.reduceAdd, Nat.reduceLeDiff, Nat.reduceLT, Nat.beq, Option.isNone_none, beq_self_eq_true, bne_self_eq_false, Int.reduceBEq, Int.reduceBNe, Int.reduceLT, Int.reduceLE, Int.reduceGT, Int.reduceGE, Int.reduceEq, Int.reduceNe, Int.reduceToNat, List.take_zero, List.drop_zero, List.all_cons, List.all_nil, List.append_nil, List.length_append, List.length_set, List.append_assoc, List.drop_nil, List.take_nil, e6, g4, g5, g6, fr, fa, fl, fs] <;> try simp -dsimp only [if_conj])
    exact hK _ (k6 _)
end Go.Proofs.Ytebacdlbhjgmlaa
