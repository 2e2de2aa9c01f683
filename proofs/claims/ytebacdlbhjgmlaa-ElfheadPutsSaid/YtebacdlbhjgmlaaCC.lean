import Derived.Test.YtebacdlbhjgmlaaCA
import Derived.Test.YtebacdlbhjgmlaaCR
import Derived.Test.YtebacdlbhjgmlaaGA
import Derived.Test.YtebacdlbhjgmlaaGB
set_option linter.unusedVariables false
set_option linter.unusedSimpArgs false
set_option maxRecDepth 100000
namespace Go.Proofs.Ytebacdlbhjgmlaa
open Go.Ab
variable {h : Heap} {K : Kt}

/-- a header -/
structure Hd where
  t : Int
  m : Int
  o : Nat
  n : Int
  s : Int
  deriving DecidableEq
instance : Inhabited Hd := ⟨⟨0, 0, 0, 0, 0⟩⟩
def Hd.row (x : Hd) : List AV := [I x.t, I x.m, U x.o, I x.n, I x.s]
/-- its numbers are such as may stand there -/
structure Hd.fit (x : Hd) : Prop where
  t : -9223372036854775808 ≤ x.t ∧ x.t < 9223372036854775808
  m : -9223372036854775808 ≤ x.m ∧ x.m < 9223372036854775808
  o : x.o < 18446744073709551616
  n : -9223372036854775808 ≤ x.n ∧ x.n < 9223372036854775808
  s : -9223372036854775808 ≤ x.s ∧ x.s < 9223372036854775808
/-- it may be, of a file of so many bytes -/
def right (x : Hd) (size : Int) : Bool :=
  decide ((x.t = 1 ∨ x.t = 2) ∧ (x.m = 62 ∨ x.m = 183) ∧ 1 ≤ x.n ∧ x.n ≤ 64 ∧ 1 ≤ x.s ∧ x.s < x.n ∧ (x.o : Int) + x.n * 64 ≤ size)
theorem rSum_ok {a b : Nat} (ha : a < 18446744073709551616) (hb : b < 18446744073709551616)
    (hK : K.K (.t [U (if a + b < 18446744073709551616 then (a + b : Nat) else (0 : Nat)), Bo (decide (a + b < 18446744073709551616))]) h) : ACall X 27 [U a, U b] h K := by
  apply i27
  (simp +contextual -dsimp only [R27, evA, evB, ↓a_on_t, ↓a_on_f, ↓a_on_und, ↓a_cond_b, ↓reduceIte, Go.Ab.part, List.getD_cons_zero, List.getD_cons_succ, List.set_cons_zero, List.set_cons_succ, List.length_cons, List.length_nil, List.cons_append, List.nil_append, cond_true, cond_false, Bool.cond_true, reduceCtorEq, Option.map_some, Option.map_none, forall_const, ne_eq, implies_true, Nat.reduceAdd, Nat.reduceLeDiff, Nat.reduceLT, Nat.beq, Option.isNone_none, beq_self_eq_true, bne_self_eq_false, Int.reduceBEq, Int.reduceBNe, Int.reduceLT, Int.reduceLE, Int.reduceGT, Int.reduceGE, Int.reduceEq, Int.reduceNe, Int.reduceToNat, List.take_zero, List.drop_zero, List.all_cons, List.all_nil, List.append_nil, List.length_append, List.length_set, List.append_assoc, List.drop_nil, List.take_nil] <;> try simp -dsimp only [if_conj])
  rw [wrap_u64_eq]
  refine ⟨fun e => ?_, fun e => ?_⟩
  · have e : ¬ a + b < 18446744073709551616 := by simp at e; omega
    rw [if_neg e, decide_eq_false e] at hK; exact hK
  · have e : a + b < 18446744073709551616 := by simp at e; omega
    rw [if_pos e, decide_eq_true e] at hK
    have : ((a : Int) + b) % 18446744073709551616 = ((a + b : Nat) : Int) := by omega
    rw [this]; exact hK
theorem Within_ok {a n s : Nat} (ha : a < 18446744073709551616) (hb : n < 18446744073709551616) (hs : s < 18446744073709551616)
    (hK : K.K (Bo (decide (a + n ≤ s))) h) : ACall X 20 [U a, U n, U s] h K := by
  apply i20
  (simp +contextual -dsimp only [R20, evA, evB, ↓a_on_t, ↓a_on_f, ↓a_on_und, ↓a_cond_b, ↓reduceIte, Go.Ab.part, List.getD_cons_zero, List.getD_cons_succ, List.set_cons_zero, List.set_cons_succ, List.length_cons, List.length_nil, List.cons_append, List.nil_append, cond_true, cond_false, Bool.cond_true, reduceCtorEq, Option.map_some, Option.map_none, forall_const, ne_eq, implies_true, Nat.reduceAdd, Nat.reduceLeDiff, Nat.reduceLT, Nat.beq, Option.isNone_none, beq_self_eq_true, bne_self_eq_false, Int.reduceBEq, Int.reduceBNe, Int.reduceLT, Int.reduceLE, Int.reduceGT, Int.reduceGE, Int.reduceEq, Int.reduceNe, Int.reduceToNat, List.take_zero, List.drop_zero, List.all_cons, List.all_nil, List.append_nil, List.length_append, List.length_set, List.append_assoc, List.drop_nil, List.take_nil] <;> try simp -dsimp only [if_conj])
  refine ⟨fun e => ?_, fun e => ?_⟩
  · have e : n ≤ s := by simp at e; omega
    rw [wrap_u64 (by omega) (by omega)]
    have : decide ((a : Int) ≤ s - n) = decide (a + n ≤ s) := by congr 1; exact propext ⟨fun _ => by omega, fun _ => by omega⟩
    rw [this]; exact hK
  · have e : ¬ n ≤ s := by simp at e; omega
    rw [decide_eq_false (by omega)] at hK; exact hK
theorem rWithin_ok {a n s : Nat} (ha : a < 18446744073709551616) (hb : n < 18446744073709551616) (hs : s < 18446744073709551616)
    (hK : K.K (Bo (decide (a + n ≤ s))) h) : ACall X 21 [U a, U n, U s] h K := by
  apply i21
  (simp +contextual -dsimp only [R21, evA, evB, ↓a_on_t, ↓a_on_f, ↓a_on_und, ↓a_cond_b, ↓reduceIte, Go.Ab.part, List.getD_cons_zero, List.getD_cons_succ, List.set_cons_zero, List.set_cons_succ, List.length_cons, List.length_nil, List.cons_append, List.nil_append, cond_true, cond_false, Bool.cond_true, reduceCtorEq, Option.map_some, Option.map_none, forall_const, ne_eq, implies_true, Nat.reduceAdd, Nat.reduceLeDiff, Nat.reduceLT, Nat.beq, Option.isNone_none, beq_self_eq_true, bne_self_eq_false, Int.reduceBEq, Int.reduceBNe, Int.reduceLT, Int.reduceLE, Int.reduceGT, Int.reduceGE, Int.reduceEq, Int.reduceNe, Int.reduceToNat, List.take_zero, List.drop_zero, List.all_cons, List.all_nil, List.append_nil, List.length_append, List.length_set, List.append_assoc, List.drop_nil, List.take_nil] <;> try simp -dsimp only [if_conj])
  refine rSum_ok ha hb ?_
  (simp +contextual -dsimp only [R21, evA, evB, ↓a_on_t, ↓a_on_f, ↓a_on_und, ↓a_cond_b, ↓reduceIte, Go.Ab.part, List.getD_cons_zero, List.getD_cons_succ, List.set_cons_zero, List.set_cons_succ, List.length_cons, List.length_nil, List.cons_append, List.nil_append, cond_true, cond_false, Bool.cond_true, reduceCtorEq, Option.map_some, Option.map_none, forall_const, ne_eq, implies_true, Nat.reduceAdd, Nat.reduceLeDiff, Nat.reduceLT, Nat.beq, Option.isNone_none, beq_self_eq_true, bne_self_eq_false, Int.reduceBEq, Int.reduceBNe, Int.reduceLT, Int.reduceLE, Int.reduceGT, Int.reduceGE, Int.reduceEq, Int.reduceNe, Int.reduceToNat, List.take_zero, List.drop_zero, List.all_cons, List.all_nil, List.append_nil, List.length_append, List.length_set, List.append_assoc, List.drop_nil, List.take_nil] <;> try simp -dsimp only [if_conj])
  refine ⟨fun e => ?_, fun e => ?_⟩
  · have e : a + n < 18446744073709551616 := by simp at e; omega
    rw [if_pos e]
    have : decide (((a + n : Nat) : Int) ≤ s) = decide (a + n ≤ s) := by congr 1; exact propext ⟨fun _ => by omega, fun _ => by omega⟩
    rw [this]; exact hK
  · have e : ¬ a + n < 18446744073709551616 := by simp at e; omega
    rw [decide_eq_false (by omega)] at hK; exact hK

theorem right_not {x : Hd} {size : Int} (hn : ¬ ((x.t = 1 ∨ x.t = 2) ∧ (x.m = 62 ∨ x.m = 183) ∧ 1 ≤ x.n ∧ x.n ≤ 64 ∧ 1 ≤ x.s ∧ x.s < x.n ∧ (x.o : Int) + x.n * 64 ≤ size)) : right x size = false := decide_eq_false hn
theorem right_is {x : Hd} {size : Int} (h1 : x.t = 1 ∨ x.t = 2) (h2 : x.m = 62 ∨ x.m = 183) (h3 : 1 ≤ x.n) (h4 : x.n ≤ 64) (h5 : 1 ≤ x.s) (h6 : x.s < x.n) : right x size = decide ((x.o : Int) + x.n * 64 ≤ size) := by
  unfold right; congr 1; exact propext ⟨fun h => h.2.2.2.2.2.2, fun h => ⟨h1, h2, h3, h4, h5, h6, h⟩⟩
/-- one of two, as the code asks -/
def Two (a p q : Int) : Prop := ((a != p) = false ∧ True) ∨ ((a != p) = true ∧ (a != q) = false)
theorem two (a p q : Int) : (¬ (a = p ∨ a = q) ∧ (a != p) = true ∧ (a != q) = true) ∨ ((a = p ∨ a = q) ∧ Two a p q) := by
  by_cases h1 : a = p
  · exact .inr ⟨.inl h1, .inl ⟨by simp [h1], trivial⟩⟩
  · by_cases h2 : a = q
    · exact .inr ⟨.inr h2, .inr ⟨by simp [h1], by simp [h2]⟩⟩
    · exact .inl ⟨fun h => h.elim h1 h2, by simp [h1], by simp [h2]⟩
theorem Right_ok {x : Hd} {size : Int} (hf : x.fit) (hs : size < 9223372036854775808) (hl : -9223372036854775808 ≤ size) (hK : ∀ l, K.K (Bo (right x size)) (h ++ l)) : ACall X 9 [.g x.row, I size] h K := by
  have f3 := hf.o
  apply i9
  rcases two x.t 1 2 with ⟨ht, d1, d2⟩ | ⟨ht, hT⟩
  · rw [right_not (fun h => ht h.1)] at hK
    (simp +contextual -dsimp only [R9, evA, evB, ↓a_on_t, ↓a_on_f, ↓a_on_und, ↓a_cond_b, ↓reduceIte, Go.Ab.part, List.getD_cons_zero, List.getD_cons_succ, List.set_cons_zero, List.set_cons_succ, List.length_cons, List.length_nil, List.cons_append, List.nil_append, cond_true, cond_false, Bool.cond_true, reduceCtorEq, Option.map_some, Option.map_none, forall_const, ne_eq, implies_true, Nat.reduceAdd, Nat.reduceLeDiff, Nat.reduceLT, Nat.beq, Option.isNone_none, beq_self_eq_true, bne_self_eq_false, Int.reduceBEq, Int.reduceBNe, Int.reduceLT, Int.reduceLE, Int.reduceGT, Int.reduceGE, Int.reduceEq, Int.reduceNe, Int.reduceToNat, List.take_zero, List.drop_zero, List.all_cons, List.all_nil, List.append_nil, List.length_append, List.length_set, List.append_assoc, List.drop_nil, List.take_nil, Hd.row, hget_new, d1, d2] <;> try simp -dsimp only [if_conj])
    exact hK _
  rcases two x.m 62 183 with ⟨hm, d3, d4⟩ | ⟨hm, hM⟩
  · rw [right_not (fun h => hm h.2.1)] at hK
    rcases hT with ⟨d1, d2⟩ | ⟨d1, d2⟩ <;> (simp +contextual -dsimp only [R9, evA, evB, ↓a_on_t, ↓a_on_f, ↓a_on_und, ↓a_cond_b, ↓reduceIte, Go.Ab.part, List.getD_cons_zero, List.getD_cons_succ, List.set_cons_zero, List.set_cons_succ, List.length_cons, List.length_nil, List.cons_append, List.nil_append, cond_true, cond_false, Bool.cond_true, reduceCtorEq, Option.map_some, Option.map_none, forall_const, ne_eq, implies_true, Nat.reduceAdd, Nat.reduceLeDiff, Nat.reduceLT, Nat.beq, Option.isNone_none, beq_self_eq_true, bne_self_eq_false, Int.reduceBEq, Int.reduceBNe, Int.reduceLT, Int.reduceLE, Int.reduceGT, Int.reduceGE, Int.reduceEq, Int.reduceNe, Int.reduceToNat, List.take_zero, List.drop_zero, List.all_cons, List.all_nil, List.append_nil, List.length_append, List.length_set, List.append_assoc, List.drop_nil, List.take_nil, Hd.row, hget_new, d1, d2, d3, d4] <;> try simp -dsimp only [if_conj]) <;> exact hK _
  by_cases c1 : x.n < 1
  · rw [right_not (fun h => by omega)] at hK
    have d5 : decide (x.n < 1) = true := decide_eq_true c1
    rcases hT with ⟨d1, d2⟩ | ⟨d1, d2⟩ <;> rcases hM with ⟨d3, d4⟩ | ⟨d3, d4⟩ <;> (simp +contextual -dsimp only [R9, evA, evB, ↓a_on_t, ↓a_on_f, ↓a_on_und, ↓a_cond_b, ↓reduceIte, Go.Ab.part, List.getD_cons_zero, List.getD_cons_succ, List.set_cons_zero, List.set_cons_succ, List.length_cons, List.length_nil, List.cons_append, List.nil_append, cond_true, cond_false, Bool.cond_true, reduceCtorEq, Option.map_some, Option.map_none, forall_const, ne_eq, implies_true, Nat.reduceAdd, Nat.reduceLeDiff, Nat.reduceLT, Nat.beq, Option.isNone_none, beq_self_eq_true, bne_self_eq_false, Int.reduceBEq, Int.reduceBNe, Int.reduceLT, Int.reduceLE, Int.reduceGT, Int.reduceGE, Int.reduceEq, Int.reduceNe, Int.reduceToNat, List.take_zero, List.drop_zero, List.all_cons, List.all_nil, List.append_nil, List.length_append, List.length_set, List.append_assoc, List.drop_nil, List.take_nil, Hd.row, hget_new, d1, d2, d3, d4, d5] <;> try simp -dsimp only [if_conj]) <;> exact hK _
  have d5 : decide (x.n < 1) = false := decide_eq_false c1
  by_cases c2 : x.n > 64
  · rw [right_not (fun h => by omega)] at hK
    have d6 : decide (x.n > 64) = true := decide_eq_true c2
    rcases hT with ⟨d1, d2⟩ | ⟨d1, d2⟩ <;> rcases hM with ⟨d3, d4⟩ | ⟨d3, d4⟩ <;> (simp +contextual -dsimp only [R9, evA, evB, ↓a_on_t, ↓a_on_f, ↓a_on_und, ↓a_cond_b, ↓reduceIte, Go.Ab.part, List.getD_cons_zero, List.getD_cons_succ, List.set_cons_zero, List.set_cons_succ, List.length_cons, List.length_nil, List.cons_append, List.nil_append, cond_true, cond_false, Bool.cond_true, reduceCtorEq, Option.map_some, Option.map_none, forall_const, ne_eq, implies_true, Nat.reduceAdd, Nat.reduceLeDiff, Nat.reduceLT, Nat.beq, Option.isNone_none, beq_self_eq_true, bne_self_eq_false, Int.reduceBEq, Int.reduceBNe, Int.reduceLT, Int.reduceLE, Int.reduceGT, Int.reduceGE, Int.reduceEq, Int.reduceNe, Int.reduceToNat, List.take_zero, List.drop_zero, List.all_cons, List.all_nil, List.append_nil, List.length_append, List.length_set, List.append_assoc, List.drop_nil, List.take_nil, Hd.row, hget_new, d1, d2, d3, d4, d5, d6] <;> try simp -dsimp only [if_conj]) <;> exact hK _
  have d6 : decide (x.n > 64) = false := decide_eq_false c2
  by_cases c3 : x.s < 1
  · rw [right_not (fun h => by omega)] at hK
    have d7 : decide (x.s < 1) = true := decide_eq_true c3
    rcases hT with ⟨d1, d2⟩ | ⟨d1, d2⟩ <;> rcases hM with ⟨d3, d4⟩ | ⟨d3, d4⟩ <;> (simp +contextual -dsimp only [R9, evA, evB, ↓a_on_t, ↓a_on_f, ↓a_on_und, ↓a_cond_b, ↓reduceIte, Go.Ab.part, List.getD_cons_zero, List.getD_cons_succ, List.set_cons_zero, List.set_cons_succ, List.length_cons, List.length_nil, List.cons_append, List.nil_append, cond_true, cond_false, Bool.cond_true, reduceCtorEq, Option.map_some, Option.map_none, forall_const, ne_eq, implies_true, Nat.reduceAdd, Nat.reduceLeDiff, Nat.reduceLT, Nat.beq, Option.isNone_none, beq_self_eq_true, bne_self_eq_false, Int.reduceBEq, Int.reduceBNe, Int.reduceLT, Int.reduceLE, Int.reduceGT, Int.reduceGE, Int.reduceEq, Int.reduceNe, Int.reduceToNat, List.take_zero, List.drop_zero, List.all_cons, List.all_nil, List.append_nil, List.length_append, List.length_set, List.append_assoc, List.drop_nil, List.take_nil, Hd.row, hget_new, d1, d2, d3, d4, d5, d6, d7] <;> try simp -dsimp only [if_conj]) <;> exact hK _
  have d7 : decide (x.s < 1) = false := decide_eq_false c3
  by_cases c4 : x.s ≥ x.n
  · rw [right_not (fun h => by omega)] at hK
    have d8 : decide (x.s ≥ x.n) = true := decide_eq_true c4
    rcases hT with ⟨d1, d2⟩ | ⟨d1, d2⟩ <;> rcases hM with ⟨d3, d4⟩ | ⟨d3, d4⟩ <;> (simp +contextual -dsimp only [R9, evA, evB, ↓a_on_t, ↓a_on_f, ↓a_on_und, ↓a_cond_b, ↓reduceIte, Go.Ab.part, List.getD_cons_zero, List.getD_cons_succ, List.set_cons_zero, List.set_cons_succ, List.length_cons, List.length_nil, List.cons_append, List.nil_append, cond_true, cond_false, Bool.cond_true, reduceCtorEq, Option.map_some, Option.map_none, forall_const, ne_eq, implies_true, Nat.reduceAdd, Nat.reduceLeDiff, Nat.reduceLT, Nat.beq, Option.isNone_none, beq_self_eq_true, bne_self_eq_false, Int.reduceBEq, Int.reduceBNe, Int.reduceLT, Int.reduceLE, Int.reduceGT, Int.reduceGE, Int.reduceEq, Int.reduceNe, Int.reduceToNat, List.take_zero, List.drop_zero, List.all_cons, List.all_nil, List.append_nil, List.length_append, List.length_set, List.append_assoc, List.drop_nil, List.take_nil, Hd.row, hget_new, d1, d2, d3, d4, d5, d6, d7, d8] <;> try simp -dsimp only [if_conj]) <;> exact hK _
  have d8 : decide (x.s ≥ x.n) = false := decide_eq_false c4
  rw [right_is ht hm (by omega) (by omega) (by omega) (by omega)] at hK
  have hn : x.n = (x.n.toNat : Int) := by omega
  have e1 : IntKind.u64.wrap (IntKind.u64.wrap x.n * 64) = ((x.n.toNat * 64 : Nat) : Int) := by rw [wrap_u64 (n := x.n) (by omega) (by omega), wrap_u64 (by omega) (by omega)]; omega
  have e2 : IntKind.u64.wrap (if 0 > size then 0 else size) = (size.toNat : Int) := by rw [wrap_u64] <;> split <;> omega
  have fin : ∀ l, K.K (Bo (decide (x.o + x.n.toNat * 64 ≤ size.toNat))) (h ++ l) := fun l => by
    have := hK l
    rw [show decide ((x.o : Int) + x.n * 64 ≤ size) = decide (x.o + x.n.toNat * 64 ≤ size.toNat) by congr 1; exact propext ⟨fun _ => by omega, fun _ => by omega⟩] at this
    exact this
  rcases hT with ⟨d1, d2⟩ | ⟨d1, d2⟩ <;> rcases hM with ⟨d3, d4⟩ | ⟨d3, d4⟩ <;> (simp +contextual -dsimp only [R9, evA, evB, ↓a_on_t, ↓a_on_f, ↓a_on_und, ↓a_cond_b, ↓reduceIte, Go.Ab.part, List.getD_cons_zero, List.getD_cons_succ, List.set_cons_zero, List.set_cons_succ, List.length_cons, List.length_nil, List.cons_append, List.nil_append, cond_true, cond_false, Bool.cond_true, reduceCtorEq, Option.map_some, Option.map_none, forall_const, ne_eq, implies_true, Nat.reduceAdd, Nat.reduceLeDiff, Nat.reduceLT, Nat.beq, Option.isNone_none, beq_self_eq_true, bne_self_eq_false, Int.reduceBEq, Int.reduceBNe, Int.reduceLT, Int.reduceLE, Int.reduceGT, Int.reduceGE, Int.reduceEq, Int.reduceNe, Int.reduceToNat, List.take_zero, List.drop_zero, List.all_cons, List.all_nil, List.append_nil, List.length_append, List.length_set, List.append_assoc, List.drop_nil, List.take_nil, Hd.row, hget_new, d1, d2, d3, d4, d5, d6, d7, d8, e1, e2] <;> try simp -dsimp only [if_conj]) <;> refine Within_ok f3 (by omega) (by omega) ?_ <;> (simp +contextual -dsimp only [R9, evA, evB, ↓a_on_t, ↓a_on_f, ↓a_on_und, ↓a_cond_b, ↓reduceIte, Go.Ab.part, List.getD_cons_zero, List.getD_cons_succ, List.set_cons_zero, List.set_cons_succ, List.length_cons, List.length_nil, List.cons_append, List.nil_append, cond_true, cond_false, Bool.cond_true, reduceCtorEq, Option.map_some, Option.map_none, forall_const, ne_eq, implies_true, Nat.reduceAdd, Nat.reduceLeDiff, Nat.reduceLT, Nat.beq, Option.isNone_none, beq_self_eq_true, bne_self_eq_false, Int.reduceBEq, Int.reduceBNe, Int.reduceLT, Int.reduceLE, Int.reduceGT, Int.reduceGE, Int.reduceEq, Int.reduceNe, Int.reduceToNat, List.take_zero, List.drop_zero, List.all_cons, List.all_nil, List.append_nil, List.length_append, List.length_set, List.append_assoc, List.drop_nil, List.take_nil] <;> try simp -dsimp only [if_conj]) <;> exact fin _
theorem rRight_ok {x : Hd} {size : Int} (hf : x.fit) (hs : size < 9223372036854775808) (hl : -9223372036854775808 ≤ size) (hK : ∀ l, K.K (Bo (right x size)) (h ++ l)) : ACall X 10 [.g x.row, I size] h K := by
  have f3 := hf.o
  apply i10
  rcases two x.t 1 2 with ⟨ht, d1, d2⟩ | ⟨ht, hT⟩
  · rw [right_not (fun h => ht h.1)] at hK
    (simp +contextual -dsimp only [R10, evA, evB, ↓a_on_t, ↓a_on_f, ↓a_on_und, ↓a_cond_b, ↓reduceIte, Go.Ab.part, List.getD_cons_zero, List.getD_cons_succ, List.set_cons_zero, List.set_cons_succ, List.length_cons, List.length_nil, List.cons_append, List.nil_append, cond_true, cond_false, Bool.cond_true, reduceCtorEq, Option.map_some, Option.map_none, forall_const, ne_eq, implies_true, Nat.reduceAdd, Nat.reduceLeDiff, Nat.reduceLT, Nat.beq, Option.isNone_none, beq_self_eq_true, bne_self_eq_false, Int.reduceBEq, Int.reduceBNe, Int.reduceLT, Int.reduceLE, Int.reduceGT, Int.reduceGE, Int.reduceEq, Int.reduceNe, Int.reduceToNat, List.take_zero, List.drop_zero, List.all_cons, List.all_nil, List.append_nil, List.length_append, List.length_set, List.append_assoc, List.drop_nil, List.take_nil, Hd.row, hget_new, d1, d2] <;> try simp -dsimp only [if_conj])
    exact hK _
  rcases two x.m 62 183 with ⟨hm, d3, d4⟩ | ⟨hm, hM⟩
  · rw [right_not (fun h => hm h.2.1)] at hK
    rcases hT with ⟨d1, d2⟩ | ⟨d1, d2⟩ <;> (simp +contextual -dsimp only [R10, evA, evB, ↓a_on_t, ↓a_on_f, ↓a_on_und, ↓a_cond_b, ↓reduceIte, Go.Ab.part, List.getD_cons_zero, List.getD_cons_succ, List.set_cons_zero, List.set_cons_succ, List.length_cons, List.length_nil, List.cons_append, List.nil_append, cond_true, cond_false, Bool.cond_true, reduceCtorEq, Option.map_some, Option.map_none, forall_const, ne_eq, implies_true, Nat.reduceAdd, Nat.reduceLeDiff, Nat.reduceLT, Nat.beq, Option.isNone_none, beq_self_eq_true, bne_self_eq_false, Int.reduceBEq, Int.reduceBNe, Int.reduceLT, Int.reduceLE, Int.reduceGT, Int.reduceGE, Int.reduceEq, Int.reduceNe, Int.reduceToNat, List.take_zero, List.drop_zero, List.all_cons, List.all_nil, List.append_nil, List.length_append, List.length_set, List.append_assoc, List.drop_nil, List.take_nil, Hd.row, hget_new, d1, d2, d3, d4] <;> try simp -dsimp only [if_conj]) <;> exact hK _
  by_cases c1 : x.n < 1
  · rw [right_not (fun h => by omega)] at hK
    have d5 : decide (x.n < 1) = true := decide_eq_true c1
    rcases hT with ⟨d1, d2⟩ | ⟨d1, d2⟩ <;> rcases hM with ⟨d3, d4⟩ | ⟨d3, d4⟩ <;> (simp +contextual -dsimp only [R10, evA, evB, ↓a_on_t, ↓a_on_f, ↓a_on_und, ↓a_cond_b, ↓reduceIte, Go.Ab.part, List.getD_cons_zero, List.getD_cons_succ, List.set_cons_zero, List.set_cons_succ, List.length_cons, List.length_nil, List.cons_append, List.nil_append, cond_true, cond_false, Bool.cond_true, reduceCtorEq, Option.map_some, Option.map_none, forall_const, ne_eq, implies_true, Nat.reduceAdd, Nat.reduceLeDiff, Nat.reduceLT, Nat.beq, Option.isNone_none, beq_self_eq_true, bne_self_eq_false, Int.reduceBEq, Int.reduceBNe, Int.reduceLT, Int.reduceLE, Int.reduceGT, Int.reduceGE, Int.reduceEq, Int.reduceNe, Int.reduceToNat, List.take_zero, List.drop_zero, List.all_cons, List.all_nil, List.append_nil, List.length_append, List.length_set, List.append_assoc, List.drop_nil, List.take_nil, Hd.row, hget_new, d1, d2, d3, d4, d5] <;> try simp -dsimp only [if_conj]) <;> exact hK _
  have d5 : decide (x.n < 1) = false := decide_eq_false c1
  by_cases c2 : x.n > 64
  · rw [right_not (fun h => by omega)] at hK
    have d6 : decide (x.n > 64) = true := decide_eq_true c2
    rcases hT with ⟨d1, d2⟩ | ⟨d1, d2⟩ <;> rcases hM with ⟨d3, d4⟩ | ⟨d3, d4⟩ <;> (simp +contextual -dsimp only [R10, evA, evB, ↓a_on_t, ↓a_on_f, ↓a_on_und, ↓a_cond_b, ↓reduceIte, Go.Ab.part, List.getD_cons_zero, List.getD_cons_succ, List.set_cons_zero, List.set_cons_succ, List.length_cons, List.length_nil, List.cons_append, List.nil_append, cond_true, cond_false, Bool.cond_true, reduceCtorEq, Option.map_some, Option.map_none, forall_const, ne_eq, implies_true, Nat.reduceAdd, Nat.reduceLeDiff, Nat.reduceLT, Nat.beq, Option.isNone_none, beq_self_eq_true, bne_self_eq_false, Int.reduceBEq, Int.reduceBNe, Int.reduceLT, Int.reduceLE, Int.reduceGT, Int.reduceGE, Int.reduceEq, Int.reduceNe, Int.reduceToNat, List.take_zero, List.drop_zero, List.all_cons, List.all_nil, List.append_nil, List.length_append, List.length_set, List.append_assoc, List.drop_nil, List.take_nil, Hd.row, hget_new, d1, d2, d3, d4, d5, d6] <;> try simp -dsimp only [if_conj]) <;> exact hK _
  have d6 : decide (x.n > 64) = false := decide_eq_false c2
  by_cases c3 : x.s < 1
  · rw [right_not (fun h => by omega)] at hK
    have d7 : decide (x.s < 1) = true := decide_eq_true c3
    rcases hT with ⟨d1, d2⟩ | ⟨d1, d2⟩ <;> rcases hM with ⟨d3, d4⟩ | ⟨d3, d4⟩ <;> (simp +contextual -dsimp only [R10, evA, evB, ↓a_on_t, ↓a_on_f, ↓a_on_und, ↓a_cond_b, ↓reduceIte, Go.Ab.part, List.getD_cons_zero, List.getD_cons_succ, List.set_cons_zero, List.set_cons_succ, List.length_cons, List.length_nil, List.cons_append, List.nil_append, cond_true, cond_false, Bool.cond_true, reduceCtorEq, Option.map_some, Option.map_none, forall_const, ne_eq, implies_true, Nat.reduceAdd, Nat.reduceLeDiff, Nat.reduceLT, Nat.beq, Option.isNone_none, beq_self_eq_true, bne_self_eq_false, Int.reduceBEq, Int.reduceBNe, Int.reduceLT, Int.reduceLE, Int.reduceGT, Int.reduceGE, Int.reduceEq, Int.reduceNe, Int.reduceToNat, List.take_zero, List.drop_zero, List.all_cons, List.all_nil, List.append_nil, List.length_append, List.length_set, List.append_assoc, List.drop_nil, List.take_nil, Hd.row, hget_new, d1, d2, d3, d4, d5, d6, d7] <;> try simp -dsimp only [if_conj]) <;> exact hK _
  have d7 : decide (x.s < 1) = false := decide_eq_false c3
  by_cases c4 : x.s ≥ x.n
  · rw [right_not (fun h => by omega)] at hK
    have d8 : decide (x.s ≥ x.n) = true := decide_eq_true c4
    rcases hT with ⟨d1, d2⟩ | ⟨d1, d2⟩ <;> rcases hM with ⟨d3, d4⟩ | ⟨d3, d4⟩ <;> (simp +contextual -dsimp only [R10, evA, evB, ↓a_on_t, ↓a_on_f, ↓a_on_und, ↓a_cond_b, ↓reduceIte, Go.Ab.part, List.getD_cons_zero, List.getD_cons_succ, List.set_cons_zero, List.set_cons_succ, List.length_cons, List.length_nil, List.cons_append, List.nil_append, cond_true, cond_false, Bool.cond_true, reduceCtorEq, Option.map_some, Option.map_none, forall_const, ne_eq, implies_true, Nat.reduceAdd, Nat.reduceLeDiff, Nat.reduceLT, Nat.beq, Option.isNone_none, beq_self_eq_true, bne_self_eq_false, Int.reduceBEq, Int.reduceBNe, Int.reduceLT, Int.reduceLE, Int.reduceGT, Int.reduceGE, Int.reduceEq, Int.reduceNe, Int.reduceToNat, List.take_zero, List.drop_zero, List.all_cons, List.all_nil, List.append_nil, List.length_append, List.length_set, List.append_assoc, List.drop_nil, List.take_nil, Hd.row, hget_new, d1, d2, d3, d4, d5, d6, d7, d8] <;> try simp -dsimp only [if_conj]) <;> exact hK _
  have d8 : decide (x.s ≥ x.n) = false := decide_eq_false c4
  by_cases c5 : size < 0
  · rw [right_not (fun h => by omega)] at hK
    have d9 : decide (size < 0) = true := decide_eq_true c5
    rcases hT with ⟨d1, d2⟩ | ⟨d1, d2⟩ <;> rcases hM with ⟨d3, d4⟩ | ⟨d3, d4⟩ <;> (simp +contextual -dsimp only [R10, evA, evB, ↓a_on_t, ↓a_on_f, ↓a_on_und, ↓a_cond_b, ↓reduceIte, Go.Ab.part, List.getD_cons_zero, List.getD_cons_succ, List.set_cons_zero, List.set_cons_succ, List.length_cons, List.length_nil, List.cons_append, List.nil_append, cond_true, cond_false, Bool.cond_true, reduceCtorEq, Option.map_some, Option.map_none, forall_const, ne_eq, implies_true, Nat.reduceAdd, Nat.reduceLeDiff, Nat.reduceLT, Nat.beq, Option.isNone_none, beq_self_eq_true, bne_self_eq_false, Int.reduceBEq, Int.reduceBNe, Int.reduceLT, Int.reduceLE, Int.reduceGT, Int.reduceGE, Int.reduceEq, Int.reduceNe, Int.reduceToNat, List.take_zero, List.drop_zero, List.all_cons, List.all_nil, List.append_nil, List.length_append, List.length_set, List.append_assoc, List.drop_nil, List.take_nil, Hd.row, hget_new, d1, d2, d3, d4, d5, d6, d7, d8, d9] <;> try simp -dsimp only [if_conj]) <;> exact hK _
  have d9 : decide (size < 0) = false := decide_eq_false c5
  rw [right_is ht hm (by omega) (by omega) (by omega) (by omega)] at hK
  have hn : x.n = (x.n.toNat : Int) := by omega
  have e1 : IntKind.u64.wrap (IntKind.i64.wrap (x.n * 64)) = ((x.n.toNat * 64 : Nat) : Int) := by rw [wrap_i64 (n := x.n * 64) (by omega) (by omega), wrap_u64 (by omega) (by omega)]; omega
  have e2 : IntKind.u64.wrap size = (size.toNat : Int) := by rw [wrap_u64 (by omega) (by omega)]; omega
  have fin : ∀ l, K.K (Bo (decide (x.o + x.n.toNat * 64 ≤ size.toNat))) (h ++ l) := fun l => by
    have := hK l
    rw [show decide ((x.o : Int) + x.n * 64 ≤ size) = decide (x.o + x.n.toNat * 64 ≤ size.toNat) by congr 1; exact propext ⟨fun _ => by omega, fun _ => by omega⟩] at this
    exact this
  rcases hT with ⟨d1, d2⟩ | ⟨d1, d2⟩ <;> rcases hM with ⟨d3, d4⟩ | ⟨d3, d4⟩ <;> (simp +contextual -dsimp only [R10, evA, evB, ↓a_on_t, ↓a_on_f, ↓a_on_und, ↓a_cond_b, ↓reduceIte, Go.Ab.part, List.getD_cons_zero, List.getD_cons_succ, List.set_cons_zero, List.set_cons_succ, List.length_cons, List.length_nil, List.cons_append, List.nil_append, cond_true, cond_false, Bool.cond_true, reduceCtorEq, Option.map_some, Option.map_none, forall_const, ne_eq, implies_true, Nat.reduceAdd, Nat.reduceLeDiff, Nat.reduceLT, Nat.beq, Option.isNone_none, beq_self_eq_true, bne_self_eq_false, Int.reduceBEq, Int.reduceBNe, Int.reduceLT, Int.reduceLE, Int.reduceGT, Int.reduceGE, Int.reduceEq, Int.reduceNe, Int.reduceToNat, List.take_zero, List.drop_zero, List.all_cons, List.all_nil, List.append_nil, List.length_append, List.length_set, List.append_assoc, List.drop_nil, List.take_nil, Hd.row, hget_new, d1, d2, d3, d4, d5, d6, d7, d8, d9, e1, e2] <;> try simp -dsimp only [if_conj]) <;> refine rWithin_ok f3 (by omega) (by omega) ?_ <;> (simp +contextual -dsimp only [R10, evA, evB, ↓a_on_t, ↓a_on_f, ↓a_on_und, ↓a_cond_b, ↓reduceIte, Go.Ab.part, List.getD_cons_zero, List.getD_cons_succ, List.set_cons_zero, List.set_cons_succ, List.length_cons, List.length_nil, List.cons_append, List.nil_append, cond_true, cond_false, Bool.cond_true, reduceCtorEq, Option.map_some, Option.map_none, forall_const, ne_eq, implies_true, Nat.reduceAdd, Nat.reduceLeDiff, Nat.reduceLT, Nat.beq, Option.isNone_none, beq_self_eq_true, bne_self_eq_false, Int.reduceBEq, Int.reduceBNe, Int.reduceLT, Int.reduceLE, Int.reduceGT, Int.reduceGE, Int.reduceEq, Int.reduceNe, Int.reduceToNat, List.take_zero, List.drop_zero, List.all_cons, List.all_nil, List.append_nil, List.length_append, List.length_set, List.append_assoc, List.drop_nil, List.take_nil] <;> try simp -dsimp only [if_conj]) <;> exact fin _
end Go.Proofs.Ytebacdlbhjgmlaa
