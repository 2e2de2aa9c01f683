import Derived.Test.YtmjjfchahkdceaaDoorCC
import Derived.Test.YtmjjfchahkdceaaDoorGC
set_option linter.unusedVariables false
set_option linter.unusedSimpArgs false
set_option maxRecDepth 100000
namespace Go.Proofs.YtmjjfchahkdceaaDoor
open Go.Ab
variable {c : Cur} {h : Heap} {id : Nat} {K : Kt}

/-- how many bytes a head has -/
def uSize (k : Int) (w : Bool) : Nat := if k = 2 then (if w = true then 24 else 12) + 8 + lenW w else if k = 1 ∨ k = 3 then (if w = true then 24 else 12) else 0
theorem Size_ok {k : Int} {w : Bool} (hK : K.K (I (uSize k w)) h) : ACall X 15 [I k, Bo w] h K := by
  apply i15
  unfold uSize at hK
  have e1 : IntKind.i64.wrap (((lenW false : Nat) : Int) + 4) = 8 := by decide
  have e2 : IntKind.i64.wrap (8 + ((lenW false : Nat) : Int)) = 12 := by decide
  have e3 : IntKind.i64.wrap (((lenW true : Nat) : Int) + 4) = 12 := by decide
  have e4 : IntKind.i64.wrap (12 + ((lenW true : Nat) : Int)) = 20 := by decide
  have e5 : IntKind.i64.wrap (20 + 4) = 24 := by decide
  have e6 : IntKind.i64.wrap (12 + 8) = 20 := by decide
  have e7 : IntKind.i64.wrap (20 + ((lenW false : Nat) : Int)) = 24 := by decide
  have e8 : IntKind.i64.wrap (24 + 8) = 32 := by decide
  have e9 : IntKind.i64.wrap (32 + ((lenW true : Nat) : Int)) = 40 := by decide
  by_cases k2 : k = 2
  · subst k2
    cases w <;> ((simp +contextual -dsimp only [R15, evA, evB, ↓a_on_t, ↓a_on_f, ↓a_on_und, ↓a_cond_b, ↓reduceIte, Go.Ab.part, List.getD_cons_zero, List.getD_cons_succ, List.set_cons_zero, List.set_cons_succ, List.length_cons, List.length_nil, List.cons_append, List.nil_append, cond_true, cond_false, Bool.cond_true, reduceCtorEq, Option.map_some, Option.map_none, forall_const, ne_eq, implies_true, Nat.reduceAdd, Nat.reduceLeDiff, Nat.reduceLT, Nat.beq, Option.isNone_none, beq_self_eq_true, bne_self_eq_false, Int.reduceBEq, Int.reduceBNe, Int.reduceLT, Int.reduceLE, Int.reduceGT, Int.reduceGE, Int.reduceEq, Int.reduceNe, Int.reduceToNat, List.take_zero, List.drop_zero, List.all_cons, List.all_nil, List.append_nil, List.length_append, List.length_set, List.append_assoc, List.drop_nil, List.take_nil] <;> try simp -dsimp only [if_conj]); refine Off_ok ?_; (simp +contextual -dsimp only [R15, evA, evB, ↓a_on_t, ↓a_on_f, ↓a_on_und, ↓a_cond_b, ↓reduceIte, Go.Ab.part, List.getD_cons_zero, List.getD_cons_succ, List.set_cons_zero, List.set_cons_succ, List.length_cons, List.length_nil, List.cons_append, List.nil_append, cond_true, cond_false, Bool.cond_true, reduceCtorEq, Option.map_some, Option.map_none, forall_const, ne_eq, implies_true, Nat.reduceAdd, Nat.reduceLeDiff, Nat.reduceLT, Nat.beq, Option.isNone_none, beq_self_eq_true, bne_self_eq_false, Int.reduceBEq, Int.reduceBNe, Int.reduceLT, Int.reduceLE, Int.reduceGT, Int.reduceGE, Int.reduceEq, Int.reduceNe, Int.reduceToNat, List.take_zero, List.drop_zero, List.all_cons, List.all_nil, List.append_nil, List.length_append, List.length_set, List.append_assoc, List.drop_nil, List.take_nil, e1, e2, e3, e4, e5, e6, e7, e8, e9] <;> try simp -dsimp only [if_conj]); exact hK)
  · rw [if_neg k2] at hK
    have k2' : (k == 2) = false := by simp [k2]
    by_cases k1 : k = 1
    · subst k1
      cases w <;> ((simp +contextual -dsimp only [R15, evA, evB, ↓a_on_t, ↓a_on_f, ↓a_on_und, ↓a_cond_b, ↓reduceIte, Go.Ab.part, List.getD_cons_zero, List.getD_cons_succ, List.set_cons_zero, List.set_cons_succ, List.length_cons, List.length_nil, List.cons_append, List.nil_append, cond_true, cond_false, Bool.cond_true, reduceCtorEq, Option.map_some, Option.map_none, forall_const, ne_eq, implies_true, Nat.reduceAdd, Nat.reduceLeDiff, Nat.reduceLT, Nat.beq, Option.isNone_none, beq_self_eq_true, bne_self_eq_false, Int.reduceBEq, Int.reduceBNe, Int.reduceLT, Int.reduceLE, Int.reduceGT, Int.reduceGE, Int.reduceEq, Int.reduceNe, Int.reduceToNat, List.take_zero, List.drop_zero, List.all_cons, List.all_nil, List.append_nil, List.length_append, List.length_set, List.append_assoc, List.drop_nil, List.take_nil] <;> try simp -dsimp only [if_conj]); refine Off_ok ?_; (simp +contextual -dsimp only [R15, evA, evB, ↓a_on_t, ↓a_on_f, ↓a_on_und, ↓a_cond_b, ↓reduceIte, Go.Ab.part, List.getD_cons_zero, List.getD_cons_succ, List.set_cons_zero, List.set_cons_succ, List.length_cons, List.length_nil, List.cons_append, List.nil_append, cond_true, cond_false, Bool.cond_true, reduceCtorEq, Option.map_some, Option.map_none, forall_const, ne_eq, implies_true, Nat.reduceAdd, Nat.reduceLeDiff, Nat.reduceLT, Nat.beq, Option.isNone_none, beq_self_eq_true, bne_self_eq_false, Int.reduceBEq, Int.reduceBNe, Int.reduceLT, Int.reduceLE, Int.reduceGT, Int.reduceGE, Int.reduceEq, Int.reduceNe, Int.reduceToNat, List.take_zero, List.drop_zero, List.all_cons, List.all_nil, List.append_nil, List.length_append, List.length_set, List.append_assoc, List.drop_nil, List.take_nil, e1, e2, e3, e4, e5, e6, e7, e8, e9] <;> try simp -dsimp only [if_conj]); exact hK)
    · have k1' : (k == 1) = false := by simp [k1]
      by_cases k3 : k = 3
      · subst k3
        cases w <;> ((simp +contextual -dsimp only [R15, evA, evB, ↓a_on_t, ↓a_on_f, ↓a_on_und, ↓a_cond_b, ↓reduceIte, Go.Ab.part, List.getD_cons_zero, List.getD_cons_succ, List.set_cons_zero, List.set_cons_succ, List.length_cons, List.length_nil, List.cons_append, List.nil_append, cond_true, cond_false, Bool.cond_true, reduceCtorEq, Option.map_some, Option.map_none, forall_const, ne_eq, implies_true, Nat.reduceAdd, Nat.reduceLeDiff, Nat.reduceLT, Nat.beq, Option.isNone_none, beq_self_eq_true, bne_self_eq_false, Int.reduceBEq, Int.reduceBNe, Int.reduceLT, Int.reduceLE, Int.reduceGT, Int.reduceGE, Int.reduceEq, Int.reduceNe, Int.reduceToNat, List.take_zero, List.drop_zero, List.all_cons, List.all_nil, List.append_nil, List.length_append, List.length_set, List.append_assoc, List.drop_nil, List.take_nil] <;> try simp -dsimp only [if_conj]); refine Off_ok ?_; (simp +contextual -dsimp only [R15, evA, evB, ↓a_on_t, ↓a_on_f, ↓a_on_und, ↓a_cond_b, ↓reduceIte, Go.Ab.part, List.getD_cons_zero, List.getD_cons_succ, List.set_cons_zero, List.set_cons_succ, List.length_cons, List.length_nil, List.cons_append, List.nil_append, cond_true, cond_false, Bool.cond_true, reduceCtorEq, Option.map_some, Option.map_none, forall_const, ne_eq, implies_true, Nat.reduceAdd, Nat.reduceLeDiff, Nat.reduceLT, Nat.beq, Option.isNone_none, beq_self_eq_true, bne_self_eq_false, Int.reduceBEq, Int.reduceBNe, Int.reduceLT, Int.reduceLE, Int.reduceGT, Int.reduceGE, Int.reduceEq, Int.reduceNe, Int.reduceToNat, List.take_zero, List.drop_zero, List.all_cons, List.all_nil, List.append_nil, List.length_append, List.length_set, List.append_assoc, List.drop_nil, List.take_nil, e1, e2, e3, e4, e5, e6, e7, e8, e9] <;> try simp -dsimp only [if_conj]); exact hK)
      · have k3' : (k == 3) = false := by simp [k3]
        rw [if_neg (by simp [k1, k3])] at hK
        cases w <;> ((simp +contextual -dsimp only [R15, evA, evB, ↓a_on_t, ↓a_on_f, ↓a_on_und, ↓a_cond_b, ↓reduceIte, Go.Ab.part, List.getD_cons_zero, List.getD_cons_succ, List.set_cons_zero, List.set_cons_succ, List.length_cons, List.length_nil, List.cons_append, List.nil_append, cond_true, cond_false, Bool.cond_true, reduceCtorEq, Option.map_some, Option.map_none, forall_const, ne_eq, implies_true, Nat.reduceAdd, Nat.reduceLeDiff, Nat.reduceLT, Nat.beq, Option.isNone_none, beq_self_eq_true, bne_self_eq_false, Int.reduceBEq, Int.reduceBNe, Int.reduceLT, Int.reduceLE, Int.reduceGT, Int.reduceGE, Int.reduceEq, Int.reduceNe, Int.reduceToNat, List.take_zero, List.drop_zero, List.all_cons, List.all_nil, List.append_nil, List.length_append, List.length_set, List.append_assoc, List.drop_nil, List.take_nil] <;> try simp -dsimp only [if_conj]); refine Off_ok ?_; (simp +contextual -dsimp only [R15, evA, evB, ↓a_on_t, ↓a_on_f, ↓a_on_und, ↓a_cond_b, ↓reduceIte, Go.Ab.part, List.getD_cons_zero, List.getD_cons_succ, List.set_cons_zero, List.set_cons_succ, List.length_cons, List.length_nil, List.cons_append, List.nil_append, cond_true, cond_false, Bool.cond_true, reduceCtorEq, Option.map_some, Option.map_none, forall_const, ne_eq, implies_true, Nat.reduceAdd, Nat.reduceLeDiff, Nat.reduceLT, Nat.beq, Option.isNone_none, beq_self_eq_true, bne_self_eq_false, Int.reduceBEq, Int.reduceBNe, Int.reduceLT, Int.reduceLE, Int.reduceGT, Int.reduceGE, Int.reduceEq, Int.reduceNe, Int.reduceToNat, List.take_zero, List.drop_zero, List.all_cons, List.all_nil, List.append_nil, List.length_append, List.length_set, List.append_assoc, List.drop_nil, List.take_nil, e1, e2, e3, e4, e5, e6, e7, e8, e9, k1', k2', k3'] <;> try simp -dsimp only [if_conj]); exact hK)
theorem rSize15_ok {k : Int} {w : Bool} (hK : K.K (I (uSize k w)) h) : ACall X 16 [I k, Bo w] h K := by
  apply i16
  unfold uSize at hK
  have e6 : IntKind.i64.wrap (12 + 8) = 20 := by decide
  have e7 : IntKind.i64.wrap (20 + ((lenW false : Nat) : Int)) = 24 := by decide
  have e8 : IntKind.i64.wrap (24 + 8) = 32 := by decide
  have e9 : IntKind.i64.wrap (32 + ((lenW true : Nat) : Int)) = 40 := by decide
  by_cases k0 : k < 1
  · have d0 : decide (k < 1) = true := decide_eq_true k0
    rw [if_neg (by omega), if_neg (by omega)] at hK
    (simp +contextual -dsimp only [R16, evA, evB, ↓a_on_t, ↓a_on_f, ↓a_on_und, ↓a_cond_b, ↓reduceIte, Go.Ab.part, List.getD_cons_zero, List.getD_cons_succ, List.set_cons_zero, List.set_cons_succ, List.length_cons, List.length_nil, List.cons_append, List.nil_append, cond_true, cond_false, Bool.cond_true, reduceCtorEq, Option.map_some, Option.map_none, forall_const, ne_eq, implies_true, Nat.reduceAdd, Nat.reduceLeDiff, Nat.reduceLT, Nat.beq, Option.isNone_none, beq_self_eq_true, bne_self_eq_false, Int.reduceBEq, Int.reduceBNe, Int.reduceLT, Int.reduceLE, Int.reduceGT, Int.reduceGE, Int.reduceEq, Int.reduceNe, Int.reduceToNat, List.take_zero, List.drop_zero, List.all_cons, List.all_nil, List.append_nil, List.length_append, List.length_set, List.append_assoc, List.drop_nil, List.take_nil, d0] <;> try simp -dsimp only [if_conj])
    exact hK
  · have d0 : decide (k < 1) = false := decide_eq_false k0
    by_cases k4 : k > 3
    · have d4 : decide (k > 3) = true := decide_eq_true k4
      rw [if_neg (by omega), if_neg (by omega)] at hK
      (simp +contextual -dsimp only [R16, evA, evB, ↓a_on_t, ↓a_on_f, ↓a_on_und, ↓a_cond_b, ↓reduceIte, Go.Ab.part, List.getD_cons_zero, List.getD_cons_succ, List.set_cons_zero, List.set_cons_succ, List.length_cons, List.length_nil, List.cons_append, List.nil_append, cond_true, cond_false, Bool.cond_true, reduceCtorEq, Option.map_some, Option.map_none, forall_const, ne_eq, implies_true, Nat.reduceAdd, Nat.reduceLeDiff, Nat.reduceLT, Nat.beq, Option.isNone_none, beq_self_eq_true, bne_self_eq_false, Int.reduceBEq, Int.reduceBNe, Int.reduceLT, Int.reduceLE, Int.reduceGT, Int.reduceGE, Int.reduceEq, Int.reduceNe, Int.reduceToNat, List.take_zero, List.drop_zero, List.all_cons, List.all_nil, List.append_nil, List.length_append, List.length_set, List.append_assoc, List.drop_nil, List.take_nil, d0, d4] <;> try simp -dsimp only [if_conj])
      exact hK
    · have d4 : decide (k > 3) = false := decide_eq_false k4
      by_cases k2 : k = 2
      · subst k2
        cases w <;> ((simp +contextual -dsimp only [R16, evA, evB, ↓a_on_t, ↓a_on_f, ↓a_on_und, ↓a_cond_b, ↓reduceIte, Go.Ab.part, List.getD_cons_zero, List.getD_cons_succ, List.set_cons_zero, List.set_cons_succ, List.length_cons, List.length_nil, List.cons_append, List.nil_append, cond_true, cond_false, Bool.cond_true, reduceCtorEq, Option.map_some, Option.map_none, forall_const, ne_eq, implies_true, Nat.reduceAdd, Nat.reduceLeDiff, Nat.reduceLT, Nat.beq, Option.isNone_none, beq_self_eq_true, bne_self_eq_false, Int.reduceBEq, Int.reduceBNe, Int.reduceLT, Int.reduceLE, Int.reduceGT, Int.reduceGE, Int.reduceEq, Int.reduceNe, Int.reduceToNat, List.take_zero, List.drop_zero, List.all_cons, List.all_nil, List.append_nil, List.length_append, List.length_set, List.append_assoc, List.drop_nil, List.take_nil, d0, d4] <;> try simp -dsimp only [if_conj]); refine rOff_ok ?_; (simp +contextual -dsimp only [R16, evA, evB, ↓a_on_t, ↓a_on_f, ↓a_on_und, ↓a_cond_b, ↓reduceIte, Go.Ab.part, List.getD_cons_zero, List.getD_cons_succ, List.set_cons_zero, List.set_cons_succ, List.length_cons, List.length_nil, List.cons_append, List.nil_append, cond_true, cond_false, Bool.cond_true, reduceCtorEq, Option.map_some, Option.map_none, forall_const, ne_eq, implies_true, Nat.reduceAdd, Nat.reduceLeDiff, Nat.reduceLT, Nat.beq, Option.isNone_none, beq_self_eq_true, bne_self_eq_false, Int.reduceBEq, Int.reduceBNe, Int.reduceLT, Int.reduceLE, Int.reduceGT, Int.reduceGE, Int.reduceEq, Int.reduceNe, Int.reduceToNat, List.take_zero, List.drop_zero, List.all_cons, List.all_nil, List.append_nil, List.length_append, List.length_set, List.append_assoc, List.drop_nil, List.take_nil, e6, e7, e8, e9] <;> try simp -dsimp only [if_conj]); exact hK)
      · rw [if_neg k2, if_pos (by omega)] at hK
        have k2' : (k == 2) = false := by simp [k2]
        cases w <;> ((simp +contextual -dsimp only [R16, evA, evB, ↓a_on_t, ↓a_on_f, ↓a_on_und, ↓a_cond_b, ↓reduceIte, Go.Ab.part, List.getD_cons_zero, List.getD_cons_succ, List.set_cons_zero, List.set_cons_succ, List.length_cons, List.length_nil, List.cons_append, List.nil_append, cond_true, cond_false, Bool.cond_true, reduceCtorEq, Option.map_some, Option.map_none, forall_const, ne_eq, implies_true, Nat.reduceAdd, Nat.reduceLeDiff, Nat.reduceLT, Nat.beq, Option.isNone_none, beq_self_eq_true, bne_self_eq_false, Int.reduceBEq, Int.reduceBNe, Int.reduceLT, Int.reduceLE, Int.reduceGT, Int.reduceGE, Int.reduceEq, Int.reduceNe, Int.reduceToNat, List.take_zero, List.drop_zero, List.all_cons, List.all_nil, List.append_nil, List.length_append, List.length_set, List.append_assoc, List.drop_nil, List.take_nil, d0, d4, k2'] <;> try simp -dsimp only [if_conj]); exact hK)
/-- a head's numbers, read -/
structure HdR where
  kind : Nat
  abbrev_ : Nat
  sig : Nat
  type : Nat
  c : Cur
def failIf (c : Cur) (b : Bool) : Cur := if b = true then c.fail 42 else c
def hdR4 (w : Bool) (k : Nat) (d : Cur) : HdR :=
  if k = 2 then ⟨k, le (d.got (lenW w)), le ((d.skip (lenW w)).got 8), le (((d.skip (lenW w)).skip 8).got (lenW w)), ((d.skip (lenW w)).skip 8).skip (lenW w)⟩ else ⟨k, le (d.got (lenW w)), 0, 0, d.skip (lenW w)⟩
def hdR3 (w : Bool) (k : Nat) (d : Cur) : HdR := hdR4 w k (failIf (d.skip 1) (le (d.got 1) != 8))
def hdR2 (w : Bool) (d : Cur) : HdR := hdR3 w (le (d.got 1)) (failIf (d.skip 1) (uSize (le (d.got 1) : Nat) w == 0))
def hdRead (w : Bool) (d : Cur) : HdR := hdR2 w (failIf (d.skip 2) (le (d.got 2) != 5))
theorem failIf_e {c : Cur} {b : Bool} : failIf c (b && (c.e == 0)) = failIf c b := by
  cases b
  · rfl
  · unfold failIf Cur.fail
    by_cases h : c.e = 0 <;> simp [h]
theorem failIf_inv (hi : c.inv) (b : Bool) : (failIf c b).inv := by
  unfold failIf; split
  · exact hi.fail 42
  · exact hi
/-- memory while a head is read -/
structure RS (h : Heap) (id : Nat) (w : Bool) (d : Cur) (cells : List AV) (g : Heap) : Prop where
  len : g.length = h.length + 4
  keep : ∀ j, j < h.length → j ≠ id → g.getD j .dead = h.getD j .dead
  c : g.getD id .dead = cur d
  b1 : g.getD h.length .dead = .o 1 [.p id 0]
  b2 : g.getD (h.length + 1) .dead = .o 1 [Bo w]
  r : g.getD (h.length + 2) .dead = .o 1 [I 0, Bo false, U 0, U 0, U 0, U 0, U 0, U 0]
  v : g.getD (h.length + 3) .dead = .o 1 cells
theorem RS.cur' {h g : Heap} {id : Nat} {w : Bool} {d : Cur} {cells : List AV} (s : RS h id w d cells g) (hl : id < h.length) (d' : Cur) : RS h id w d' cells (g.set id (cur d')) :=
  ⟨by rw [List.length_set, s.len], fun j h1 h2 => by rw [hget_set_ne (Ne.symm h2)]; exact s.keep j h1 h2, hget_set (by rw [s.len]; omega), by rw [hget_set_ne (by omega)]; exact s.b1, by rw [hget_set_ne (by omega)]; exact s.b2, by rw [hget_set_ne (by omega)]; exact s.r, by rw [hget_set_ne (by omega)]; exact s.v⟩
theorem RS.st {h g : Heap} {id : Nat} {w : Bool} {d : Cur} {cells : List AV} (s : RS h id w d cells g) (hl : id < h.length) (cells' : List AV) : RS h id w d cells' (g.set (h.length + 3) (.o 1 cells')) :=
  ⟨by rw [List.length_set, s.len], fun j h1 h2 => by rw [hget_set_ne (by omega)]; exact s.keep j h1 h2, by rw [hget_set_ne (by omega)]; exact s.c, by rw [hget_set_ne (by omega)]; exact s.b1, by rw [hget_set_ne (by omega)]; exact s.b2, by rw [hget_set_ne (by omega)]; exact s.r, hget_set (by rw [s.len]; omega)⟩
theorem off_ok {w : Bool} {b1 b2 : Nat} (h1 : h.getD b1 .dead = .o 1 [.p id 0]) (h2 : h.getD b2 .dead = .o 1 [Bo w]) (hid : h.getD id .dead = cur c) (hi : c.inv) (hK : K.K (U (le (c.got (lenW w)))) (h.set id (cur (c.skip (lenW w))))) : ACall X 38 [.p b1 0, .p b2 0] h K := by
  apply i38
  (simp +contextual -dsimp only [R38, evA, evB, ↓a_on_t, ↓a_on_f, ↓a_on_und, ↓a_cond_b, ↓reduceIte, Go.Ab.part, List.getD_cons_zero, List.getD_cons_succ, List.set_cons_zero, List.set_cons_succ, List.length_cons, List.length_nil, List.cons_append, List.nil_append, cond_true, cond_false, Bool.cond_true, reduceCtorEq, Option.map_some, Option.map_none, forall_const, ne_eq, implies_true, Nat.reduceAdd, Nat.reduceLeDiff, Nat.reduceLT, Nat.beq, Option.isNone_none, beq_self_eq_true, bne_self_eq_false, Int.reduceBEq, Int.reduceBNe, Int.reduceLT, Int.reduceLE, Int.reduceGT, Int.reduceGE, Int.reduceEq, Int.reduceNe, Int.reduceToNat, List.take_zero, List.drop_zero, List.all_cons, List.all_nil, List.append_nil, List.length_append, List.length_set, List.append_assoc, List.drop_nil, List.take_nil, h1, h2] <;> try simp -dsimp only [if_conj])
  refine Off_ok ?_
  (simp +contextual -dsimp only [R38, evA, evB, ↓a_on_t, ↓a_on_f, ↓a_on_und, ↓a_cond_b, ↓reduceIte, Go.Ab.part, List.getD_cons_zero, List.getD_cons_succ, List.set_cons_zero, List.set_cons_succ, List.length_cons, List.length_nil, List.cons_append, List.nil_append, cond_true, cond_false, Bool.cond_true, reduceCtorEq, Option.map_some, Option.map_none, forall_const, ne_eq, implies_true, Nat.reduceAdd, Nat.reduceLeDiff, Nat.reduceLT, Nat.beq, Option.isNone_none, beq_self_eq_true, bne_self_eq_false, Int.reduceBEq, Int.reduceBNe, Int.reduceLT, Int.reduceLE, Int.reduceGT, Int.reduceGE, Int.reduceEq, Int.reduceNe, Int.reduceToNat, List.take_zero, List.drop_zero, List.all_cons, List.all_nil, List.append_nil, List.length_append, List.length_set, List.append_assoc, List.drop_nil, List.take_nil, h1, h2] <;> try simp -dsimp only [if_conj])
  refine Uint_ok hid hi ?_
  rw [show wid ((lenW w : Nat) : Int) = lenW w from wid_nat (by cases w <;> decide)]
  (simp +contextual -dsimp only [R38, evA, evB, ↓a_on_t, ↓a_on_f, ↓a_on_und, ↓a_cond_b, ↓reduceIte, Go.Ab.part, List.getD_cons_zero, List.getD_cons_succ, List.set_cons_zero, List.set_cons_succ, List.length_cons, List.length_nil, List.cons_append, List.nil_append, cond_true, cond_false, Bool.cond_true, reduceCtorEq, Option.map_some, Option.map_none, forall_const, ne_eq, implies_true, Nat.reduceAdd, Nat.reduceLeDiff, Nat.reduceLT, Nat.beq, Option.isNone_none, beq_self_eq_true, bne_self_eq_false, Int.reduceBEq, Int.reduceBNe, Int.reduceLT, Int.reduceLE, Int.reduceGT, Int.reduceGE, Int.reduceEq, Int.reduceNe, Int.reduceToNat, List.take_zero, List.drop_zero, List.all_cons, List.all_nil, List.append_nil, List.length_append, List.length_set, List.append_assoc, List.drop_nil, List.take_nil, h1, h2] <;> try simp -dsimp only [if_conj])
  exact hK
theorem wrong_ok {b : Bool} {b1 : Nat} (h1 : h.getD b1 .dead = .o 1 [.p id 0]) (hid : h.getD id .dead = cur c) (hK : K.K (.t []) (h.set id (cur (failIf c b)))) : ACall X 40 [Bo b, .p b1 0] h K := by
  apply i40
  cases b
  · (simp +contextual -dsimp only [R40, evA, evB, ↓a_on_t, ↓a_on_f, ↓a_on_und, ↓a_cond_b, ↓reduceIte, Go.Ab.part, List.getD_cons_zero, List.getD_cons_succ, List.set_cons_zero, List.set_cons_succ, List.length_cons, List.length_nil, List.cons_append, List.nil_append, cond_true, cond_false, Bool.cond_true, reduceCtorEq, Option.map_some, Option.map_none, forall_const, ne_eq, implies_true, Nat.reduceAdd, Nat.reduceLeDiff, Nat.reduceLT, Nat.beq, Option.isNone_none, beq_self_eq_true, bne_self_eq_false, Int.reduceBEq, Int.reduceBNe, Int.reduceLT, Int.reduceLE, Int.reduceGT, Int.reduceGE, Int.reduceEq, Int.reduceNe, Int.reduceToNat, List.take_zero, List.drop_zero, List.all_cons, List.all_nil, List.append_nil, List.length_append, List.length_set, List.append_assoc, List.drop_nil, List.take_nil] <;> try simp -dsimp only [if_conj])
    rw [show failIf c false = c from rfl, hset_self hid] at hK
    exact hK
  · (simp +contextual -dsimp only [R40, evA, evB, ↓a_on_t, ↓a_on_f, ↓a_on_und, ↓a_cond_b, ↓reduceIte, Go.Ab.part, List.getD_cons_zero, List.getD_cons_succ, List.set_cons_zero, List.set_cons_succ, List.length_cons, List.length_nil, List.cons_append, List.nil_append, cond_true, cond_false, Bool.cond_true, reduceCtorEq, Option.map_some, Option.map_none, forall_const, ne_eq, implies_true, Nat.reduceAdd, Nat.reduceLeDiff, Nat.reduceLT, Nat.beq, Option.isNone_none, beq_self_eq_true, bne_self_eq_false, Int.reduceBEq, Int.reduceBNe, Int.reduceLT, Int.reduceLE, Int.reduceGT, Int.reduceGE, Int.reduceEq, Int.reduceNe, Int.reduceToNat, List.take_zero, List.drop_zero, List.all_cons, List.all_nil, List.append_nil, List.length_append, List.length_set, List.append_assoc, List.drop_nil, List.take_nil, h1] <;> try simp -dsimp only [if_conj])
    refine Fail_ok hid ?_
    (simp +contextual -dsimp only [R40, evA, evB, ↓a_on_t, ↓a_on_f, ↓a_on_und, ↓a_cond_b, ↓reduceIte, Go.Ab.part, List.getD_cons_zero, List.getD_cons_succ, List.set_cons_zero, List.set_cons_succ, List.length_cons, List.length_nil, List.cons_append, List.nil_append, cond_true, cond_false, Bool.cond_true, reduceCtorEq, Option.map_some, Option.map_none, forall_const, ne_eq, implies_true, Nat.reduceAdd, Nat.reduceLeDiff, Nat.reduceLT, Nat.beq, Option.isNone_none, beq_self_eq_true, bne_self_eq_false, Int.reduceBEq, Int.reduceBNe, Int.reduceLT, Int.reduceLE, Int.reduceGT, Int.reduceGE, Int.reduceEq, Int.reduceNe, Int.reduceToNat, List.take_zero, List.drop_zero, List.all_cons, List.all_nil, List.append_nil, List.length_append, List.length_set, List.append_assoc, List.drop_nil, List.take_nil] <;> try simp -dsimp only [if_conj])
    exact hK
abbrev hdOut (r : HdR) (w : Bool) : AV := .g [I r.kind, Bo w, U r.abbrev_, U r.sig, U r.type, U 0, U 0, U 0]
theorem RS.out {h g : Heap} {id : Nat} {w : Bool} {d : Cur} {cells : List AV} (s : RS h id w d cells g) : Grown h id g id (cur d) := ⟨by rw [s.len]; omega, s.keep, s.c, .inl rfl⟩
theorem RS.res {h g : Heap} {id : Nat} {w : Bool} {d : Cur} {cells : List AV} (s : RS h id w d cells g) (o : AO) : (g.set (h.length + 2) o).getD (h.length + 2) .dead = o := hget_set (by rw [s.len]; omega)
theorem RS.fin {h g : Heap} {id : Nat} {w : Bool} {d : Cur} {cells : List AV} (s : RS h id w d cells g) (hl : id < h.length) (o : AO) : Grown h id (g.set (h.length + 2) o) id (cur d) :=
  ⟨by rw [List.length_set, s.len]; omega, fun j h1 h2 => by rw [hget_set_ne (by omega)]; exact s.keep j h1 h2, by rw [hget_set_ne (by omega)]; exact s.c, .inl rfl⟩
theorem et8 (a b c d e f g h : AV) : List.take 8 [a, b, c, d, e, f, g, h] = [a, b, c, d, e, f, g, h] := rfl
theorem read_t3 {w : Bool} {k : Nat} {d : Cur} {g : Heap} (hl : id < h.length) (hi : d.inv) (s : RS h id w d [I k, Bo w, U 0, U 0, U 0, U 0, U 0, U 0] g) (hK : ∀ h', Grown h id h' id (cur (hdR4 w k d).c) → K.K (hdOut (hdR4 w k d) w) h') :
    ∀ st : St, st = ((sl st.1 0 :: sl st.1 1 :: .p h.length 0 :: .p (h.length + 1) 0 :: .p (h.length + 2) 0 :: .p (h.length + 3) 0 :: sl st.1 6 :: sl st.1 7 :: .f (.func 37) [.p id 0] [] :: .f (.func 38) [] [.p h.length 0, .p (h.length + 1) 0] :: sl st.1 10 :: sl st.1 11 :: sl st.1 12 :: sl st.1 13 :: sl st.1 14 :: sl st.1 15 :: sl st.1 16 :: sl st.1 17 :: sl st.1 18 :: sl st.1 19 :: sl st.1 20 :: sl st.1 21 :: sl st.1 22 :: sl st.1 23 :: sl st.1 24 :: sl st.1 25 :: sl st.1 26 :: sl st.1 27 :: sl st.1 28 :: sl st.1 29 :: sl st.1 30 :: sl st.1 31 :: sl st.1 32 :: sl st.1 33 :: sl st.1 34 :: sl st.1 35 :: sl st.1 36 :: sl st.1 37 :: sl st.1 38 :: sl st.1 39 :: sl st.1 40 :: sl st.1 41 :: sl st.1 42 :: sl st.1 43 :: sl st.1 44 :: sl st.1 45 :: sl st.1 46 :: sl st.1 47 :: sl st.1 48 :: sl st.1 49 :: sl st.1 50 :: sl st.1 51 :: sl st.1 52 :: sl st.1 53 :: sl st.1 54 :: sl st.1 55 :: sl st.1 56 :: sl st.1 57 :: sl st.1 58 :: sl st.1 59 :: sl st.1 60 :: sl st.1 61 :: sl st.1 62 :: sl st.1 63 :: sl st.1 64 :: sl st.1 65 :: sl st.1 66 :: sl st.1 67 :: sl st.1 68 :: sl st.1 69 :: []), g) → awp X h.length c22_18 (retQ X Tryd.f22 K) st := by
  intro st hst
  rw [hst]
  (simp +contextual -dsimp only [R22, evA, evB, ↓a_on_t, ↓a_on_f, ↓a_on_und, ↓a_cond_b, ↓reduceIte, Go.Ab.part, List.getD_cons_zero, List.getD_cons_succ, List.set_cons_zero, List.set_cons_succ, List.length_cons, List.length_nil, List.cons_append, List.nil_append, cond_true, cond_false, Bool.cond_true, reduceCtorEq, Option.map_some, Option.map_none, forall_const, ne_eq, implies_true, Nat.reduceAdd, Nat.reduceLeDiff, Nat.reduceLT, Nat.beq, Option.isNone_none, beq_self_eq_true, bne_self_eq_false, Int.reduceBEq, Int.reduceBNe, Int.reduceLT, Int.reduceLE, Int.reduceGT, Int.reduceGE, Int.reduceEq, Int.reduceNe, Int.reduceToNat, List.take_zero, List.drop_zero, List.all_cons, List.all_nil, List.append_nil, List.length_append, List.length_set, List.append_assoc, List.drop_nil, List.take_nil] <;> try simp -dsimp only [if_conj])
  refine off_ok s.b1 s.b2 s.c hi ?_
  have s1 := s.cur' hl (d.skip (lenW w))
  have i1 := hi.skip (lenW w)
  unfold hdR4 at hK
  generalize g.set id (cur (d.skip (lenW w))) = g1 at *
  have s2 := s1.st hl [I k, Bo w, U (le (d.got (lenW w))), U 0, U 0, U 0, U 0, U 0]
  by_cases k2 : k = 2
  · rw [if_pos k2] at hK
    have k2' : ((k : Int) == 2) = true := by simp [k2]
    (simp +contextual -dsimp only [R22, evA, evB, ↓a_on_t, ↓a_on_f, ↓a_on_und, ↓a_cond_b, ↓reduceIte, Go.Ab.part, List.getD_cons_zero, List.getD_cons_succ, List.set_cons_zero, List.set_cons_succ, List.length_cons, List.length_nil, List.cons_append, List.nil_append, cond_true, cond_false, Bool.cond_true, reduceCtorEq, Option.map_some, Option.map_none, forall_const, ne_eq, implies_true, Nat.reduceAdd, Nat.reduceLeDiff, Nat.reduceLT, Nat.beq, Option.isNone_none, beq_self_eq_true, bne_self_eq_false, Int.reduceBEq, Int.reduceBNe, Int.reduceLT, Int.reduceLE, Int.reduceGT, Int.reduceGE, Int.reduceEq, Int.reduceNe, Int.reduceToNat, List.take_zero, List.drop_zero, List.all_cons, List.all_nil, List.append_nil, List.length_append, List.length_set, List.append_assoc, List.drop_nil, List.take_nil, s1.v, setAt, s2.v, k2'] <;> try simp -dsimp only [if_conj])
    refine U64_ok s2.c i1 ?_
    have s3 := s2.cur' hl ((d.skip (lenW w)).skip 8)
    have i2 := i1.skip 8
    generalize (g1.set (h.length + 3) (.o 1 [I k, Bo w, U (le (d.got (lenW w))), U 0, U 0, U 0, U 0, U 0])).set id (cur ((d.skip (lenW w)).skip 8)) = g3 at *
    (simp +contextual -dsimp only [R22, evA, evB, ↓a_on_t, ↓a_on_f, ↓a_on_und, ↓a_cond_b, ↓reduceIte, Go.Ab.part, List.getD_cons_zero, List.getD_cons_succ, List.set_cons_zero, List.set_cons_succ, List.length_cons, List.length_nil, List.cons_append, List.nil_append, cond_true, cond_false, Bool.cond_true, reduceCtorEq, Option.map_some, Option.map_none, forall_const, ne_eq, implies_true, Nat.reduceAdd, Nat.reduceLeDiff, Nat.reduceLT, Nat.beq, Option.isNone_none, beq_self_eq_true, bne_self_eq_false, Int.reduceBEq, Int.reduceBNe, Int.reduceLT, Int.reduceLE, Int.reduceGT, Int.reduceGE, Int.reduceEq, Int.reduceNe, Int.reduceToNat, List.take_zero, List.drop_zero, List.all_cons, List.all_nil, List.append_nil, List.length_append, List.length_set, List.append_assoc, List.drop_nil, List.take_nil] <;> try simp -dsimp only [if_conj])
    refine off_ok s3.b1 s3.b2 s3.c i2 ?_
    have s4 := s3.cur' hl (((d.skip (lenW w)).skip 8).skip (lenW w))
    generalize g3.set id (cur (((d.skip (lenW w)).skip 8).skip (lenW w))) = g4 at *
    have s5 := s4.st hl [I k, Bo w, U (le (d.got (lenW w))), U (le ((d.skip (lenW w)).got 8)), U 0, U 0, U 0, U 0]
    have s6 := s5.st hl [I k, Bo w, U (le (d.got (lenW w))), U (le ((d.skip (lenW w)).got 8)), U (le (((d.skip (lenW w)).skip 8).got (lenW w))), U 0, U 0, U 0]
    (simp +contextual -dsimp only [R22, evA, evB, ↓a_on_t, ↓a_on_f, ↓a_on_und, ↓a_cond_b, ↓reduceIte, Go.Ab.part, List.getD_cons_zero, List.getD_cons_succ, List.set_cons_zero, List.set_cons_succ, List.length_cons, List.length_nil, List.cons_append, List.nil_append, cond_true, cond_false, Bool.cond_true, reduceCtorEq, Option.map_some, Option.map_none, forall_const, ne_eq, implies_true, Nat.reduceAdd, Nat.reduceLeDiff, Nat.reduceLT, Nat.beq, Option.isNone_none, beq_self_eq_true, bne_self_eq_false, Int.reduceBEq, Int.reduceBNe, Int.reduceLT, Int.reduceLE, Int.reduceGT, Int.reduceGE, Int.reduceEq, Int.reduceNe, Int.reduceToNat, List.take_zero, List.drop_zero, List.all_cons, List.all_nil, List.append_nil, List.length_append, List.length_set, List.append_assoc, List.drop_nil, List.take_nil, s4.v, setAt, s5.v, s6.v, s6.r, et8, s6.res] <;> try simp -dsimp only [if_conj])
    exact hK _ (s6.fin hl _)
  · rw [if_neg k2] at hK
    have k2' : ((k : Int) == 2) = false := by simp; omega
    have s3 : RS h id w (d.skip (lenW w)) [I k, Bo w, U (le (d.got (lenW w))), U 0, U 0, U 0, U 0, U 0] (g1.set (h.length + 3) (.o 1 [I k, Bo w, U (le (d.got (lenW w))), U 0, U 0, U 0, U 0, U 0])) := s2
    (simp +contextual -dsimp only [R22, evA, evB, ↓a_on_t, ↓a_on_f, ↓a_on_und, ↓a_cond_b, ↓reduceIte, Go.Ab.part, List.getD_cons_zero, List.getD_cons_succ, List.set_cons_zero, List.set_cons_succ, List.length_cons, List.length_nil, List.cons_append, List.nil_append, cond_true, cond_false, Bool.cond_true, reduceCtorEq, Option.map_some, Option.map_none, forall_const, ne_eq, implies_true, Nat.reduceAdd, Nat.reduceLeDiff, Nat.reduceLT, Nat.beq, Option.isNone_none, beq_self_eq_true, bne_self_eq_false, Int.reduceBEq, Int.reduceBNe, Int.reduceLT, Int.reduceLE, Int.reduceGT, Int.reduceGE, Int.reduceEq, Int.reduceNe, Int.reduceToNat, List.take_zero, List.drop_zero, List.all_cons, List.all_nil, List.append_nil, List.length_append, List.length_set, List.append_assoc, List.drop_nil, List.take_nil, s1.v, setAt, s2.v, k2', s2.r, et8, s2.res] <;> try simp -dsimp only [if_conj])
    exact hK _ (s2.fin hl _)
theorem failIf_a {c : Cur} {b : Bool} (hb : b = true) : failIf c (c.e == 0) = failIf c b := by
  subst hb; exact failIf_e (b := true)
theorem read_t2 {w : Bool} {k : Nat} {d : Cur} {g : Heap} (hl : id < h.length) (hi : d.inv) (s : RS h id w d [I k, Bo w, U 0, U 0, U 0, U 0, U 0, U 0] g) (hK : ∀ h', Grown h id h' id (cur (hdR3 w k d).c) → K.K (hdOut (hdR3 w k d) w) h') :
    ∀ st : St, st = ((sl st.1 0 :: sl st.1 1 :: .p h.length 0 :: .p (h.length + 1) 0 :: .p (h.length + 2) 0 :: .p (h.length + 3) 0 :: sl st.1 6 :: .f (.func 36) [.p id 0] [] :: .f (.func 37) [.p id 0] [] :: .f (.func 38) [] [.p h.length 0, .p (h.length + 1) 0] :: .f (.func 40) [] [.p h.length 0] :: sl st.1 11 :: sl st.1 12 :: sl st.1 13 :: sl st.1 14 :: sl st.1 15 :: sl st.1 16 :: sl st.1 17 :: sl st.1 18 :: sl st.1 19 :: sl st.1 20 :: sl st.1 21 :: sl st.1 22 :: sl st.1 23 :: sl st.1 24 :: sl st.1 25 :: sl st.1 26 :: sl st.1 27 :: sl st.1 28 :: sl st.1 29 :: sl st.1 30 :: sl st.1 31 :: sl st.1 32 :: sl st.1 33 :: sl st.1 34 :: sl st.1 35 :: sl st.1 36 :: sl st.1 37 :: sl st.1 38 :: sl st.1 39 :: sl st.1 40 :: sl st.1 41 :: sl st.1 42 :: sl st.1 43 :: sl st.1 44 :: sl st.1 45 :: sl st.1 46 :: sl st.1 47 :: sl st.1 48 :: sl st.1 49 :: sl st.1 50 :: sl st.1 51 :: sl st.1 52 :: sl st.1 53 :: sl st.1 54 :: sl st.1 55 :: sl st.1 56 :: sl st.1 57 :: sl st.1 58 :: sl st.1 59 :: sl st.1 60 :: sl st.1 61 :: sl st.1 62 :: sl st.1 63 :: sl st.1 64 :: sl st.1 65 :: sl st.1 66 :: sl st.1 67 :: sl st.1 68 :: sl st.1 69 :: []), g) → awp X h.length c22_16 (retQ X Tryd.f22 K) st := by
  intro st hst
  rw [hst]
  (simp +contextual -dsimp only [R22, evA, evB, ↓a_on_t, ↓a_on_f, ↓a_on_und, ↓a_cond_b, ↓reduceIte, Go.Ab.part, List.getD_cons_zero, List.getD_cons_succ, List.set_cons_zero, List.set_cons_succ, List.length_cons, List.length_nil, List.cons_append, List.nil_append, cond_true, cond_false, Bool.cond_true, reduceCtorEq, Option.map_some, Option.map_none, forall_const, ne_eq, implies_true, Nat.reduceAdd, Nat.reduceLeDiff, Nat.reduceLT, Nat.beq, Option.isNone_none, beq_self_eq_true, bne_self_eq_false, Int.reduceBEq, Int.reduceBNe, Int.reduceLT, Int.reduceLE, Int.reduceGT, Int.reduceGE, Int.reduceEq, Int.reduceNe, Int.reduceToNat, List.take_zero, List.drop_zero, List.all_cons, List.all_nil, List.append_nil, List.length_append, List.length_set, List.append_assoc, List.drop_nil, List.take_nil] <;> try simp -dsimp only [if_conj])
  refine U8_ok s.c hi ?_
  have s1 := s.cur' hl (d.skip 1)
  have i1 := hi.skip 1
  unfold hdR3 at hK
  generalize g.set id (cur (d.skip 1)) = g1 at *
  have s2 := s1.cur' hl (failIf (d.skip 1) (le (d.got 1) != 8))
  have i2 := failIf_inv i1 (le (d.got 1) != 8)
  cases hb : (le (d.got 1) != 8) with
  | false =>
    rw [hb] at s2 hK i2
    have hb' : (((le (d.got 1) : Nat) : Int) != 8) = false := by simp at hb ⊢; omega
    (simp +contextual -dsimp only [R22, evA, evB, ↓a_on_t, ↓a_on_f, ↓a_on_und, ↓a_cond_b, ↓reduceIte, Go.Ab.part, List.getD_cons_zero, List.getD_cons_succ, List.set_cons_zero, List.set_cons_succ, List.length_cons, List.length_nil, List.cons_append, List.nil_append, cond_true, cond_false, Bool.cond_true, reduceCtorEq, Option.map_some, Option.map_none, forall_const, ne_eq, implies_true, Nat.reduceAdd, Nat.reduceLeDiff, Nat.reduceLT, Nat.beq, Option.isNone_none, beq_self_eq_true, bne_self_eq_false, Int.reduceBEq, Int.reduceBNe, Int.reduceLT, Int.reduceLE, Int.reduceGT, Int.reduceGE, Int.reduceEq, Int.reduceNe, Int.reduceToNat, List.take_zero, List.drop_zero, List.all_cons, List.all_nil, List.append_nil, List.length_append, List.length_set, List.append_assoc, List.drop_nil, List.take_nil, hb'] <;> try simp -dsimp only [if_conj])
    refine wrong_ok s1.b1 s1.c ?_
    (simp +contextual -dsimp only [evA, evB, ↓a_on_t, ↓a_on_f, ↓a_on_und, ↓a_cond_b, ↓reduceIte, Go.Ab.part, List.getD_cons_zero, List.getD_cons_succ, List.set_cons_zero, List.set_cons_succ, List.length_cons, List.length_nil, List.cons_append, List.nil_append, cond_true, cond_false, Bool.cond_true, reduceCtorEq, Option.map_some, Option.map_none, forall_const, ne_eq, implies_true, Nat.reduceAdd, Nat.reduceLeDiff, Nat.reduceLT, Nat.beq, Option.isNone_none, beq_self_eq_true, bne_self_eq_false, Int.reduceBEq, Int.reduceBNe, Int.reduceLT, Int.reduceLE, Int.reduceGT, Int.reduceGE, Int.reduceEq, Int.reduceNe, Int.reduceToNat, List.take_zero, List.drop_zero, List.all_cons, List.all_nil, List.append_nil, List.length_append, List.length_set, List.append_assoc, List.drop_nil, List.take_nil] <;> try simp -dsimp only [if_conj])
    refine read_t3 hl i2 s2 hK _ ?_
    rfl
  | true =>
    rw [hb] at s2 hK i2
    have hb' : (((le (d.got 1) : Nat) : Int) != 8) = true := by simp at hb ⊢; omega
    (simp +contextual -dsimp only [R22, evA, evB, ↓a_on_t, ↓a_on_f, ↓a_on_und, ↓a_cond_b, ↓reduceIte, Go.Ab.part, List.getD_cons_zero, List.getD_cons_succ, List.set_cons_zero, List.set_cons_succ, List.length_cons, List.length_nil, List.cons_append, List.nil_append, cond_true, cond_false, Bool.cond_true, reduceCtorEq, Option.map_some, Option.map_none, forall_const, ne_eq, implies_true, Nat.reduceAdd, Nat.reduceLeDiff, Nat.reduceLT, Nat.beq, Option.isNone_none, beq_self_eq_true, bne_self_eq_false, Int.reduceBEq, Int.reduceBNe, Int.reduceLT, Int.reduceLE, Int.reduceGT, Int.reduceGE, Int.reduceEq, Int.reduceNe, Int.reduceToNat, List.take_zero, List.drop_zero, List.all_cons, List.all_nil, List.append_nil, List.length_append, List.length_set, List.append_assoc, List.drop_nil, List.take_nil, hb', s1.b1] <;> try simp -dsimp only [if_conj])
    refine Err_ok s1.c ?_
    (simp +contextual -dsimp only [R22, evA, evB, ↓a_on_t, ↓a_on_f, ↓a_on_und, ↓a_cond_b, ↓reduceIte, Go.Ab.part, List.getD_cons_zero, List.getD_cons_succ, List.set_cons_zero, List.set_cons_succ, List.length_cons, List.length_nil, List.cons_append, List.nil_append, cond_true, cond_false, Bool.cond_true, reduceCtorEq, Option.map_some, Option.map_none, forall_const, ne_eq, implies_true, Nat.reduceAdd, Nat.reduceLeDiff, Nat.reduceLT, Nat.beq, Option.isNone_none, beq_self_eq_true, bne_self_eq_false, Int.reduceBEq, Int.reduceBNe, Int.reduceLT, Int.reduceLE, Int.reduceGT, Int.reduceGE, Int.reduceEq, Int.reduceNe, Int.reduceToNat, List.take_zero, List.drop_zero, List.all_cons, List.all_nil, List.append_nil, List.length_append, List.length_set, List.append_assoc, List.drop_nil, List.take_nil, hb', s1.b1] <;> try simp -dsimp only [if_conj])
    refine wrong_ok s1.b1 s1.c ?_
    rw [failIf_a (b := true) rfl]
    (simp +contextual -dsimp only [evA, evB, ↓a_on_t, ↓a_on_f, ↓a_on_und, ↓a_cond_b, ↓reduceIte, Go.Ab.part, List.getD_cons_zero, List.getD_cons_succ, List.set_cons_zero, List.set_cons_succ, List.length_cons, List.length_nil, List.cons_append, List.nil_append, cond_true, cond_false, Bool.cond_true, reduceCtorEq, Option.map_some, Option.map_none, forall_const, ne_eq, implies_true, Nat.reduceAdd, Nat.reduceLeDiff, Nat.reduceLT, Nat.beq, Option.isNone_none, beq_self_eq_true, bne_self_eq_false, Int.reduceBEq, Int.reduceBNe, Int.reduceLT, Int.reduceLE, Int.reduceGT, Int.reduceGE, Int.reduceEq, Int.reduceNe, Int.reduceToNat, List.take_zero, List.drop_zero, List.all_cons, List.all_nil, List.append_nil, List.length_append, List.length_set, List.append_assoc, List.drop_nil, List.take_nil] <;> try simp -dsimp only [if_conj])
    refine read_t3 hl i2 s2 hK _ ?_
    rfl
theorem read_t1 {w : Bool} {d : Cur} {g : Heap} (hl : id < h.length) (hi : d.inv) (s : RS h id w d [I 0, Bo w, U 0, U 0, U 0, U 0, U 0, U 0] g) (hK : ∀ h', Grown h id h' id (cur (hdR2 w d).c) → K.K (hdOut (hdR2 w d) w) h') :
    ∀ st : St, st = ((sl st.1 0 :: sl st.1 1 :: .p h.length 0 :: .p (h.length + 1) 0 :: .p (h.length + 2) 0 :: .p (h.length + 3) 0 :: sl st.1 6 :: .f (.func 36) [.p id 0] [] :: .f (.func 37) [.p id 0] [] :: .f (.func 38) [] [.p h.length 0, .p (h.length + 1) 0] :: .f (.func 40) [] [.p h.length 0] :: sl st.1 11 :: sl st.1 12 :: sl st.1 13 :: sl st.1 14 :: sl st.1 15 :: sl st.1 16 :: sl st.1 17 :: sl st.1 18 :: sl st.1 19 :: sl st.1 20 :: sl st.1 21 :: sl st.1 22 :: sl st.1 23 :: sl st.1 24 :: sl st.1 25 :: sl st.1 26 :: sl st.1 27 :: sl st.1 28 :: sl st.1 29 :: sl st.1 30 :: sl st.1 31 :: sl st.1 32 :: sl st.1 33 :: sl st.1 34 :: sl st.1 35 :: sl st.1 36 :: sl st.1 37 :: sl st.1 38 :: sl st.1 39 :: sl st.1 40 :: sl st.1 41 :: sl st.1 42 :: sl st.1 43 :: sl st.1 44 :: sl st.1 45 :: sl st.1 46 :: sl st.1 47 :: sl st.1 48 :: sl st.1 49 :: sl st.1 50 :: sl st.1 51 :: sl st.1 52 :: sl st.1 53 :: sl st.1 54 :: sl st.1 55 :: sl st.1 56 :: sl st.1 57 :: sl st.1 58 :: sl st.1 59 :: sl st.1 60 :: sl st.1 61 :: sl st.1 62 :: sl st.1 63 :: sl st.1 64 :: sl st.1 65 :: sl st.1 66 :: sl st.1 67 :: sl st.1 68 :: sl st.1 69 :: []), g) → awp X h.length c22_12 (retQ X Tryd.f22 K) st := by
  intro st hst
  rw [hst]
  (simp +contextual -dsimp only [R22, evA, evB, ↓a_on_t, ↓a_on_f, ↓a_on_und, ↓a_cond_b, ↓reduceIte, Go.Ab.part, List.getD_cons_zero, List.getD_cons_succ, List.set_cons_zero, List.set_cons_succ, List.length_cons, List.length_nil, List.cons_append, List.nil_append, cond_true, cond_false, Bool.cond_true, reduceCtorEq, Option.map_some, Option.map_none, forall_const, ne_eq, implies_true, Nat.reduceAdd, Nat.reduceLeDiff, Nat.reduceLT, Nat.beq, Option.isNone_none, beq_self_eq_true, bne_self_eq_false, Int.reduceBEq, Int.reduceBNe, Int.reduceLT, Int.reduceLE, Int.reduceGT, Int.reduceGE, Int.reduceEq, Int.reduceNe, Int.reduceToNat, List.take_zero, List.drop_zero, List.all_cons, List.all_nil, List.append_nil, List.length_append, List.length_set, List.append_assoc, List.drop_nil, List.take_nil] <;> try simp -dsimp only [if_conj])
  refine U8_ok s.c hi ?_
  have s1 := s.cur' hl (d.skip 1)
  have i1 := hi.skip 1
  have hlt := le_got_lt d 1
  unfold hdR2 at hK
  generalize g.set id (cur (d.skip 1)) = g1 at *
  generalize le (d.got 1) = k at *
  have hw : IntKind.i64.wrap (k : Int) = (k : Int) := wrap_i64 (by omega) (by omega)
  have s2 := s1.st hl [I k, Bo w, U 0, U 0, U 0, U 0, U 0, U 0]
  (simp +contextual -dsimp only [R22, evA, evB, ↓a_on_t, ↓a_on_f, ↓a_on_und, ↓a_cond_b, ↓reduceIte, Go.Ab.part, List.getD_cons_zero, List.getD_cons_succ, List.set_cons_zero, List.set_cons_succ, List.length_cons, List.length_nil, List.cons_append, List.nil_append, cond_true, cond_false, Bool.cond_true, reduceCtorEq, Option.map_some, Option.map_none, forall_const, ne_eq, implies_true, Nat.reduceAdd, Nat.reduceLeDiff, Nat.reduceLT, Nat.beq, Option.isNone_none, beq_self_eq_true, bne_self_eq_false, Int.reduceBEq, Int.reduceBNe, Int.reduceLT, Int.reduceLE, Int.reduceGT, Int.reduceGE, Int.reduceEq, Int.reduceNe, Int.reduceToNat, List.take_zero, List.drop_zero, List.all_cons, List.all_nil, List.append_nil, List.length_append, List.length_set, List.append_assoc, List.drop_nil, List.take_nil, s1.v, setAt, hw, s2.v, s2.b1, s2.b2] <;> try simp -dsimp only [if_conj])
  generalize g1.set (h.length + 3) (.o 1 [I k, Bo w, U 0, U 0, U 0, U 0, U 0, U 0]) = g2 at *
  refine Err_ok s2.c ?_
  have s3 := s2.cur' hl (failIf (d.skip 1) (uSize k w == 0))
  have i3 := failIf_inv i1 (uSize k w == 0)
  have heq : failIf (d.skip 1) (((d.skip 1).e == 0) && (uSize k w == 0)) = failIf (d.skip 1) (uSize k w == 0) := by rw [Bool.and_comm]; exact failIf_e
  by_cases he : (d.skip 1).e = 0
  · have he' : ((d.skip 1).e == 0) = true := by simp [he]
    rw [he', Bool.true_and] at heq
    (simp +contextual -dsimp only [R22, evA, evB, ↓a_on_t, ↓a_on_f, ↓a_on_und, ↓a_cond_b, ↓reduceIte, Go.Ab.part, List.getD_cons_zero, List.getD_cons_succ, List.set_cons_zero, List.set_cons_succ, List.length_cons, List.length_nil, List.cons_append, List.nil_append, cond_true, cond_false, Bool.cond_true, reduceCtorEq, Option.map_some, Option.map_none, forall_const, ne_eq, implies_true, Nat.reduceAdd, Nat.reduceLeDiff, Nat.reduceLT, Nat.beq, Option.isNone_none, beq_self_eq_true, bne_self_eq_false, Int.reduceBEq, Int.reduceBNe, Int.reduceLT, Int.reduceLE, Int.reduceGT, Int.reduceGE, Int.reduceEq, Int.reduceNe, Int.reduceToNat, List.take_zero, List.drop_zero, List.all_cons, List.all_nil, List.append_nil, List.length_append, List.length_set, List.append_assoc, List.drop_nil, List.take_nil, he', s2.v, s2.b1, s2.b2] <;> try simp -dsimp only [if_conj])
    refine Size_ok ?_
    (simp +contextual -dsimp only [R22, evA, evB, ↓a_on_t, ↓a_on_f, ↓a_on_und, ↓a_cond_b, ↓reduceIte, Go.Ab.part, List.getD_cons_zero, List.getD_cons_succ, List.set_cons_zero, List.set_cons_succ, List.length_cons, List.length_nil, List.cons_append, List.nil_append, cond_true, cond_false, Bool.cond_true, reduceCtorEq, Option.map_some, Option.map_none, forall_const, ne_eq, implies_true, Nat.reduceAdd, Nat.reduceLeDiff, Nat.reduceLT, Nat.beq, Option.isNone_none, beq_self_eq_true, bne_self_eq_false, Int.reduceBEq, Int.reduceBNe, Int.reduceLT, Int.reduceLE, Int.reduceGT, Int.reduceGE, Int.reduceEq, Int.reduceNe, Int.reduceToNat, List.take_zero, List.drop_zero, List.all_cons, List.all_nil, List.append_nil, List.length_append, List.length_set, List.append_assoc, List.drop_nil, List.take_nil, he', s2.v, s2.b1, s2.b2] <;> try simp -dsimp only [if_conj])
    refine wrong_ok s2.b1 s2.c ?_
    have hb : (((uSize k w : Nat) : Int) == 0) = (uSize k w == 0) := by
      cases hq : (uSize k w == 0)
      · simp at hq ⊢; omega
      · simp at hq ⊢; omega
    rw [hb]
    (simp +contextual -dsimp only [evA, evB, ↓a_on_t, ↓a_on_f, ↓a_on_und, ↓a_cond_b, ↓reduceIte, Go.Ab.part, List.getD_cons_zero, List.getD_cons_succ, List.set_cons_zero, List.set_cons_succ, List.length_cons, List.length_nil, List.cons_append, List.nil_append, cond_true, cond_false, Bool.cond_true, reduceCtorEq, Option.map_some, Option.map_none, forall_const, ne_eq, implies_true, Nat.reduceAdd, Nat.reduceLeDiff, Nat.reduceLT, Nat.beq, Option.isNone_none, beq_self_eq_true, bne_self_eq_false, Int.reduceBEq, Int.reduceBNe, Int.reduceLT, Int.reduceLE, Int.reduceGT, Int.reduceGE, Int.reduceEq, Int.reduceNe, Int.reduceToNat, List.take_zero, List.drop_zero, List.all_cons, List.all_nil, List.append_nil, List.length_append, List.length_set, List.append_assoc, List.drop_nil, List.take_nil] <;> try simp -dsimp only [if_conj])
    refine read_t2 hl i3 s3 hK _ ?_
    rfl
  · have he' : ((d.skip 1).e == 0) = false := by simp [he]
    rw [he', Bool.false_and] at heq
    (simp +contextual -dsimp only [R22, evA, evB, ↓a_on_t, ↓a_on_f, ↓a_on_und, ↓a_cond_b, ↓reduceIte, Go.Ab.part, List.getD_cons_zero, List.getD_cons_succ, List.set_cons_zero, List.set_cons_succ, List.length_cons, List.length_nil, List.cons_append, List.nil_append, cond_true, cond_false, Bool.cond_true, reduceCtorEq, Option.map_some, Option.map_none, forall_const, ne_eq, implies_true, Nat.reduceAdd, Nat.reduceLeDiff, Nat.reduceLT, Nat.beq, Option.isNone_none, beq_self_eq_true, bne_self_eq_false, Int.reduceBEq, Int.reduceBNe, Int.reduceLT, Int.reduceLE, Int.reduceGT, Int.reduceGE, Int.reduceEq, Int.reduceNe, Int.reduceToNat, List.take_zero, List.drop_zero, List.all_cons, List.all_nil, List.append_nil, List.length_append, List.length_set, List.append_assoc, List.drop_nil, List.take_nil, he', s2.v, s2.b1, s2.b2] <;> try simp -dsimp only [if_conj])
    refine wrong_ok s2.b1 s2.c ?_
    rw [heq]
    (simp +contextual -dsimp only [evA, evB, ↓a_on_t, ↓a_on_f, ↓a_on_und, ↓a_cond_b, ↓reduceIte, Go.Ab.part, List.getD_cons_zero, List.getD_cons_succ, List.set_cons_zero, List.set_cons_succ, List.length_cons, List.length_nil, List.cons_append, List.nil_append, cond_true, cond_false, Bool.cond_true, reduceCtorEq, Option.map_some, Option.map_none, forall_const, ne_eq, implies_true, Nat.reduceAdd, Nat.reduceLeDiff, Nat.reduceLT, Nat.beq, Option.isNone_none, beq_self_eq_true, bne_self_eq_false, Int.reduceBEq, Int.reduceBNe, Int.reduceLT, Int.reduceLE, Int.reduceGT, Int.reduceGE, Int.reduceEq, Int.reduceNe, Int.reduceToNat, List.take_zero, List.drop_zero, List.all_cons, List.all_nil, List.append_nil, List.length_append, List.length_set, List.append_assoc, List.drop_nil, List.take_nil] <;> try simp -dsimp only [if_conj])
    refine read_t2 hl i3 s3 hK _ ?_
    rfl
theorem read_ok {w : Bool} (hid : h.getD id .dead = cur c) (hi : c.inv) (hK : ∀ h', Grown h id h' id (cur (hdRead w c).c) → K.K (hdOut (hdRead w c) w) h') : ACall X 22 [.p id 0, Bo w] h K := by
  have hl := hlt hid (cur_ne c)
  apply i22
  have s0 : RS h id w c [I 0, Bo false, U 0, U 0, U 0, U 0, U 0, U 0] (h ++ [.o 1 [.p id 0], .o 1 [Bo w], .o 1 [I 0, Bo false, U 0, U 0, U 0, U 0, U 0, U 0], .o 1 [I 0, Bo false, U 0, U 0, U 0, U 0, U 0, U 0]]) :=
    ⟨by simp, fun j h1 h2 => Adds.mk.at h1, hget_app hid (cur_ne _), hgets h 0 rfl, hgets h 1 rfl, hgets h 2 rfl, hgets h 3 rfl⟩
  have s1 := s0.st hl [I 0, Bo w, U 0, U 0, U 0, U 0, U 0, U 0]
  (simp +contextual -dsimp only [R22, evA, evB, ↓a_on_t, ↓a_on_f, ↓a_on_und, ↓a_cond_b, ↓reduceIte, Go.Ab.part, List.getD_cons_zero, List.getD_cons_succ, List.set_cons_zero, List.set_cons_succ, List.length_cons, List.length_nil, List.cons_append, List.nil_append, cond_true, cond_false, Bool.cond_true, reduceCtorEq, Option.map_some, Option.map_none, forall_const, ne_eq, implies_true, Nat.reduceAdd, Nat.reduceLeDiff, Nat.reduceLT, Nat.beq, Option.isNone_none, beq_self_eq_true, bne_self_eq_false, Int.reduceBEq, Int.reduceBNe, Int.reduceLT, Int.reduceLE, Int.reduceGT, Int.reduceGE, Int.reduceEq, Int.reduceNe, Int.reduceToNat, List.take_zero, List.drop_zero, List.all_cons, List.all_nil, List.append_nil, List.length_append, List.length_set, List.append_assoc, List.drop_nil, List.take_nil, hget_new, hget_new1, fill, setAt, s0.v, s0.b1, s0.b2, s1.b1, s1.b2] <;> try simp -dsimp only [if_conj])
  generalize (h ++ [AO.o 1 [.p id 0], AO.o 1 [Bo w], AO.o 1 [I 0, Bo false, U 0, U 0, U 0, U 0, U 0, U 0], AO.o 1 [I 0, Bo false, U 0, U 0, U 0, U 0, U 0, U 0]]).set (h.length + 3) (AO.o 1 [I 0, Bo w, U 0, U 0, U 0, U 0, U 0, U 0]) = g1 at *
  refine U16_ok s1.c hi ?_
  have s2 := s1.cur' hl (c.skip 2)
  have i2 := hi.skip 2
  unfold hdRead at hK
  generalize g1.set id (cur (c.skip 2)) = g2 at *
  have s3 := s2.cur' hl (failIf (c.skip 2) (le (c.got 2) != 5))
  have i3 := failIf_inv i2 (le (c.got 2) != 5)
  cases hb : (le (c.got 2) != 5) with
  | false =>
    rw [hb] at s3 hK i3
    have hb' : (((le (c.got 2) : Nat) : Int) != 5) = false := by simp at hb ⊢; omega
    (simp +contextual -dsimp only [R22, evA, evB, ↓a_on_t, ↓a_on_f, ↓a_on_und, ↓a_cond_b, ↓reduceIte, Go.Ab.part, List.getD_cons_zero, List.getD_cons_succ, List.set_cons_zero, List.set_cons_succ, List.length_cons, List.length_nil, List.cons_append, List.nil_append, cond_true, cond_false, Bool.cond_true, reduceCtorEq, Option.map_some, Option.map_none, forall_const, ne_eq, implies_true, Nat.reduceAdd, Nat.reduceLeDiff, Nat.reduceLT, Nat.beq, Option.isNone_none, beq_self_eq_true, bne_self_eq_false, Int.reduceBEq, Int.reduceBNe, Int.reduceLT, Int.reduceLE, Int.reduceGT, Int.reduceGE, Int.reduceEq, Int.reduceNe, Int.reduceToNat, List.take_zero, List.drop_zero, List.all_cons, List.all_nil, List.append_nil, List.length_append, List.length_set, List.append_assoc, List.drop_nil, List.take_nil, hb'] <;> try simp -dsimp only [if_conj])
    refine wrong_ok s2.b1 s2.c ?_
    (simp +contextual -dsimp only [evA, evB, ↓a_on_t, ↓a_on_f, ↓a_on_und, ↓a_cond_b, ↓reduceIte, Go.Ab.part, List.getD_cons_zero, List.getD_cons_succ, List.set_cons_zero, List.set_cons_succ, List.length_cons, List.length_nil, List.cons_append, List.nil_append, cond_true, cond_false, Bool.cond_true, reduceCtorEq, Option.map_some, Option.map_none, forall_const, ne_eq, implies_true, Nat.reduceAdd, Nat.reduceLeDiff, Nat.reduceLT, Nat.beq, Option.isNone_none, beq_self_eq_true, bne_self_eq_false, Int.reduceBEq, Int.reduceBNe, Int.reduceLT, Int.reduceLE, Int.reduceGT, Int.reduceGE, Int.reduceEq, Int.reduceNe, Int.reduceToNat, List.take_zero, List.drop_zero, List.all_cons, List.all_nil, List.append_nil, List.length_append, List.length_set, List.append_assoc, List.drop_nil, List.take_nil] <;> try simp -dsimp only [if_conj])
    refine read_t1 hl i3 s3 hK _ ?_
    rfl
  | true =>
    rw [hb] at s3 hK i3
    have hb' : (((le (c.got 2) : Nat) : Int) != 5) = true := by simp at hb ⊢; omega
    (simp +contextual -dsimp only [R22, evA, evB, ↓a_on_t, ↓a_on_f, ↓a_on_und, ↓a_cond_b, ↓reduceIte, Go.Ab.part, List.getD_cons_zero, List.getD_cons_succ, List.set_cons_zero, List.set_cons_succ, List.length_cons, List.length_nil, List.cons_append, List.nil_append, cond_true, cond_false, Bool.cond_true, reduceCtorEq, Option.map_some, Option.map_none, forall_const, ne_eq, implies_true, Nat.reduceAdd, Nat.reduceLeDiff, Nat.reduceLT, Nat.beq, Option.isNone_none, beq_self_eq_true, bne_self_eq_false, Int.reduceBEq, Int.reduceBNe, Int.reduceLT, Int.reduceLE, Int.reduceGT, Int.reduceGE, Int.reduceEq, Int.reduceNe, Int.reduceToNat, List.take_zero, List.drop_zero, List.all_cons, List.all_nil, List.append_nil, List.length_append, List.length_set, List.append_assoc, List.drop_nil, List.take_nil, hb', s2.b1] <;> try simp -dsimp only [if_conj])
    refine Err_ok s2.c ?_
    (simp +contextual -dsimp only [R22, evA, evB, ↓a_on_t, ↓a_on_f, ↓a_on_und, ↓a_cond_b, ↓reduceIte, Go.Ab.part, List.getD_cons_zero, List.getD_cons_succ, List.set_cons_zero, List.set_cons_succ, List.length_cons, List.length_nil, List.cons_append, List.nil_append, cond_true, cond_false, Bool.cond_true, reduceCtorEq, Option.map_some, Option.map_none, forall_const, ne_eq, implies_true, Nat.reduceAdd, Nat.reduceLeDiff, Nat.reduceLT, Nat.beq, Option.isNone_none, beq_self_eq_true, bne_self_eq_false, Int.reduceBEq, Int.reduceBNe, Int.reduceLT, Int.reduceLE, Int.reduceGT, Int.reduceGE, Int.reduceEq, Int.reduceNe, Int.reduceToNat, List.take_zero, List.drop_zero, List.all_cons, List.all_nil, List.append_nil, List.length_append, List.length_set, List.append_assoc, List.drop_nil, List.take_nil, hb', s2.b1] <;> try simp -dsimp only [if_conj])
    refine wrong_ok s2.b1 s2.c ?_
    rw [failIf_a (b := true) rfl]
    (simp +contextual -dsimp only [evA, evB, ↓a_on_t, ↓a_on_f, ↓a_on_und, ↓a_cond_b, ↓reduceIte, Go.Ab.part, List.getD_cons_zero, List.getD_cons_succ, List.set_cons_zero, List.set_cons_succ, List.length_cons, List.length_nil, List.cons_append, List.nil_append, cond_true, cond_false, Bool.cond_true, reduceCtorEq, Option.map_some, Option.map_none, forall_const, ne_eq, implies_true, Nat.reduceAdd, Nat.reduceLeDiff, Nat.reduceLT, Nat.beq, Option.isNone_none, beq_self_eq_true, bne_self_eq_false, Int.reduceBEq, Int.reduceBNe, Int.reduceLT, Int.reduceLE, Int.reduceGT, Int.reduceGE, Int.reduceEq, Int.reduceNe, Int.reduceToNat, List.take_zero, List.drop_zero, List.all_cons, List.all_nil, List.append_nil, List.length_append, List.length_set, List.append_assoc, List.drop_nil, List.take_nil] <;> try simp -dsimp only [if_conj])
    refine read_t1 hl i3 s3 hK _ ?_
    rfl
end Go.Proofs.YtmjjfchahkdceaaDoor
