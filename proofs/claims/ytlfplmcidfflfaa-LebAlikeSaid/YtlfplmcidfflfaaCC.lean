import Derived.Test.YtlfplmcidfflfaaCA
import Derived.Test.YtlfplmcidfflfaaCR
import Derived.Test.YtlfplmcidfflfaaGB
set_option linter.unusedVariables false
set_option linter.unusedSimpArgs false
set_option maxRecDepth 100000
namespace Go.Proofs.Ytlfplmcidfflfaa
open Go.Ab
variable {h : Heap} {K : Kt}

abbrev B8 (n : Int) : AV := .v (.int .u8 n)
/-- what an iterator over parts does, whatever the rounds do -/
def Seq7 (gf nid : Nat) (xs : List Nat) (c0 : AO) : Prop :=
  ∀ (l : Nat) (J : Nat → Heap → Prop) (H0 : Heap) (K : Kt), J 0 H0 → H0.getD nid .dead = c0 →
    (∀ k H, J k H → H0.length ≤ H.length) →
    (∀ k H, J k H → k < xs.length → AYield X l [B8 (xs.getD k 0)] H (.c (fun r H' => r = Bo true ∧ J (k + 1) H' ∧ H'.getD nid .dead = H.getD nid .dead) ())) →
    (∀ k H o, J k H → J k (H.set nid o)) → (∀ H, J xs.length H → K.K (.t []) H) → ACall X gf [.f (.yield l) [] [], .p nid 0] H0 K

/-- 7-bit parts, the lowest first -/
def up : Nat → Nat → List Nat
  | 0, n => [n % 128]
  | k + 1, n => if n < 128 then [n] else n % 128 :: up k (n / 128)
theorem and127 (m : Nat) (hm : m < 18446744073709551616) : abits .and .u64 (m : Int) 127 = ((m % 128 : Nat) : Int) := by
  have e : ((BitVec.ofInt 64 (m : Int)) &&& (BitVec.ofInt 64 127)).toNat = m % 128 := by
    rw [BitVec.toNat_and, BitVec.ofInt_natCast, BitVec.toNat_ofNat, show (BitVec.ofInt 64 127).toNat = 2 ^ 7 - 1 from rfl, Nat.and_two_pow_sub_one_eq_mod]
    omega
  show IntKind.u64.wrap (((BitVec.ofInt 64 (m : Int)) &&& (BitVec.ofInt 64 127)).toNat : Int) = _
  rw [e, wrap_u64 (by omega) (by omega)]
theorem up_case (f m : Nat) (hm : m < 128 ^ (f + 1)) : (up f m = [m % 128] ∧ m / 128 = 0) ∨ ∃ f', f = f' + 1 ∧ up f m = m % 128 :: up f' (m / 128) ∧ m / 128 ≠ 0 ∧ m / 128 < 128 ^ (f' + 1) := by
  cases f with
  | zero => exact .inl ⟨rfl, by simp at hm; omega⟩
  | succ f =>
    have hu : up (f + 1) m = if m < 128 then [m] else m % 128 :: up f (m / 128) := rfl
    rw [hu]
    by_cases h : m < 128
    · rw [if_pos h]; exact .inl ⟨by rw [Nat.mod_eq_of_lt h], by omega⟩
    · rw [if_neg h]; exact .inr ⟨f, rfl, rfl, by omega, by rw [Nat.pow_succ] at hm; omega⟩
theorem drop_cons {α : Type} {l r : List α} {k : Nat} {a d : α} (h : l.drop k = a :: r) : k < l.length ∧ l.getD k d = a ∧ l.drop (k + 1) = r := by
  have hk : k < l.length := by
    rcases Nat.lt_or_ge k l.length with h1 | h1
    · exact h1
    · rw [List.drop_eq_nil_of_le h1] at h; cases h
  rw [List.drop_eq_getElem_cons hk] at h
  cases h
  exact ⟨hk, by rw [List.getD_eq_getElem?_getD, List.getElem?_eq_getElem hk]; rfl, rfl⟩
theorem shr7 (m : Nat) : ((m : Nat) : Int).fdiv (2 ^ min 7 IntKind.u64.bits) = ((m / 128 : Nat) : Int) := by
  rw [show (2 : Int) ^ min 7 IntKind.u64.bits = 128 from rfl, Int.fdiv_eq_ediv_of_nonneg _ (by omega)]; rfl
theorem useq_ok {nid n : Nat} (hn : n < 18446744073709551616) : Seq7 35 nid (up 9 n) (.o 1 [U n]) := by
  intro l J H0 K hJ h0 hl hy hs hK
  apply i35
  (simp +contextual -dsimp only [R35, evA, evB, ↓a_on_t, ↓a_on_f, ↓a_on_und, ↓a_cond_b, ↓reduceIte, Go.Ab.part, List.getD_cons_zero, List.getD_cons_succ, List.set_cons_zero, List.set_cons_succ, List.length_cons, List.length_nil, List.cons_append, List.nil_append, cond_true, cond_false, Bool.cond_true, reduceCtorEq, Option.map_some, Option.map_none, forall_const, ne_eq, implies_true, Nat.reduceAdd, Nat.reduceLeDiff, Nat.reduceLT, Nat.beq, Option.isNone_none, beq_self_eq_true, bne_self_eq_false, Int.reduceBEq, Int.reduceBNe, Int.reduceLT, Int.reduceLE, Int.reduceGT, Int.reduceGE, Int.reduceEq, Int.reduceNe, Int.reduceToNat, List.take_zero, List.drop_zero, List.all_cons, List.all_nil, List.append_nil, List.length_append, List.length_set, List.append_assoc, List.drop_nil, List.take_nil] <;> try simp -dsimp only [if_conj])
  refine aloop (fun f st => ∃ k m H, J k H ∧ H.getD nid .dead = .o 1 [U (m : Nat)] ∧ (up 9 n).drop k = up f m ∧ m < 128 ^ (f + 1) ∧ m < 18446744073709551616 ∧ st = ((.f (.yield l) [] [] :: .p nid 0 :: sl st.1 2 :: sl st.1 3 :: sl st.1 4 :: sl st.1 5 :: sl st.1 6 :: sl st.1 7 :: sl st.1 8 :: sl st.1 9 :: sl st.1 10 :: sl st.1 11 :: sl st.1 12 :: []), H)) 9 _ (Nat.le_refl _) (Weak.refl _ (Nat.le_refl _))
    ⟨0, n, H0, hJ, h0, rfl, by omega, hn, rfl⟩ ?_
  rintro f st ⟨k, m, H, j1, j2, j3, j4, j5, hst⟩
  rw [hst]
  have e1 := and127 m j5
  have e2 : IntKind.u8.wrap ((m % 128 : Nat) : Int) = ((m % 128 : Nat) : Int) := by rw [wrap_u8_eq]; omega
  (simp +contextual -dsimp only [R35, evA, evB, ↓a_on_t, ↓a_on_f, ↓a_on_und, ↓a_cond_b, ↓reduceIte, Go.Ab.part, List.getD_cons_zero, List.getD_cons_succ, List.set_cons_zero, List.set_cons_succ, List.length_cons, List.length_nil, List.cons_append, List.nil_append, cond_true, cond_false, Bool.cond_true, reduceCtorEq, Option.map_some, Option.map_none, forall_const, ne_eq, implies_true, Nat.reduceAdd, Nat.reduceLeDiff, Nat.reduceLT, Nat.beq, Option.isNone_none, beq_self_eq_true, bne_self_eq_false, Int.reduceBEq, Int.reduceBNe, Int.reduceLT, Int.reduceLE, Int.reduceGT, Int.reduceGE, Int.reduceEq, Int.reduceNe, Int.reduceToNat, List.take_zero, List.drop_zero, List.all_cons, List.all_nil, List.append_nil, List.length_append, List.length_set, List.append_assoc, List.drop_nil, List.take_nil, j2, e1, e2] <;> try simp -dsimp only [if_conj])
  have hcell : ∀ H' : Heap, H'.getD nid .dead = H.getD nid .dead → H'.getD nid .dead = .o 1 [U (m : Nat)] := fun H' e => e.trans j2
  have hx : ∃ r, (up 9 n).drop k = m % 128 :: r ∧ ((r = [] ∧ m / 128 = 0) ∨ ∃ f', f = f' + 1 ∧ r = up f' (m / 128) ∧ m / 128 ≠ 0 ∧ m / 128 < 128 ^ (f' + 1)) := by
    rcases up_case f m j4 with ⟨a, b⟩ | ⟨f', a, b, c, d⟩
    · exact ⟨[], by rw [j3, a], .inl ⟨rfl, b⟩⟩
    · exact ⟨_, by rw [j3, b], .inr ⟨f', a, rfl, c, d⟩⟩
  obtain ⟨r, hr, hcase⟩ := hx
  obtain ⟨hk, hg, hd⟩ := drop_cons (d := 0) hr
  have Y := hy k H j1 hk
  rw [hg] at Y
  refine ayield_mono Y ?_
  rintro r' H' ⟨rfl, j1', hc⟩
  have j2' := hcell H' hc
  have e3 := shr7 m
  have hset : (H'.set nid (.o 1 [U ((m / 128 : Nat) : Int)])).getD nid .dead = .o 1 [U ((m / 128 : Nat) : Int)] := hget_set (hlt j2' (by simp))
  (simp +contextual -dsimp only [R35, evA, evB, ↓a_on_t, ↓a_on_f, ↓a_on_und, ↓a_cond_b, ↓reduceIte, Go.Ab.part, List.getD_cons_zero, List.getD_cons_succ, List.set_cons_zero, List.set_cons_succ, List.length_cons, List.length_nil, List.cons_append, List.nil_append, cond_true, cond_false, Bool.cond_true, reduceCtorEq, Option.map_some, Option.map_none, forall_const, ne_eq, implies_true, Nat.reduceAdd, Nat.reduceLeDiff, Nat.reduceLT, Nat.beq, Option.isNone_none, beq_self_eq_true, bne_self_eq_false, Int.reduceBEq, Int.reduceBNe, Int.reduceLT, Int.reduceLE, Int.reduceGT, Int.reduceGE, Int.reduceEq, Int.reduceNe, Int.reduceToNat, List.take_zero, List.drop_zero, List.all_cons, List.all_nil, List.append_nil, List.length_append, List.length_set, List.append_assoc, List.drop_nil, List.take_nil, j2', e3, hset] <;> try simp -dsimp only [if_conj])
  have j1s := hs (k + 1) H' (.o 1 [U ((m / 128 : Nat) : Int)]) j1'
  refine ⟨fun hz => ?_, fun hz => ?_⟩
  · have hz : m / 128 = 0 := by simp at hz; omega
    have hl1 : (up 9 n).length = k + 1 := by
      rcases hcase with ⟨rfl, _⟩ | ⟨_, _, _, h, _⟩
      · have := List.drop_eq_nil_iff.1 hd; omega
      · exact absurd hz h
    exact hK _ (by rw [hl1]; exact j1s)
  · have hz : m / 128 ≠ 0 := by intro e; apply hz; rw [e]; rfl
    rcases hcase with ⟨_, h⟩ | ⟨f', e1, e2, _, e4⟩
    · exact absurd h hz
    · exact ⟨f', _, by omega, Weak.refl _ (by rw [List.length_set]; exact hl _ _ j1'), k + 1, m / 128, _, j1s, hset, by rw [hd, e2], e4, by omega, rfl⟩

/-! Signed. -/
def sp : Nat → Int → List Nat
  | 0, n => [(n % 128).toNat]
  | k + 1, n => if (n / 128 = 0 ∧ n % 128 < 64) ∨ (n / 128 = -1 ∧ n % 128 ≥ 64) then [(n % 128).toNat] else (n % 128).toNat :: sp k (n / 128)
theorem sp_case (f : Nat) (m : Int) (hm : -(64 * 128 ^ f : Int) ≤ m ∧ m < 64 * 128 ^ f) : (sp f m = [(m % 128).toNat] ∧ ((m / 128 = 0 ∧ m % 128 < 64) ∨ (m / 128 = -1 ∧ m % 128 ≥ 64))) ∨
    ∃ f', f = f' + 1 ∧ sp f m = (m % 128).toNat :: sp f' (m / 128) ∧ ¬ ((m / 128 = 0 ∧ m % 128 < 64) ∨ (m / 128 = -1 ∧ m % 128 ≥ 64)) ∧ (-(64 * 128 ^ f' : Int) ≤ m / 128 ∧ m / 128 < 64 * 128 ^ f') := by
  cases f with
  | zero => exact .inl ⟨rfl, by simp at hm; omega⟩
  | succ f =>
    have hu : sp (f + 1) m = if (m / 128 = 0 ∧ m % 128 < 64) ∨ (m / 128 = -1 ∧ m % 128 ≥ 64) then [(m % 128).toNat] else (m % 128).toNat :: sp f (m / 128) := rfl
    rw [hu]
    by_cases h : (m / 128 = 0 ∧ m % 128 < 64) ∨ (m / 128 = -1 ∧ m % 128 ≥ 64)
    · rw [if_pos h]; exact .inl ⟨rfl, h⟩
    · rw [if_neg h]
      refine .inr ⟨f, rfl, rfl, h, ?_⟩
      rw [Int.pow_succ] at hm
      omega
theorem and127s (m : Int) (h1 : -9223372036854775808 ≤ m) (h2 : m < 9223372036854775808) : abits .and .i64 m 127 = m % 128 := by
  have e : ((BitVec.ofInt 64 m) &&& (BitVec.ofInt 64 127)).toNat = (m % 128).toNat := by
    rw [BitVec.toNat_and, BitVec.toNat_ofInt, show (BitVec.ofInt 64 127).toNat = 2 ^ 7 - 1 from rfl, Nat.and_two_pow_sub_one_eq_mod]
    omega
  show IntKind.i64.wrap (((BitVec.ofInt 64 m) &&& (BitVec.ofInt 64 127)).toNat : Int) = _
  rw [e, wrap_i64 (by omega) (by omega)]
  omega
theorem shr7s (m : Int) : m.fdiv (2 ^ min 7 IntKind.i64.bits) = m / 128 := by
  rw [show (2 : Int) ^ min 7 IntKind.i64.bits = 128 from rfl, Int.fdiv_eq_ediv_of_nonneg _ (by omega)]
theorem sseq_ok {nid : Nat} {n : Int} (h1 : -9223372036854775808 ≤ n) (h2 : n < 9223372036854775808) : Seq7 34 nid (sp 9 n) (.o 1 [I n]) := by
  intro l J H0 K hJ h0 hl hy hs hK
  apply i34
  (simp +contextual -dsimp only [R34, evA, evB, ↓a_on_t, ↓a_on_f, ↓a_on_und, ↓a_cond_b, ↓reduceIte, Go.Ab.part, List.getD_cons_zero, List.getD_cons_succ, List.set_cons_zero, List.set_cons_succ, List.length_cons, List.length_nil, List.cons_append, List.nil_append, cond_true, cond_false, Bool.cond_true, reduceCtorEq, Option.map_some, Option.map_none, forall_const, ne_eq, implies_true, Nat.reduceAdd, Nat.reduceLeDiff, Nat.reduceLT, Nat.beq, Option.isNone_none, beq_self_eq_true, bne_self_eq_false, Int.reduceBEq, Int.reduceBNe, Int.reduceLT, Int.reduceLE, Int.reduceGT, Int.reduceGE, Int.reduceEq, Int.reduceNe, Int.reduceToNat, List.take_zero, List.drop_zero, List.all_cons, List.all_nil, List.append_nil, List.length_append, List.length_set, List.append_assoc, List.drop_nil, List.take_nil] <;> try simp -dsimp only [if_conj])
  refine aloop (fun f st => ∃ k m H, J k H ∧ H.getD nid .dead = .o 1 [I m] ∧ (sp 9 n).drop k = sp f m ∧ (-(64 * 128 ^ f : Int) ≤ m ∧ m < 64 * 128 ^ f) ∧ -9223372036854775808 ≤ m ∧ m < 9223372036854775808 ∧ st = ((.f (.yield l) [] [] :: .p nid 0 :: sl st.1 2 :: sl st.1 3 :: sl st.1 4 :: sl st.1 5 :: sl st.1 6 :: sl st.1 7 :: sl st.1 8 :: sl st.1 9 :: sl st.1 10 :: sl st.1 11 :: sl st.1 12 :: sl st.1 13 :: sl st.1 14 :: sl st.1 15 :: sl st.1 16 :: sl st.1 17 :: sl st.1 18 :: sl st.1 19 :: sl st.1 20 :: sl st.1 21 :: sl st.1 22 :: sl st.1 23 :: sl st.1 24 :: sl st.1 25 :: sl st.1 26 :: sl st.1 27 :: sl st.1 28 :: []), H)) 9 _ (Nat.le_refl _) (Weak.refl _ (Nat.le_refl _))
    ⟨0, n, H0, hJ, h0, rfl, by omega, h1, h2, rfl⟩ ?_
  rintro f st ⟨k, m, H, j1, j2, j3, j4, j5, j6, hst⟩
  rw [hst]
  have e1 := and127s m j5 j6
  have e2 : IntKind.u8.wrap (m % 128) = (((m % 128).toNat : Nat) : Int) := by rw [wrap_u8_eq]; omega
  have e3 := shr7s m
  have hset : (H.set nid (.o 1 [I (m / 128)])).getD nid .dead = .o 1 [I (m / 128)] := hget_set (hlt j2 (by simp))
  have hx : ∃ r, (sp 9 n).drop k = (m % 128).toNat :: r ∧ ((r = [] ∧ ((m / 128 = 0 ∧ m % 128 < 64) ∨ (m / 128 = -1 ∧ m % 128 ≥ 64))) ∨ ∃ f', f = f' + 1 ∧ r = sp f' (m / 128) ∧ ¬ ((m / 128 = 0 ∧ m % 128 < 64) ∨ (m / 128 = -1 ∧ m % 128 ≥ 64)) ∧ (-(64 * 128 ^ f' : Int) ≤ m / 128 ∧ m / 128 < 64 * 128 ^ f')) := by
    rcases sp_case f m j4 with ⟨a, b⟩ | ⟨f', a, b, c, d⟩
    · exact ⟨[], by rw [j3, a], .inl ⟨rfl, b⟩⟩
    · exact ⟨_, by rw [j3, b], .inr ⟨f', a, rfl, c, d⟩⟩
  obtain ⟨r, hr, hcase⟩ := hx
  obtain ⟨hk, hg, hd⟩ := drop_cons (d := 0) hr
  have j1s := hs k H (.o 1 [I (m / 128)]) j1
  have Y := hy k _ j1s hk
  rw [hg] at Y
  (simp +contextual -dsimp only [R34, evA, evB, ↓a_on_t, ↓a_on_f, ↓a_on_und, ↓a_cond_b, ↓reduceIte, Go.Ab.part, List.getD_cons_zero, List.getD_cons_succ, List.set_cons_zero, List.set_cons_succ, List.length_cons, List.length_nil, List.cons_append, List.nil_append, cond_true, cond_false, Bool.cond_true, reduceCtorEq, Option.map_some, Option.map_none, forall_const, ne_eq, implies_true, Nat.reduceAdd, Nat.reduceLeDiff, Nat.reduceLT, Nat.beq, Option.isNone_none, beq_self_eq_true, bne_self_eq_false, Int.reduceBEq, Int.reduceBNe, Int.reduceLT, Int.reduceLE, Int.reduceGT, Int.reduceGE, Int.reduceEq, Int.reduceNe, Int.reduceToNat, List.take_zero, List.drop_zero, List.all_cons, List.all_nil, List.append_nil, List.length_append, List.length_set, List.append_assoc, List.drop_nil, List.take_nil, j2, e1, e2, e3] <;> try simp -dsimp only [if_conj])
  refine ayield_mono Y ?_
  rintro r' H' ⟨rfl, j1', hc⟩
  clear e1 e2 e3
  have j2' := hc.trans hset
  have fin : (((m / 128 = 0 ∧ m % 128 < 64) ∨ (m / 128 = -1 ∧ m % 128 ≥ 64)) → K.K (.t []) H') := fun hz => by
    have hl1 : (sp 9 n).length = k + 1 := by
      rcases hcase with ⟨rfl, _⟩ | ⟨_, _, _, h, _⟩
      · have := List.drop_eq_nil_iff.1 hd; omega
      · exact absurd hz h
    exact hK _ (by rw [hl1]; exact j1')
  by_cases c1 : m / 128 = 0
  · have d1 : (m / 128 == 0) = true := by simp [c1]
    by_cases c2 : m % 128 < 64
    · have d2 : decide ((((m % 128).toNat : Nat) : Int) < 64) = true := by simp; omega
      (simp +contextual -dsimp only [R34, evA, evB, ↓a_on_t, ↓a_on_f, ↓a_on_und, ↓a_cond_b, ↓reduceIte, Go.Ab.part, List.getD_cons_zero, List.getD_cons_succ, List.set_cons_zero, List.set_cons_succ, List.length_cons, List.length_nil, List.cons_append, List.nil_append, cond_true, cond_false, Bool.cond_true, reduceCtorEq, Option.map_some, Option.map_none, forall_const, ne_eq, implies_true, Nat.reduceAdd, Nat.reduceLeDiff, Nat.reduceLT, Nat.beq, Option.isNone_none, beq_self_eq_true, bne_self_eq_false, Int.reduceBEq, Int.reduceBNe, Int.reduceLT, Int.reduceLE, Int.reduceGT, Int.reduceGE, Int.reduceEq, Int.reduceNe, Int.reduceToNat, List.take_zero, List.drop_zero, List.all_cons, List.all_nil, List.append_nil, List.length_append, List.length_set, List.append_assoc, List.drop_nil, List.take_nil, j2', d1, d2] <;> try simp -dsimp only [if_conj])
      exact fin (.inl ⟨c1, c2⟩)
    · have d2 : decide ((((m % 128).toNat : Nat) : Int) < 64) = false := by simp; omega
      have d3 : (m / 128 == -1) = false := by simp; omega
      (simp +contextual -dsimp only [R34, evA, evB, ↓a_on_t, ↓a_on_f, ↓a_on_und, ↓a_cond_b, ↓reduceIte, Go.Ab.part, List.getD_cons_zero, List.getD_cons_succ, List.set_cons_zero, List.set_cons_succ, List.length_cons, List.length_nil, List.cons_append, List.nil_append, cond_true, cond_false, Bool.cond_true, reduceCtorEq, Option.map_some, Option.map_none, forall_const, ne_eq, implies_true, Nat.reduceAdd, Nat.reduceLeDiff, Nat.reduceLT, Nat.beq, Option.isNone_none, beq_self_eq_true, bne_self_eq_false, Int.reduceBEq, Int.reduceBNe, Int.reduceLT, Int.reduceLE, Int.reduceGT, Int.reduceGE, Int.reduceEq, Int.reduceNe, Int.reduceToNat, List.take_zero, List.drop_zero, List.all_cons, List.all_nil, List.append_nil, List.length_append, List.length_set, List.append_assoc, List.drop_nil, List.take_nil, j2', d1, d2, d3] <;> try simp -dsimp only [if_conj])
      rcases hcase with ⟨_, h⟩ | ⟨f', e1, e2, _, e4⟩
      · omega
      · exact ⟨f', _, by omega, Weak.refl _ (hl _ _ j1'), k + 1, m / 128, _, j1', j2', by rw [hd, e2], e4, by omega, by omega, rfl⟩
  · have d1 : (m / 128 == 0) = false := by simp [c1]
    by_cases c3 : m / 128 = -1
    · have d3 : (m / 128 == -1) = true := by simp [c3]
      by_cases c2 : m % 128 ≥ 64
      · have d2 : decide ((((m % 128).toNat : Nat) : Int) ≥ 64) = true := by simp; omega
        (simp +contextual -dsimp only [R34, evA, evB, ↓a_on_t, ↓a_on_f, ↓a_on_und, ↓a_cond_b, ↓reduceIte, Go.Ab.part, List.getD_cons_zero, List.getD_cons_succ, List.set_cons_zero, List.set_cons_succ, List.length_cons, List.length_nil, List.cons_append, List.nil_append, cond_true, cond_false, Bool.cond_true, reduceCtorEq, Option.map_some, Option.map_none, forall_const, ne_eq, implies_true, Nat.reduceAdd, Nat.reduceLeDiff, Nat.reduceLT, Nat.beq, Option.isNone_none, beq_self_eq_true, bne_self_eq_false, Int.reduceBEq, Int.reduceBNe, Int.reduceLT, Int.reduceLE, Int.reduceGT, Int.reduceGE, Int.reduceEq, Int.reduceNe, Int.reduceToNat, List.take_zero, List.drop_zero, List.all_cons, List.all_nil, List.append_nil, List.length_append, List.length_set, List.append_assoc, List.drop_nil, List.take_nil, j2', d1, d2, d3] <;> try simp -dsimp only [if_conj])
        exact fin (.inr ⟨c3, c2⟩)
      · have d2 : decide ((((m % 128).toNat : Nat) : Int) ≥ 64) = false := by simp; omega
        (simp +contextual -dsimp only [R34, evA, evB, ↓a_on_t, ↓a_on_f, ↓a_on_und, ↓a_cond_b, ↓reduceIte, Go.Ab.part, List.getD_cons_zero, List.getD_cons_succ, List.set_cons_zero, List.set_cons_succ, List.length_cons, List.length_nil, List.cons_append, List.nil_append, cond_true, cond_false, Bool.cond_true, reduceCtorEq, Option.map_some, Option.map_none, forall_const, ne_eq, implies_true, Nat.reduceAdd, Nat.reduceLeDiff, Nat.reduceLT, Nat.beq, Option.isNone_none, beq_self_eq_true, bne_self_eq_false, Int.reduceBEq, Int.reduceBNe, Int.reduceLT, Int.reduceLE, Int.reduceGT, Int.reduceGE, Int.reduceEq, Int.reduceNe, Int.reduceToNat, List.take_zero, List.drop_zero, List.all_cons, List.all_nil, List.append_nil, List.length_append, List.length_set, List.append_assoc, List.drop_nil, List.take_nil, j2', d1, d2, d3] <;> try simp -dsimp only [if_conj])
        rcases hcase with ⟨_, h⟩ | ⟨f', e1, e2, _, e4⟩
        · omega
        · exact ⟨f', _, by omega, Weak.refl _ (hl _ _ j1'), k + 1, m / 128, _, j1', j2', by rw [hd, e2], e4, by omega, by omega, rfl⟩
    · have d3 : (m / 128 == -1) = false := by simp [c3]
      (simp +contextual -dsimp only [R34, evA, evB, ↓a_on_t, ↓a_on_f, ↓a_on_und, ↓a_cond_b, ↓reduceIte, Go.Ab.part, List.getD_cons_zero, List.getD_cons_succ, List.set_cons_zero, List.set_cons_succ, List.length_cons, List.length_nil, List.cons_append, List.nil_append, cond_true, cond_false, Bool.cond_true, reduceCtorEq, Option.map_some, Option.map_none, forall_const, ne_eq, implies_true, Nat.reduceAdd, Nat.reduceLeDiff, Nat.reduceLT, Nat.beq, Option.isNone_none, beq_self_eq_true, bne_self_eq_false, Int.reduceBEq, Int.reduceBNe, Int.reduceLT, Int.reduceLE, Int.reduceGT, Int.reduceGE, Int.reduceEq, Int.reduceNe, Int.reduceToNat, List.take_zero, List.drop_zero, List.all_cons, List.all_nil, List.append_nil, List.length_append, List.length_set, List.append_assoc, List.drop_nil, List.take_nil, j2', d1, d3] <;> try simp -dsimp only [if_conj])
      rcases hcase with ⟨_, h⟩ | ⟨f', e1, e2, _, e4⟩
      · omega
      · exact ⟨f', _, by omega, Weak.refl _ (hl _ _ j1'), k + 1, m / 128, _, j1', j2', by rw [hd, e2], e4, by omega, by omega, rfl⟩
end Go.Proofs.Ytlfplmcidfflfaa
