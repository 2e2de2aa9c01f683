import Derived.Test.YtgpddpdhkhfdjaaCD
set_option linter.unusedVariables false
set_option linter.unusedSimpArgs false
set_option maxRecDepth 100000
namespace Go.Proofs.Ytgpddpdhkhfdjaa
open Go.Ab
variable {c : Cur} {h : Heap} {id : Nat} {K : Kt}

theorem rRight_ok {s : List UInt8} (hl : s.length ≤ maxLen) (hK : K.K (Bo (decide ((txt s).length = s.length ∧ s.length ≤ 200))) h) : ACall X 21 [.v (.string (mkStr s))] h K := by
  have ml : maxLen = 9223372036854775807 := rfl
  have htl := txt_le s
  apply i21
  (simp +contextual -dsimp only [R21, evA, evB, ↓a_on_t, ↓a_on_f, ↓a_on_und, ↓a_cond_b, ↓reduceIte, Go.Ab.part, List.getD_cons_zero, List.getD_cons_succ, List.set_cons_zero, List.set_cons_succ, List.length_cons, List.length_nil, List.cons_append, List.nil_append, cond_true, cond_false, Bool.cond_true, reduceCtorEq, Option.map_some, Option.map_none, forall_const, ne_eq, implies_true, Nat.reduceAdd, Nat.reduceLeDiff, Nat.reduceLT, Nat.beq, Option.isNone_none, beq_self_eq_true, bne_self_eq_false, Int.reduceBEq, Int.reduceBNe, Int.reduceLT, Int.reduceLE, Int.reduceGT, Int.reduceGE, Int.reduceEq, Int.reduceNe, Int.reduceToNat, List.take_zero, List.drop_zero, List.all_cons, List.all_nil, List.append_nil, List.length_append, List.length_set, List.append_assoc, List.drop_nil, List.take_nil] <;> try simp -dsimp only [if_conj])
  refine aloop (fun m st => ∃ n, m + n = s.length ∧ n ≤ (txt s).length ∧ st = ((.v (.string (mkStr s)) :: sl st.1 1 :: sl st.1 2 :: I n :: sl st.1 4 :: sl st.1 5 :: sl st.1 6 :: sl st.1 7 :: sl st.1 8 :: sl st.1 9 :: sl st.1 10 :: sl st.1 11 :: sl st.1 12 :: sl st.1 13 :: sl st.1 14 :: sl st.1 15 :: sl st.1 16 :: []), h)) s.length _ (Nat.le_refl _) (Weak.refl _ (Nat.le_refl _)) ⟨0, by omega, by omega, rfl⟩ ?_
  rintro m st ⟨n, hm, hn, hst⟩
  rw [hst]
  by_cases hz : n < s.length
  · have hz' : decide ((n : Int) < s.length) = true := by simp; omega
    have hx : (mkStr s).data.toList.getD n 0 = s.getD n 0 := rfl
    have hn1 : IntKind.i64.wrap ((n : Int) + 1) = (n : Int) + 1 := wrap_i64 (by omega) (by omega)
    by_cases h0 : s.getD n 0 = 0
    · have h0' : (((s.getD n 0).toNat : Int) == 0) = true := by rw [h0]; rfl
      have hne : (txt s).length ≠ s.length := fun e => txt_go s n (by omega) h0
      rw [decide_eq_false (fun h => hne h.1)] at hK
      (simp +contextual -dsimp only [R21, evA, evB, ↓a_on_t, ↓a_on_f, ↓a_on_und, ↓a_cond_b, ↓reduceIte, Go.Ab.part, List.getD_cons_zero, List.getD_cons_succ, List.set_cons_zero, List.set_cons_succ, List.length_cons, List.length_nil, List.cons_append, List.nil_append, cond_true, cond_false, Bool.cond_true, reduceCtorEq, Option.map_some, Option.map_none, forall_const, ne_eq, implies_true, Nat.reduceAdd, Nat.reduceLeDiff, Nat.reduceLT, Nat.beq, Option.isNone_none, beq_self_eq_true, bne_self_eq_false, Int.reduceBEq, Int.reduceBNe, Int.reduceLT, Int.reduceLE, Int.reduceGT, Int.reduceGE, Int.reduceEq, Int.reduceNe, Int.reduceToNat, List.take_zero, List.drop_zero, List.all_cons, List.all_nil, List.append_nil, List.length_append, List.length_set, List.append_assoc, List.drop_nil, List.take_nil, mkStr_size, hz', hx, h0', hn1] <;> try simp -dsimp only [if_conj])
      exact ⟨⟨by omega, by omega⟩, hK⟩
    · have h0' : (((s.getD n 0).toNat : Int) == 0) = false := by
        have : (s.getD n 0).toNat ≠ 0 := fun e => h0 (by rw [← UInt8.toNat_inj]; simpa using e)
        exact beq_eq_false_iff_ne.mpr (by omega)
      have hn2 : n < (txt s).length := by
        rcases Nat.lt_or_ge n (txt s).length with h | h
        · exact h
        · have e1 : n = (txt s).length := by omega
          exact absurd (e1 ▸ txt_stop s (by omega)) h0
      (simp +contextual -dsimp only [R21, evA, evB, ↓a_on_t, ↓a_on_f, ↓a_on_und, ↓a_cond_b, ↓reduceIte, Go.Ab.part, List.getD_cons_zero, List.getD_cons_succ, List.set_cons_zero, List.set_cons_succ, List.length_cons, List.length_nil, List.cons_append, List.nil_append, cond_true, cond_false, Bool.cond_true, reduceCtorEq, Option.map_some, Option.map_none, forall_const, ne_eq, implies_true, Nat.reduceAdd, Nat.reduceLeDiff, Nat.reduceLT, Nat.beq, Option.isNone_none, beq_self_eq_true, bne_self_eq_false, Int.reduceBEq, Int.reduceBNe, Int.reduceLT, Int.reduceLE, Int.reduceGT, Int.reduceGE, Int.reduceEq, Int.reduceNe, Int.reduceToNat, List.take_zero, List.drop_zero, List.all_cons, List.all_nil, List.append_nil, List.length_append, List.length_set, List.append_assoc, List.drop_nil, List.take_nil, mkStr_size, hz', hx, h0', hn1] <;> try simp -dsimp only [if_conj])
      exact ⟨⟨by omega, by omega⟩, m - 1, _, by omega, Weak.refl _ (Nat.le_refl _), n + 1, by omega, by omega, rfl⟩
  · have hz' : decide ((n : Int) < s.length) = false := by simp; omega
    (simp +contextual -dsimp only [R21, evA, evB, ↓a_on_t, ↓a_on_f, ↓a_on_und, ↓a_cond_b, ↓reduceIte, Go.Ab.part, List.getD_cons_zero, List.getD_cons_succ, List.set_cons_zero, List.set_cons_succ, List.length_cons, List.length_nil, List.cons_append, List.nil_append, cond_true, cond_false, Bool.cond_true, reduceCtorEq, Option.map_some, Option.map_none, forall_const, ne_eq, implies_true, Nat.reduceAdd, Nat.reduceLeDiff, Nat.reduceLT, Nat.beq, Option.isNone_none, beq_self_eq_true, bne_self_eq_false, Int.reduceBEq, Int.reduceBNe, Int.reduceLT, Int.reduceLE, Int.reduceGT, Int.reduceGE, Int.reduceEq, Int.reduceNe, Int.reduceToNat, List.take_zero, List.drop_zero, List.all_cons, List.all_nil, List.append_nil, List.length_append, List.length_set, List.append_assoc, List.drop_nil, List.take_nil, mkStr_size, hz'] <;> try simp -dsimp only [if_conj])
    rw [show decide ((s.length : Int) ≤ 200) = decide ((txt s).length = s.length ∧ s.length ≤ 200) by congr 1; exact propext ⟨fun h => ⟨by omega, by omega⟩, fun h => by omega⟩]
    exact hK
theorem SPut_ok {l s : List UInt8} (hid : h.getD id .dead = .o 1 (byt l)) (hl : l.length + s.length + 10 ≤ bigRoom)
    (hK : ∀ h1 id1, Grown h id h1 id1 (.o 1 (byt (l ++ txt s ++ [0]))) → K.K (.s id1 0 (l ++ txt s ++ [0]).length) h1) : ACall X 20 [.s id 0 l.length, .v (.string (mkStr s))] h K := by
  have htl := txt_le s
  have hid0 := hlt hid (by simp)
  apply i20
  (simp +contextual -dsimp only [R20, evA, evB, ↓a_on_t, ↓a_on_f, ↓a_on_und, ↓a_cond_b, ↓reduceIte, Go.Ab.part, List.getD_cons_zero, List.getD_cons_succ, List.set_cons_zero, List.set_cons_succ, List.length_cons, List.length_nil, List.cons_append, List.nil_append, cond_true, cond_false, Bool.cond_true, reduceCtorEq, Option.map_some, Option.map_none, forall_const, ne_eq, implies_true, Nat.reduceAdd, Nat.reduceLeDiff, Nat.reduceLT, Nat.beq, Option.isNone_none, beq_self_eq_true, bne_self_eq_false, Int.reduceBEq, Int.reduceBNe, Int.reduceLT, Int.reduceLE, Int.reduceGT, Int.reduceGE, Int.reduceEq, Int.reduceNe, Int.reduceToNat, List.take_zero, List.drop_zero, List.all_cons, List.all_nil, List.append_nil, List.length_append, List.length_set, List.append_assoc, List.drop_nil, List.take_nil] <;> try simp -dsimp only [if_conj])
  refine index_ok ?_
  have et : ∀ x : AV, List.take 1 [x] = [x] := fun _ => rfl
  have hH : (h.set id .dead).length = h.length := by simp
  have q1 : ∀ (T : List UInt8) (r : Heap), (h.set id .dead ++ AO.o 1 (byt (l ++ T)) :: r).getD h.length .dead = .o 1 (byt (l ++ T)) := fun T r => by rw [← hH]; exact hget_new
  have q2 : ∀ (T : List UInt8) (o : AO), (h.set id .dead ++ [AO.o 1 (byt (l ++ T)), o]).getD (h.length + 1) .dead = o := fun T o => by rw [← hH]; exact hgets _ 1 rfl
  have q3 : ∀ (T : List UInt8) (r : Heap), (h.set id .dead ++ AO.o 1 (byt (l ++ T)) :: r).set h.length .dead = h.set id .dead ++ .dead :: r := fun T r => by rw [← hH]; exact hset_new
  have q4 : ∀ T : List UInt8, (byt (l ++ T)).take (l.length + T.length) = byt (l ++ T) := fun T => take_b (by simp)
  have q5 : ∀ T : List UInt8, byt (l ++ T) ++ [AV.v (.int .u8 0)] = byt (l ++ T ++ [0]) := fun T => by rw [← byt_append (l ++ T)]; rfl
  have fin : ∀ T : List UInt8, Grown h id (h.set id .dead ++ [.dead, AO.o 1 [AV.v (.int .u8 0)], .o 1 (byt (l ++ T ++ [0]))]) (h.length + 2) (.o 1 (byt (l ++ T ++ [0]))) := fun T =>
    ⟨by simp, fun j hj hne => by rw [Adds.mk.at (by simpa using hj), hget_set_ne (by omega)], by rw [← hH]; exact hgets _ 2 rfl, .inr (by omega)⟩
  by_cases e : (txt s).length = s.length
  · have e1 : decide ((if (txt s).length = s.length then -1 else ((txt s).length : Int)) ≥ 0) = false := by rw [if_pos e]; rfl
    have es : txt s = s := by have := txt_take s; rw [e, List.take_length] at this; exact this.symm
    rw [es] at hK
    (simp +contextual -dsimp only [R20, evA, evB, ↓a_on_t, ↓a_on_f, ↓a_on_und, ↓a_cond_b, ↓reduceIte, Go.Ab.part, List.getD_cons_zero, List.getD_cons_succ, List.set_cons_zero, List.set_cons_succ, List.length_cons, List.length_nil, List.cons_append, List.nil_append, cond_true, cond_false, Bool.cond_true, reduceCtorEq, Option.map_some, Option.map_none, forall_const, ne_eq, implies_true, Nat.reduceAdd, Nat.reduceLeDiff, Nat.reduceLT, Nat.beq, Option.isNone_none, beq_self_eq_true, bne_self_eq_false, Int.reduceBEq, Int.reduceBNe, Int.reduceLT, Int.reduceLE, Int.reduceGT, Int.reduceGE, Int.reduceEq, Int.reduceNe, Int.reduceToNat, List.take_zero, List.drop_zero, List.all_cons, List.all_nil, List.append_nil, List.length_append, List.length_set, List.append_assoc, List.drop_nil, List.take_nil, e1, hid, mkStr_size, ofStr_mkStr, byt_append, q1, q2, q3, q4, q5, et, Nat.add_assoc] <;> try simp -dsimp only [if_conj])
    have := hK _ _ (fin s)
    simp only [List.append_assoc, List.length_append, List.length_cons, List.length_nil, Nat.zero_add] at this
    exact ⟨⟨by omega, trivial⟩, ⟨by omega, by omega⟩, this⟩
  · have e1 : ∀ n : Nat, decide ((n : Int) ≥ 0) = true := fun n => by simp
    have e3 : (if (txt s).length = s.length then (-1 : Int) else ((txt s).length : Int)) = (txt s).length := if_neg e
    have e4 : (mkStr s).extract 0 (txt s).length = mkStr (txt s) := by rw [extract_take, txt_take]
    (simp +contextual -dsimp only [R20, evA, evB, ↓a_on_t, ↓a_on_f, ↓a_on_und, ↓a_cond_b, ↓reduceIte, Go.Ab.part, List.getD_cons_zero, List.getD_cons_succ, List.set_cons_zero, List.set_cons_succ, List.length_cons, List.length_nil, List.cons_append, List.nil_append, cond_true, cond_false, Bool.cond_true, reduceCtorEq, Option.map_some, Option.map_none, forall_const, ne_eq, implies_true, Nat.reduceAdd, Nat.reduceLeDiff, Nat.reduceLT, Nat.beq, Option.isNone_none, beq_self_eq_true, bne_self_eq_false, Int.reduceBEq, Int.reduceBNe, Int.reduceLT, Int.reduceLE, Int.reduceGT, Int.reduceGE, Int.reduceEq, Int.reduceNe, Int.reduceToNat, List.take_zero, List.drop_zero, List.all_cons, List.all_nil, List.append_nil, List.length_append, List.length_set, List.append_assoc, List.drop_nil, List.take_nil, e1, e3, e4, hid, mkStr_size, ofStr_mkStr, byt_append, q1, q2, q3, q4, q5, et, Nat.add_assoc] <;> try simp -dsimp only [if_conj])
    have := hK _ _ (fin (txt s))
    simp only [List.append_assoc, List.length_append, List.length_cons, List.length_nil, Nat.zero_add] at this
    exact ⟨⟨by omega, by omega⟩, ⟨by omega, trivial⟩, ⟨by omega, by omega⟩, this⟩
theorem rSPut_ok {s : List UInt8} (hl : s.length ≤ 5000)
    (hK : ∀ h1 id1, Grown (h ++ [.o 1 []]) h.length h1 id1 (.o 1 (byt (txt s ++ [0]))) → K.K (.s id1 0 (txt s ++ [0]).length) h1) : ACall X 22 [.v (.string (mkStr s))] h K := by
  have hbig : (5020 : Nat) ≤ bigRoom := by decide
  have htl := txt_le s
  apply i22
  (simp +contextual -dsimp only [R22, evA, evB, ↓a_on_t, ↓a_on_f, ↓a_on_und, ↓a_cond_b, ↓reduceIte, Go.Ab.part, List.getD_cons_zero, List.getD_cons_succ, List.set_cons_zero, List.set_cons_succ, List.length_cons, List.length_nil, List.cons_append, List.nil_append, cond_true, cond_false, Bool.cond_true, reduceCtorEq, Option.map_some, Option.map_none, forall_const, ne_eq, implies_true, Nat.reduceAdd, Nat.reduceLeDiff, Nat.reduceLT, Nat.beq, Option.isNone_none, beq_self_eq_true, bne_self_eq_false, Int.reduceBEq, Int.reduceBNe, Int.reduceLT, Int.reduceLE, Int.reduceGT, Int.reduceGE, Int.reduceEq, Int.reduceNe, Int.reduceToNat, List.take_zero, List.drop_zero, List.all_cons, List.all_nil, List.append_nil, List.length_append, List.length_set, List.append_assoc, List.drop_nil, List.take_nil] <;> try simp -dsimp only [if_conj])
  refine aloop (fun m st => ∃ n h1 id1, m + n = s.length ∧ n ≤ (txt s).length ∧ Grown (h ++ [.o 1 []]) h.length h1 id1 (.o 1 (byt (s.take n))) ∧ st = ((.v (.string (mkStr s)) :: sl st.1 1 :: sl st.1 2 :: .s id1 0 n :: I n :: sl st.1 5 :: sl st.1 6 :: sl st.1 7 :: sl st.1 8 :: sl st.1 9 :: sl st.1 10 :: sl st.1 11 :: sl st.1 12 :: sl st.1 13 :: sl st.1 14 :: sl st.1 15 :: sl st.1 16 :: sl st.1 17 :: sl st.1 18 :: sl st.1 19 :: sl st.1 20 :: sl st.1 21 :: sl st.1 22 :: sl st.1 23 :: sl st.1 24 :: sl st.1 25 :: []), h1)) s.length
    ((.v (.string (mkStr s)) :: .bad :: .bad :: .s h.length 0 0 :: I 0 :: .bad :: .bad :: .bad :: .bad :: .bad :: .bad :: .bad :: .bad :: .bad :: .bad :: .bad :: .bad :: .bad :: .bad :: .bad :: .bad :: .bad :: .bad :: .bad :: .bad :: .bad :: []), h ++ [.o 1 []]) (Nat.le_refl _) (weak_nils (Nat.le_refl _) (by simp [NilOk])) ⟨0, _, _, by omega, by omega, Grown.refl hget_new, rfl⟩ ?_
  rintro m st ⟨n, h1, id1, hm, hn, g, hst⟩
  rw [hst]
  have lg := hlt g.get (by simp)
  have gl := g.len
  have et : ∀ x : AV, List.take 1 [x] = [x] := fun _ => rfl
  have e2 : List.take n (byt (s.take n)) = byt (s.take n) := List.take_of_length_le (by simp [byt_length, List.length_take]; omega)
  have hne : ¬ h1.length = id1 := by omega
  have nl : n ≤ (s.take n).length := by rw [List.length_take]; omega
  have done : n = (txt s).length → K.K (.s (h1.length + 1) 0 (n + 1)) ((h1 ++ [AO.o 1 [AV.v (.int .u8 0)]]).set id1 .dead ++ [.o 1 (byt (s.take n) ++ [AV.v (.int .u8 0)])]) := fun e => by
    have e5 : byt (s.take n) ++ [AV.v (.int .u8 0)] = byt (txt s ++ [0]) := by rw [e, txt_take, ← byt_append]; rfl
    rw [e5]
    have := hK _ _ (g.step (x := AO.o 1 [AV.v (.int .u8 0)]) (p := .o 1 (byt (txt s ++ [0]))) (by simp))
    rw [List.length_append, ← e] at this
    exact this
  by_cases hz : n < s.length
  · have hz' : decide ((n : Int) < s.length) = true := by simp; omega
    have hx : (mkStr s).data.toList.getD n 0 = s.getD n 0 := rfl
    have hn1 : IntKind.i64.wrap ((n : Int) + 1) = (n : Int) + 1 := wrap_i64 (by omega) (by omega)
    by_cases h0 : s.getD n 0 = 0
    · have h0' : (((s.getD n 0).toNat : Int) != 0) = false := by rw [h0]; rfl
      have hn2 : n = (txt s).length := by
        rcases Nat.lt_or_ge n (txt s).length with h | h
        · exact absurd h0 (txt_go _ _ h)
        · omega
      (simp +contextual -dsimp only [R22, evA, evB, ↓a_on_t, ↓a_on_f, ↓a_on_und, ↓a_cond_b, ↓reduceIte, Go.Ab.part, List.getD_cons_zero, List.getD_cons_succ, List.set_cons_zero, List.set_cons_succ, List.length_cons, List.length_nil, List.cons_append, List.nil_append, cond_true, cond_false, Bool.cond_true, reduceCtorEq, Option.map_some, Option.map_none, forall_const, ne_eq, implies_true, Nat.reduceAdd, Nat.reduceLeDiff, Nat.reduceLT, Nat.beq, Option.isNone_none, beq_self_eq_true, bne_self_eq_false, Int.reduceBEq, Int.reduceBNe, Int.reduceLT, Int.reduceLE, Int.reduceGT, Int.reduceGE, Int.reduceEq, Int.reduceNe, Int.reduceToNat, List.take_zero, List.drop_zero, List.all_cons, List.all_nil, List.append_nil, List.length_append, List.length_set, List.append_assoc, List.drop_nil, List.take_nil, mkStr_size, hz', hx, h0', hn1, hget_app g.get (by simp), hget_new, et, e2] <;> try simp -dsimp only [if_conj])
      exact ⟨⟨by omega, by omega⟩, ⟨by omega, nl, hne⟩, done hn2⟩
    · have h0' : (((s.getD n 0).toNat : Int) != 0) = true := by
        have : (s.getD n 0).toNat ≠ 0 := fun e => h0 (by rw [← UInt8.toNat_inj]; simpa using e)
        exact bne_iff_ne.mpr (by omega)
      have hn2 : n < (txt s).length := by
        rcases Nat.lt_or_ge n (txt s).length with h | h
        · exact h
        · have e1 : n = (txt s).length := by omega
          exact absurd (e1 ▸ txt_stop s (by omega)) h0
      have e3 : byt (s.take n) ++ [.v (.int .u8 ((s.getD n 0).toNat : Int))] = byt (s.take (n + 1)) := by
        rw [List.take_add_one, ← byt_append, List.getD_eq_getElem?_getD, List.getElem?_eq_getElem hz]; rfl
      (simp +contextual -dsimp only [R22, evA, evB, ↓a_on_t, ↓a_on_f, ↓a_on_und, ↓a_cond_b, ↓reduceIte, Go.Ab.part, List.getD_cons_zero, List.getD_cons_succ, List.set_cons_zero, List.set_cons_succ, List.length_cons, List.length_nil, List.cons_append, List.nil_append, cond_true, cond_false, Bool.cond_true, reduceCtorEq, Option.map_some, Option.map_none, forall_const, ne_eq, implies_true, Nat.reduceAdd, Nat.reduceLeDiff, Nat.reduceLT, Nat.beq, Option.isNone_none, beq_self_eq_true, bne_self_eq_false, Int.reduceBEq, Int.reduceBNe, Int.reduceLT, Int.reduceLE, Int.reduceGT, Int.reduceGE, Int.reduceEq, Int.reduceNe, Int.reduceToNat, List.take_zero, List.drop_zero, List.all_cons, List.all_nil, List.append_nil, List.length_append, List.length_set, List.append_assoc, List.drop_nil, List.take_nil, mkStr_size, hz', hx, h0', hn1, hget_app g.get (by simp), hget_new, et, e2, e3] <;> try simp -dsimp only [if_conj])
      exact ⟨⟨by omega, by omega⟩, ⟨by omega, by omega⟩, ⟨by omega, nl, hne⟩, m - 1, _, by omega, Weak.refl _ (by simp; simp at gl; omega), n + 1, _, _, by omega, by omega, g.step (by simp), rfl⟩
  · have hz' : decide ((n : Int) < s.length) = false := by simp; omega
    (simp +contextual -dsimp only [R22, evA, evB, ↓a_on_t, ↓a_on_f, ↓a_on_und, ↓a_cond_b, ↓reduceIte, Go.Ab.part, List.getD_cons_zero, List.getD_cons_succ, List.set_cons_zero, List.set_cons_succ, List.length_cons, List.length_nil, List.cons_append, List.nil_append, cond_true, cond_false, Bool.cond_true, reduceCtorEq, Option.map_some, Option.map_none, forall_const, ne_eq, implies_true, Nat.reduceAdd, Nat.reduceLeDiff, Nat.reduceLT, Nat.beq, Option.isNone_none, beq_self_eq_true, bne_self_eq_false, Int.reduceBEq, Int.reduceBNe, Int.reduceLT, Int.reduceLE, Int.reduceGT, Int.reduceGE, Int.reduceEq, Int.reduceNe, Int.reduceToNat, List.take_zero, List.drop_zero, List.all_cons, List.all_nil, List.append_nil, List.length_append, List.length_set, List.append_assoc, List.drop_nil, List.take_nil, mkStr_size, hz', hget_app g.get (by simp), hget_new, et, e2] <;> try simp -dsimp only [if_conj])
    exact ⟨⟨by omega, nl, hne⟩, done (by omega)⟩
end Go.Proofs.Ytgpddpdhkhfdjaa
