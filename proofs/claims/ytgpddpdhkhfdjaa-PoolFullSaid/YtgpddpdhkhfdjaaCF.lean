import Derived.Test.YtgpddpdhkhfdjaaCE
set_option linter.unusedVariables false
set_option linter.unusedSimpArgs false
set_option maxRecDepth 100000
namespace Go.Proofs.Ytgpddpdhkhfdjaa
open Go.Ab
variable {c : Cur} {h : Heap} {id : Nat} {K : Kt}

/-- all texts of a table, as both sides hand them back -/
def allR (t : List UInt8) : List (List UInt8) := if (allS t).2 = 0 then (allS t).1 else []
theorem All_ok {t : List UInt8} (ht : t.length ≤ 30000) (hK : ∀ h' r, Keeps h h' → IsS (allR t) r h' → K.K (.t [r, I (allS t).2]) h') : ACall X 23 [.z (byt t) t.length] h K := by
  have hbig : (600000 : Nat) ≤ bigRoom := by decide
  apply i23
  (simp +contextual -dsimp only [R23, evA, evB, ↓a_on_t, ↓a_on_f, ↓a_on_und, ↓a_cond_b, ↓reduceIte, Go.Ab.part, List.getD_cons_zero, List.getD_cons_succ, List.set_cons_zero, List.set_cons_succ, List.length_cons, List.length_nil, List.cons_append, List.nil_append, cond_true, cond_false, Bool.cond_true, reduceCtorEq, Option.map_some, Option.map_none, forall_const, ne_eq, implies_true, Nat.reduceAdd, Nat.reduceLeDiff, Nat.reduceLT, Nat.beq, Option.isNone_none, beq_self_eq_true, bne_self_eq_false, Int.reduceBEq, Int.reduceBNe, Int.reduceLT, Int.reduceLE, Int.reduceGT, Int.reduceGE, Int.reduceEq, Int.reduceNe, Int.reduceToNat, List.take_zero, List.drop_zero, List.all_cons, List.all_nil, List.append_nil, List.length_append, List.length_set, List.append_assoc, List.drop_nil, List.take_nil] <;> try simp -dsimp only [if_conj])
  refine aloop (fun m st => ∃ l acc h1 id1, m = l.length ∧ l.length + acc.length ≤ t.length ∧ Grown (h ++ [.o 1 []]) h.length h1 id1 (.o 1 (strs acc)) ∧ (allS t).1 = acc ++ (allS l).1 ∧ (allS t).2 = (allS l).2 ∧ st = ((.z (byt l) l.length :: sl st.1 1 :: sl st.1 2 :: sl st.1 3 :: .s id1 0 acc.length :: sl st.1 5 :: sl st.1 6 :: sl st.1 7 :: sl st.1 8 :: sl st.1 9 :: sl st.1 10 :: sl st.1 11 :: sl st.1 12 :: sl st.1 13 :: sl st.1 14 :: sl st.1 15 :: sl st.1 16 :: sl st.1 17 :: sl st.1 18 :: sl st.1 19 :: sl st.1 20 :: sl st.1 21 :: sl st.1 22 :: sl st.1 23 :: sl st.1 24 :: sl st.1 25 :: sl st.1 26 :: sl st.1 27 :: sl st.1 28 :: []), h1)) t.length
    ((.z (byt t) t.length :: .bad :: .bad :: .bad :: .s h.length 0 0 :: .bad :: .bad :: .bad :: .bad :: .bad :: .bad :: .bad :: .bad :: .bad :: .bad :: .bad :: .bad :: .bad :: .bad :: .bad :: .bad :: .bad :: .bad :: .bad :: .bad :: .bad :: .bad :: .bad :: .bad :: []), h ++ [.o 1 []]) (Nat.le_refl _) (weak_nils (Nat.le_refl _) (by simp [NilOk])) ⟨t, [], _, _, rfl, by simp, Grown.refl hget_new, rfl, rfl, rfl⟩ ?_
  rintro m st ⟨l, acc, h1, id1, hm, hla, g, a1, a2, hst⟩
  rw [hst]
  have htl := txt_le l
  have gl := g.len
  have lg := hlt g.get (by simp)
  by_cases hz : l = []
  · have hz' : decide ((l.length : Int) > 0) = false := by rw [hz]; rfl
    (simp +contextual -dsimp only [R23, evA, evB, ↓a_on_t, ↓a_on_f, ↓a_on_und, ↓a_cond_b, ↓reduceIte, Go.Ab.part, List.getD_cons_zero, List.getD_cons_succ, List.set_cons_zero, List.set_cons_succ, List.length_cons, List.length_nil, List.cons_append, List.nil_append, cond_true, cond_false, Bool.cond_true, reduceCtorEq, Option.map_some, Option.map_none, forall_const, ne_eq, implies_true, Nat.reduceAdd, Nat.reduceLeDiff, Nat.reduceLT, Nat.beq, Option.isNone_none, beq_self_eq_true, bne_self_eq_false, Int.reduceBEq, Int.reduceBNe, Int.reduceLT, Int.reduceLE, Int.reduceGT, Int.reduceGE, Int.reduceEq, Int.reduceNe, Int.reduceToNat, List.take_zero, List.drop_zero, List.all_cons, List.all_nil, List.append_nil, List.length_append, List.length_set, List.append_assoc, List.drop_nil, List.take_nil, hz'] <;> try simp -dsimp only [if_conj])
    have e0 : allS l = ([], 0) := by rw [hz]; rfl
    rw [e0] at a1 a2
    rw [a2] at hK
    refine hK _ _ g.keepsNew (.inr ⟨id1, ?_, ?_⟩)
    · unfold allR; rw [a2, if_pos rfl, a1, List.append_nil]
    · unfold allR; rw [a2, if_pos rfl, a1, List.append_nil]; exact g.get
  · have hp : 0 < l.length := List.length_pos_iff.2 hz
    have hz' : decide ((l.length : Int) > 0) = true := by simp; omega
    have he := allS_eq l
    rw [if_neg hz] at he
    (simp +contextual -dsimp only [R23, evA, evB, ↓a_on_t, ↓a_on_f, ↓a_on_und, ↓a_cond_b, ↓reduceIte, Go.Ab.part, List.getD_cons_zero, List.getD_cons_succ, List.set_cons_zero, List.set_cons_succ, List.length_cons, List.length_nil, List.cons_append, List.nil_append, cond_true, cond_false, Bool.cond_true, reduceCtorEq, Option.map_some, Option.map_none, forall_const, ne_eq, implies_true, Nat.reduceAdd, Nat.reduceLeDiff, Nat.reduceLT, Nat.beq, Option.isNone_none, beq_self_eq_true, bne_self_eq_false, Int.reduceBEq, Int.reduceBNe, Int.reduceLT, Int.reduceLE, Int.reduceGT, Int.reduceGE, Int.reduceEq, Int.reduceNe, Int.reduceToNat, List.take_zero, List.drop_zero, List.all_cons, List.all_nil, List.append_nil, List.length_append, List.length_set, List.append_assoc, List.drop_nil, List.take_nil, hz'] <;> try simp -dsimp only [if_conj])
    refine bindex_ok ?_
    by_cases e1 : (txt l).length = l.length
    · rw [if_pos e1]
      rw [if_pos e1] at he
      (simp +contextual -dsimp only [R23, evA, evB, ↓a_on_t, ↓a_on_f, ↓a_on_und, ↓a_cond_b, ↓reduceIte, Go.Ab.part, List.getD_cons_zero, List.getD_cons_succ, List.set_cons_zero, List.set_cons_succ, List.length_cons, List.length_nil, List.cons_append, List.nil_append, cond_true, cond_false, Bool.cond_true, reduceCtorEq, Option.map_some, Option.map_none, forall_const, ne_eq, implies_true, Nat.reduceAdd, Nat.reduceLeDiff, Nat.reduceLT, Nat.beq, Option.isNone_none, beq_self_eq_true, bne_self_eq_false, Int.reduceBEq, Int.reduceBNe, Int.reduceLT, Int.reduceLE, Int.reduceGT, Int.reduceGE, Int.reduceEq, Int.reduceNe, Int.reduceToNat, List.take_zero, List.drop_zero, List.all_cons, List.all_nil, List.append_nil, List.length_append, List.length_set, List.append_assoc, List.drop_nil, List.take_nil] <;> try simp -dsimp only [if_conj])
      rw [he] at a2
      rw [a2] at hK
      exact hK _ _ g.keepsNew (.inl ⟨rfl, by unfold allR; rw [a2, if_neg (by decide)]⟩)
    · rw [if_neg e1]
      rw [if_neg e1] at he
      have d0 : decide (((txt l).length : Int) < 0) = false := by simp
      by_cases e2 : (txt l).length > 200
      · rw [if_pos e2] at he
        have d1 : decide (((txt l).length : Int) > 200) = true := by simp; omega
        (simp +contextual -dsimp only [R23, evA, evB, ↓a_on_t, ↓a_on_f, ↓a_on_und, ↓a_cond_b, ↓reduceIte, Go.Ab.part, List.getD_cons_zero, List.getD_cons_succ, List.set_cons_zero, List.set_cons_succ, List.length_cons, List.length_nil, List.cons_append, List.nil_append, cond_true, cond_false, Bool.cond_true, reduceCtorEq, Option.map_some, Option.map_none, forall_const, ne_eq, implies_true, Nat.reduceAdd, Nat.reduceLeDiff, Nat.reduceLT, Nat.beq, Option.isNone_none, beq_self_eq_true, bne_self_eq_false, Int.reduceBEq, Int.reduceBNe, Int.reduceLT, Int.reduceLE, Int.reduceGT, Int.reduceGE, Int.reduceEq, Int.reduceNe, Int.reduceToNat, List.take_zero, List.drop_zero, List.all_cons, List.all_nil, List.append_nil, List.length_append, List.length_set, List.append_assoc, List.drop_nil, List.take_nil, d0, d1] <;> try simp -dsimp only [if_conj])
        rw [he] at a2
        rw [a2] at hK
        exact hK _ _ g.keepsNew (.inl ⟨rfl, by unfold allR; rw [a2, if_neg (by decide)]⟩)
      · rw [if_neg e2] at he
        have d1 : decide (((txt l).length : Int) > 200) = false := by simp; omega
        have eT : (byt l).take (txt l).length = byt (txt l) := by rw [byt_take, txt_take]
        have eW : IntKind.i64.wrap (((txt l).length : Int) + 1) = (((txt l).length + 1 : Nat) : Int) := by rw [wrap_i64 (by omega) (by omega)]; omega
        have eD : ((byt l).drop ((txt l).length + 1)).take (l.drop ((txt l).length + 1)).length = byt (l.drop ((txt l).length + 1)) := by rw [byt_drop, take_b rfl]
        have eL : l.length - ((txt l).length + 1) = (l.drop ((txt l).length + 1)).length := by simp
        have et : ∀ x : AV, List.take 1 [x] = [x] := fun _ => rfl
        have eA : (strs acc).take acc.length = strs acc := List.take_of_length_le (by rw [strs_len]; exact Nat.le_refl _)
        have hne : ¬ h1.length = id1 := by omega
        (simp +contextual -dsimp only [R23, evA, evB, ↓a_on_t, ↓a_on_f, ↓a_on_und, ↓a_cond_b, ↓reduceIte, Go.Ab.part, List.getD_cons_zero, List.getD_cons_succ, List.set_cons_zero, List.set_cons_succ, List.length_cons, List.length_nil, List.cons_append, List.nil_append, cond_true, cond_false, Bool.cond_true, reduceCtorEq, Option.map_some, Option.map_none, forall_const, ne_eq, implies_true, Nat.reduceAdd, Nat.reduceLeDiff, Nat.reduceLT, Nat.beq, Option.isNone_none, beq_self_eq_true, bne_self_eq_false, Int.reduceBEq, Int.reduceBNe, Int.reduceLT, Int.reduceLE, Int.reduceGT, Int.reduceGE, Int.reduceEq, Int.reduceNe, Int.reduceToNat, List.take_zero, List.drop_zero, List.all_cons, List.all_nil, List.append_nil, List.length_append, List.length_set, List.append_assoc, List.drop_nil, List.take_nil, d0, d1, eT, eW, eD, hget_app g.get (by simp), hget_new, et, eA, strs_snoc, strs_len, Nat.sub_zero, eL] <;> try simp -dsimp only [if_conj])
        rw [he] at a1 a2
        have ea : acc.length + 1 = (acc ++ [txt l]).length := by simp
        rw [ea]
        exact ⟨⟨.inl trivial, by omega, by omega⟩, ⟨by omega, hne⟩, ⟨.inl trivial, by omega, by omega⟩, (l.drop ((txt l).length + 1)).length, _, by rw [List.length_drop]; omega, Weak.refl _ (by simp; simp at gl; omega), l.drop ((txt l).length + 1), acc ++ [txt l], _, _, rfl,
          by rw [List.length_drop]; omega, g.step (by simp), by rw [a1]; simp, a2, rfl⟩
theorem rAll_ok {t : List UInt8} (ht : t.length ≤ 30000) (hK : ∀ h' r, Keeps h h' → IsS (allR t) r h' → K.K (.t [r, I (allS t).2]) h') : ACall X 24 [.z (byt t) t.length] h K := by
  have hbig : (600000 : Nat) ≤ bigRoom := by decide
  apply i24
  (simp +contextual -dsimp only [R24, evA, evB, ↓a_on_t, ↓a_on_f, ↓a_on_und, ↓a_cond_b, ↓reduceIte, Go.Ab.part, List.getD_cons_zero, List.getD_cons_succ, List.set_cons_zero, List.set_cons_succ, List.length_cons, List.length_nil, List.cons_append, List.nil_append, cond_true, cond_false, Bool.cond_true, reduceCtorEq, Option.map_some, Option.map_none, forall_const, ne_eq, implies_true, Nat.reduceAdd, Nat.reduceLeDiff, Nat.reduceLT, Nat.beq, Option.isNone_none, beq_self_eq_true, bne_self_eq_false, Int.reduceBEq, Int.reduceBNe, Int.reduceLT, Int.reduceLE, Int.reduceGT, Int.reduceGE, Int.reduceEq, Int.reduceNe, Int.reduceToNat, List.take_zero, List.drop_zero, List.all_cons, List.all_nil, List.append_nil, List.length_append, List.length_set, List.append_assoc, List.drop_nil, List.take_nil] <;> try simp -dsimp only [if_conj])
  refine aloop (fun m st => ∃ p acc h1 id1, m = t.length - p ∧ p ≤ t.length ∧ acc.length ≤ p ∧ Keeps h h1 ∧ h1.getD h.length .dead = rc ⟨t, p, 0⟩ ∧ h1.getD id1 .dead = .o 1 (strs acc) ∧ h.length < id1 ∧ (allS t).1 = acc ++ (allS (t.drop p)).1 ∧ (allS t).2 = (allS (t.drop p)).2 ∧
      st = ((.z (byt t) t.length :: sl st.1 1 :: sl st.1 2 :: sl st.1 3 :: .p h.length 0 :: .s id1 0 acc.length :: sl st.1 6 :: sl st.1 7 :: sl st.1 8 :: sl st.1 9 :: sl st.1 10 :: sl st.1 11 :: sl st.1 12 :: sl st.1 13 :: sl st.1 14 :: sl st.1 15 :: sl st.1 16 :: sl st.1 17 :: sl st.1 18 :: sl st.1 19 :: sl st.1 20 :: sl st.1 21 :: sl st.1 22 :: sl st.1 23 :: sl st.1 24 :: sl st.1 25 :: sl st.1 26 :: sl st.1 27 :: sl st.1 28 :: sl st.1 29 :: sl st.1 30 :: sl st.1 31 :: sl st.1 32 :: []), h1)) t.length
    ((.z (byt t) t.length :: .bad :: .bad :: .bad :: .p h.length 0 :: .s (h.length + 1) 0 0 :: .bad :: .bad :: .bad :: .bad :: .bad :: .bad :: .bad :: .bad :: .bad :: .bad :: .bad :: .bad :: .bad :: .bad :: .bad :: .bad :: .bad :: .bad :: .bad :: .bad :: .bad :: .bad :: .bad :: .bad :: .bad :: .bad :: .bad :: []), (h ++ [rc ⟨t, 0, 0⟩]) ++ [.o 1 []]) (by simp)
    (by have := weak_nils (X := X) (n := h.length) (sz := 1) (h := h ++ [rc ⟨t, 0, 0⟩]) (tm' := (.z (byt t) t.length :: .bad :: .bad :: .bad :: .p h.length 0 :: .s (h.length + 1) 0 0 :: .bad :: .bad :: .bad :: .bad :: .bad :: .bad :: .bad :: .bad :: .bad :: .bad :: .bad :: .bad :: .bad :: .bad :: .bad :: .bad :: .bad :: .bad :: .bad :: .bad :: .bad :: .bad :: .bad :: .bad :: .bad :: .bad :: .bad :: [])) (tm := (.z (byt t) t.length :: .bad :: .bad :: .bad :: .p h.length 0 :: .v (.slice none 0 0) :: .bad :: .bad :: .bad :: .bad :: .bad :: .bad :: .bad :: .bad :: .bad :: .bad :: .bad :: .bad :: .bad :: .bad :: .bad :: .bad :: .bad :: .bad :: .bad :: .bad :: .bad :: .bad :: .bad :: .bad :: .bad :: .bad :: .bad :: [])) (by simp) (by simp [NilOk])
        refine Weak.trans (weak_slots (tm' := (.z (byt t) t.length :: .bad :: .bad :: .bad :: .p h.length 0 :: .v (.slice none 0 0) :: .bad :: .bad :: .bad :: .bad :: .bad :: .bad :: .bad :: .bad :: .bad :: .bad :: .bad :: .bad :: .bad :: .bad :: .bad :: .bad :: .bad :: .bad :: .bad :: .bad :: .bad :: .bad :: .bad :: .bad :: .bad :: .bad :: .bad :: [])) (by simp) (by simp [SeeL, See])) this (Nat.le_refl _))
    ⟨0, [], _, _, by omega, by omega, by simp, Keeps.adds (Adds.mk.trans Adds.mk), hget_app hget_new (rc_ne _), by rw [show h.length + 1 = (h ++ [rc ⟨t, 0, 0⟩]).length by simp]; exact hget_new, by omega, rfl, rfl, rfl⟩ ?_
  rintro m st ⟨p, acc, h1, id1, hm, hp, hap, k1, gc, ga, hid, a1, a2, hst⟩
  rw [hst]
  have lc := hlt gc (rc_ne _)
  have la := hlt ga (by simp)
  by_cases hz : t.length ≤ p
  · have hz' : decide ((p : Int) < t.length) = false := by simp; omega
    have e0 : allS (t.drop p) = ([], 0) := by rw [List.drop_eq_nil_of_le hz]; rfl
    rw [e0] at a1 a2
    rw [a2] at hK
    (simp +contextual -dsimp only [R24, evA, evB, ↓a_on_t, ↓a_on_f, ↓a_on_und, ↓a_cond_b, ↓reduceIte, Go.Ab.part, List.getD_cons_zero, List.getD_cons_succ, List.set_cons_zero, List.set_cons_succ, List.length_cons, List.length_nil, List.cons_append, List.nil_append, cond_true, cond_false, Bool.cond_true, reduceCtorEq, Option.map_some, Option.map_none, forall_const, ne_eq, implies_true, Nat.reduceAdd, Nat.reduceLeDiff, Nat.reduceLT, Nat.beq, Option.isNone_none, beq_self_eq_true, bne_self_eq_false, Int.reduceBEq, Int.reduceBNe, Int.reduceLT, Int.reduceLE, Int.reduceGT, Int.reduceGE, Int.reduceEq, Int.reduceNe, Int.reduceToNat, List.take_zero, List.drop_zero, List.all_cons, List.all_nil, List.append_nil, List.length_append, List.length_set, List.append_assoc, List.drop_nil, List.take_nil, gc, rc, hz'] <;> try simp -dsimp only [if_conj])
    refine hK _ _ k1 (.inr ⟨id1, ?_, ?_⟩)
    · unfold allR; rw [a2, if_pos rfl, a1, List.append_nil]
    · unfold allR; rw [a2, if_pos rfl, a1, List.append_nil]; exact ga
  · have hz' : decide ((p : Int) < t.length) = true := by simp; omega
    have he := allS_eq (t.drop p)
    have hne : t.drop p ≠ [] := by intro e; have := congrArg List.length e; simp at this; omega
    rw [if_neg hne] at he
    have htl := txt_le (t.drop p)
    rw [List.length_drop] at htl he
    have hi : (⟨t, p, 0⟩ : Cur).inv := Cur.mki hp (by omega)
    (simp +contextual -dsimp only [R24, evA, evB, ↓a_on_t, ↓a_on_f, ↓a_on_und, ↓a_cond_b, ↓reduceIte, Go.Ab.part, List.getD_cons_zero, List.getD_cons_succ, List.set_cons_zero, List.set_cons_succ, List.length_cons, List.length_nil, List.cons_append, List.nil_append, cond_true, cond_false, Bool.cond_true, reduceCtorEq, Option.map_some, Option.map_none, forall_const, ne_eq, implies_true, Nat.reduceAdd, Nat.reduceLeDiff, Nat.reduceLT, Nat.beq, Option.isNone_none, beq_self_eq_true, bne_self_eq_false, Int.reduceBEq, Int.reduceBNe, Int.reduceLT, Int.reduceLE, Int.reduceGT, Int.reduceGE, Int.reduceEq, Int.reduceNe, Int.reduceToNat, List.take_zero, List.drop_zero, List.all_cons, List.all_nil, List.append_nil, List.length_append, List.length_set, List.append_assoc, List.drop_nil, List.take_nil, gc, rc, hz'] <;> try simp -dsimp only [if_conj])
    refine rTake_ok gc hi ?_
    have g2 : ∀ d : Cur, (h1.set h.length (rc d)).getD h.length .dead = rc d := fun d => hget_set lc
    have k2 : ∀ d : Cur, Keeps h (h1.set h.length (rc d)) := fun d => ⟨by simpa using k1.len, fun hj => by rw [hget_set_ne (by omega)]; exact k1.get hj⟩
    unfold Cur.str
    rw [if_neg (by simp)]
    simp only
    by_cases e1 : (txt (t.drop p)).length = t.length - p
    · rw [if_pos e1] at he ⊢
      rw [he] at a2
      rw [a2] at hK
      (simp +contextual -dsimp only [R24, evA, evB, ↓a_on_t, ↓a_on_f, ↓a_on_und, ↓a_cond_b, ↓reduceIte, Go.Ab.part, List.getD_cons_zero, List.getD_cons_succ, List.set_cons_zero, List.set_cons_succ, List.length_cons, List.length_nil, List.cons_append, List.nil_append, cond_true, cond_false, Bool.cond_true, reduceCtorEq, Option.map_some, Option.map_none, forall_const, ne_eq, implies_true, Nat.reduceAdd, Nat.reduceLeDiff, Nat.reduceLT, Nat.beq, Option.isNone_none, beq_self_eq_true, bne_self_eq_false, Int.reduceBEq, Int.reduceBNe, Int.reduceLT, Int.reduceLE, Int.reduceGT, Int.reduceGE, Int.reduceEq, Int.reduceNe, Int.reduceToNat, List.take_zero, List.drop_zero, List.all_cons, List.all_nil, List.append_nil, List.length_append, List.length_set, List.append_assoc, List.drop_nil, List.take_nil, hget_set lc, rc] <;> try simp -dsimp only [if_conj])
      exact hK _ _ (k2 ⟨t, p, 12⟩) (.inl ⟨rfl, by unfold allR; rw [a2, if_neg (by decide)]⟩)
    · rw [if_neg e1] at he ⊢
      by_cases e2 : (txt (t.drop p)).length > 200
      · rw [if_pos e2] at he ⊢
        rw [he] at a2
        rw [a2] at hK
        (simp +contextual -dsimp only [R24, evA, evB, ↓a_on_t, ↓a_on_f, ↓a_on_und, ↓a_cond_b, ↓reduceIte, Go.Ab.part, List.getD_cons_zero, List.getD_cons_succ, List.set_cons_zero, List.set_cons_succ, List.length_cons, List.length_nil, List.cons_append, List.nil_append, cond_true, cond_false, Bool.cond_true, reduceCtorEq, Option.map_some, Option.map_none, forall_const, ne_eq, implies_true, Nat.reduceAdd, Nat.reduceLeDiff, Nat.reduceLT, Nat.beq, Option.isNone_none, beq_self_eq_true, bne_self_eq_false, Int.reduceBEq, Int.reduceBNe, Int.reduceLT, Int.reduceLE, Int.reduceGT, Int.reduceGE, Int.reduceEq, Int.reduceNe, Int.reduceToNat, List.take_zero, List.drop_zero, List.all_cons, List.all_nil, List.append_nil, List.length_append, List.length_set, List.append_assoc, List.drop_nil, List.take_nil, hget_set lc, rc] <;> try simp -dsimp only [if_conj])
        exact hK _ _ (k2 ⟨t, p, 3⟩) (.inl ⟨rfl, by unfold allR; rw [a2, if_neg (by decide)]⟩)
      · rw [if_neg e2] at he ⊢
        rw [he] at a1 a2
        have et : ∀ x : AV, List.take 1 [x] = [x] := fun _ => rfl
        have eA : (strs acc).take acc.length = strs acc := List.take_of_length_le (by rw [strs_len]; exact Nat.le_refl _)
        have ga2 : (h1.set h.length (rc ⟨t, p + (txt (t.drop p)).length + 1, 0⟩)).getD id1 .dead = .o 1 (strs acc) := by rw [hget_set_ne (by omega)]; exact ga
        have gc2 := g2 ⟨t, p + (txt (t.drop p)).length + 1, 0⟩
        have kk := k2 ⟨t, p + (txt (t.drop p)).length + 1, 0⟩
        have n2 : (h1.set h.length (rc ⟨t, p + (txt (t.drop p)).length + 1, 0⟩)).length = h1.length := by simp
        generalize h1.set h.length (rc ⟨t, p + (txt (t.drop p)).length + 1, 0⟩) = h2 at *
        have hne2 : ¬ h2.length = id1 := by omega
        (simp +contextual -dsimp only [R24, evA, evB, ↓a_on_t, ↓a_on_f, ↓a_on_und, ↓a_cond_b, ↓reduceIte, Go.Ab.part, List.getD_cons_zero, List.getD_cons_succ, List.set_cons_zero, List.set_cons_succ, List.length_cons, List.length_nil, List.cons_append, List.nil_append, cond_true, cond_false, Bool.cond_true, reduceCtorEq, Option.map_some, Option.map_none, forall_const, ne_eq, implies_true, Nat.reduceAdd, Nat.reduceLeDiff, Nat.reduceLT, Nat.beq, Option.isNone_none, beq_self_eq_true, bne_self_eq_false, Int.reduceBEq, Int.reduceBNe, Int.reduceLT, Int.reduceLE, Int.reduceGT, Int.reduceGE, Int.reduceEq, Int.reduceNe, Int.reduceToNat, List.take_zero, List.drop_zero, List.all_cons, List.all_nil, List.append_nil, List.length_append, List.length_set, List.append_assoc, List.drop_nil, List.take_nil, gc2, rc, hget_app ga2 (by simp), hget_new, et, eA, strs_snoc, strs_len] <;> try simp -dsimp only [if_conj])
        have ea : acc.length + 1 = (acc ++ [txt (t.drop p)]).length := by simp
        have eDD : (t.drop p).drop ((txt (t.drop p)).length + 1) = t.drop (p + (txt (t.drop p)).length + 1) := by rw [List.drop_drop]; rfl
        rw [eDD] at a1 a2
        rw [ea]
        have kl := kk.len
        refine ⟨⟨by rw [← ea]; omega, hne2⟩, t.length - (p + (txt (t.drop p)).length + 1), _, by omega, Weak.refl _ (by simp; omega), p + (txt (t.drop p)).length + 1, acc ++ [txt (t.drop p)], _, h2.length + 1, rfl, by omega, by rw [← ea]; omega, ?_, ap_keep gc2 (by simp [rc]) (by omega), ap_get, by omega, by rw [a1]; simp, a2, rfl⟩
        exact ⟨by simp; omega, fun hj => by rw [Adds.mk.at (by simp; omega), hget_set_ne (by omega), Adds.mk.at (by omega)]; exact kk.get hj⟩
end Go.Proofs.Ytgpddpdhkhfdjaa
