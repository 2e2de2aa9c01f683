import Derived.Test.YtlfplmcidfflfaaCI
set_option linter.unusedVariables false
set_option linter.unusedSimpArgs false
set_option maxRecDepth 100000
namespace Go.Proofs.Ytlfplmcidfflfaa
open Go.Ab
variable {h : Heap} {K : Kt}

def lst (l : List Nat) : List AV := l.map fun x => U ((x : Nat) : Int)
theorem lst_len (l : List Nat) : (lst l).length = l.length := by simp [lst]
theorem lst_get {l : List Nat} {i : Nat} (h : i < l.length) : (lst l).getD i .bad = U ((l.getD i 0 : Nat) : Int) := by
  simp [lst, List.getD_eq_getElem?_getD, List.getElem?_map, List.getElem?_eq_getElem h]
theorem rparts_ok {c : Cur} {id : Nat} (hid : h.getD id .dead = rc c) (hi : c.inv)
    (h0 : ∀ d h1, rd 10 c = (none, d) → h1.getD id .dead = rc d → d.inv → (∀ j, j < h.length → j ≠ id → h1.getD j .dead = h.getD j .dead) → h.length ≤ h1.length → K.K (.v (.slice none 0 0)) h1)
    (h2 : ∀ l d h1 lid, rd 10 c = (some l, d) → h1.getD lid .dead = .o 1 (lst l) → h1.getD id .dead = rc d → d.inv → (∀ j, j < h.length → j ≠ id → h1.getD j .dead = h.getD j .dead) → h.length ≤ h1.length → lid ≠ id → K.K (.s lid 0 l.length) h1) : ACall X 32 [.p id 0] h K := by
  have hil := hlt hid (rc_ne c)
  have hbig : (20 : Nat) * 8 ≤ bigRoom := by decide
  have hw1 : wid 1 = 1 := by decide
  apply i32
  (simp +contextual -dsimp only [R32, evA, evB, ↓a_on_t, ↓a_on_f, ↓a_on_und, ↓a_cond_b, ↓reduceIte, Go.Ab.part, List.getD_cons_zero, List.getD_cons_succ, List.set_cons_zero, List.set_cons_succ, List.length_cons, List.length_nil, List.cons_append, List.nil_append, cond_true, cond_false, Bool.cond_true, reduceCtorEq, Option.map_some, Option.map_none, forall_const, ne_eq, implies_true, Nat.reduceAdd, Nat.reduceLeDiff, Nat.reduceLT, Nat.beq, Option.isNone_none, beq_self_eq_true, bne_self_eq_false, Int.reduceBEq, Int.reduceBNe, Int.reduceLT, Int.reduceLE, Int.reduceGT, Int.reduceGE, Int.reduceEq, Int.reduceNe, Int.reduceToNat, List.take_zero, List.drop_zero, List.all_cons, List.all_nil, List.append_nil, List.length_append, List.length_set, List.append_assoc, List.drop_nil, List.take_nil] <;> try simp -dsimp only [if_conj])
  refine aloop (fun f st => ∃ pre d H lid, f + pre.length = 10 ∧ rd 10 c = comb pre (rd f d) ∧ d.inv ∧ H.getD id .dead = rc d ∧ H.getD lid .dead = .o 1 (lst pre) ∧ (∀ j, j < h.length → j ≠ id → H.getD j .dead = h.getD j .dead) ∧ h.length + 1 ≤ H.length ∧ h.length ≤ lid ∧
    st = ((.p id 0 :: sl st.1 1 :: sl st.1 2 :: .s lid 0 pre.length :: I pre.length :: sl st.1 5 :: sl st.1 6 :: sl st.1 7 :: sl st.1 8 :: sl st.1 9 :: sl st.1 10 :: sl st.1 11 :: sl st.1 12 :: sl st.1 13 :: sl st.1 14 :: sl st.1 15 :: sl st.1 16 :: sl st.1 17 :: sl st.1 18 :: sl st.1 19 :: sl st.1 20 :: sl st.1 21 :: sl st.1 22 :: sl st.1 23 :: sl st.1 24 :: sl st.1 25 :: sl st.1 26 :: []), H)) 10 _ (Nat.le_refl _)
    (weak_nils (tm' := (.p id 0 :: .bad :: .bad :: .s h.length 0 0 :: I 0 :: .bad :: .bad :: .bad :: .bad :: .bad :: .bad :: .bad :: .bad :: .bad :: .bad :: .bad :: .bad :: .bad :: .bad :: .bad :: .bad :: .bad :: .bad :: .bad :: .bad :: .bad :: .bad :: [])) (sz := 1) (Nat.le_refl _) (by simp [NilOk])) ⟨[], c, h ++ [.o 1 []], h.length, rfl, ?_, hi, hget_app hid (rc_ne c), hget_new, fun j hj _ => Adds.mk.at hj, by simp, Nat.le_refl _, rfl⟩ ?_
  · cases hr : rd 10 c with
    | mk a d => cases a <;> rfl
  rintro f st ⟨pre, d, H, lid, hf, hrd, hdi, g1, g2, g3, g4, g5, hst⟩
  rw [hst]
  cases f with
  | zero =>
    have d1 : decide ((pre.length : Int) < 10) = false := by simp; omega
    (simp +contextual -dsimp only [R32, evA, evB, ↓a_on_t, ↓a_on_f, ↓a_on_und, ↓a_cond_b, ↓reduceIte, Go.Ab.part, List.getD_cons_zero, List.getD_cons_succ, List.set_cons_zero, List.set_cons_succ, List.length_cons, List.length_nil, List.cons_append, List.nil_append, cond_true, cond_false, Bool.cond_true, reduceCtorEq, Option.map_some, Option.map_none, forall_const, ne_eq, implies_true, Nat.reduceAdd, Nat.reduceLeDiff, Nat.reduceLT, Nat.beq, Option.isNone_none, beq_self_eq_true, bne_self_eq_false, Int.reduceBEq, Int.reduceBNe, Int.reduceLT, Int.reduceLE, Int.reduceGT, Int.reduceGE, Int.reduceEq, Int.reduceNe, Int.reduceToNat, List.take_zero, List.drop_zero, List.all_cons, List.all_nil, List.append_nil, List.length_append, List.length_set, List.append_assoc, List.drop_nil, List.take_nil, d1] <;> try simp -dsimp only [if_conj])
    refine rFail_ok g1 ?_
    (simp +contextual -dsimp only [R32, evA, evB, ↓a_on_t, ↓a_on_f, ↓a_on_und, ↓a_cond_b, ↓reduceIte, Go.Ab.part, List.getD_cons_zero, List.getD_cons_succ, List.set_cons_zero, List.set_cons_succ, List.length_cons, List.length_nil, List.cons_append, List.nil_append, cond_true, cond_false, Bool.cond_true, reduceCtorEq, Option.map_some, Option.map_none, forall_const, ne_eq, implies_true, Nat.reduceAdd, Nat.reduceLeDiff, Nat.reduceLT, Nat.beq, Option.isNone_none, beq_self_eq_true, bne_self_eq_false, Int.reduceBEq, Int.reduceBNe, Int.reduceLT, Int.reduceLE, Int.reduceGT, Int.reduceGE, Int.reduceEq, Int.reduceNe, Int.reduceToNat, List.take_zero, List.drop_zero, List.all_cons, List.all_nil, List.append_nil, List.length_append, List.length_set, List.append_assoc, List.drop_nil, List.take_nil] <;> try simp -dsimp only [if_conj])
    refine h0 (d.fail 11) _ (by rw [hrd]; rfl) (hget_set (hlt g1 (rc_ne _))) (hdi.fail _) (fun j hj hj2 => ?_) (by rw [List.length_set]; omega)
    rw [hget_set_ne (Ne.symm hj2)]; exact g3 j hj hj2
  | succ f =>
    have d1 : decide ((pre.length : Int) < 10) = true := by simp; omega
    (simp +contextual -dsimp only [R32, evA, evB, ↓a_on_t, ↓a_on_f, ↓a_on_und, ↓a_cond_b, ↓reduceIte, Go.Ab.part, List.getD_cons_zero, List.getD_cons_succ, List.set_cons_zero, List.set_cons_succ, List.length_cons, List.length_nil, List.cons_append, List.nil_append, cond_true, cond_false, Bool.cond_true, reduceCtorEq, Option.map_some, Option.map_none, forall_const, ne_eq, implies_true, Nat.reduceAdd, Nat.reduceLeDiff, Nat.reduceLT, Nat.beq, Option.isNone_none, beq_self_eq_true, bne_self_eq_false, Int.reduceBEq, Int.reduceBNe, Int.reduceLT, Int.reduceLE, Int.reduceGT, Int.reduceGE, Int.reduceEq, Int.reduceNe, Int.reduceToNat, List.take_zero, List.drop_zero, List.all_cons, List.all_nil, List.append_nil, List.length_append, List.length_set, List.append_assoc, List.drop_nil, List.take_nil, d1] <;> try simp -dsimp only [if_conj])
    refine rUint_ok g1 hdi ?_
    rw [hw1]
    have gs : ∀ j, j ≠ id → (H.set id (rc (d.skip 1))).getD j .dead = H.getD j .dead := fun j hj => hget_set_ne (Ne.symm hj)
    have e1 : (H.set id (rc (d.skip 1))).getD lid .dead = .o 1 (lst pre) := (gs _ (by omega)).trans g2
    have e0 : (H.set id (rc (d.skip 1))).getD id .dead = rc (d.skip 1) := hget_set (hlt g1 (rc_ne _))
    have hl1 : (H.set id (rc (d.skip 1))).length = H.length := by simp
    have e3 : ∀ j, j < h.length → j ≠ id → (H.set id (rc (d.skip 1))).getD j .dead = h.getD j .dead := fun j hj hj2 => (gs j hj2).trans (g3 j hj hj2)
    generalize H.set id (rc (d.skip 1)) = G at *
    by_cases hz : (d.skip 1).e ≠ 0
    · have d2 : ((d.skip 1).e != 0) = true := by simpa using hz
      (simp +contextual -dsimp only [R32, evA, evB, ↓a_on_t, ↓a_on_f, ↓a_on_und, ↓a_cond_b, ↓reduceIte, Go.Ab.part, List.getD_cons_zero, List.getD_cons_succ, List.set_cons_zero, List.set_cons_succ, List.length_cons, List.length_nil, List.cons_append, List.nil_append, cond_true, cond_false, Bool.cond_true, reduceCtorEq, Option.map_some, Option.map_none, forall_const, ne_eq, implies_true, Nat.reduceAdd, Nat.reduceLeDiff, Nat.reduceLT, Nat.beq, Option.isNone_none, beq_self_eq_true, bne_self_eq_false, Int.reduceBEq, Int.reduceBNe, Int.reduceLT, Int.reduceLE, Int.reduceGT, Int.reduceGE, Int.reduceEq, Int.reduceNe, Int.reduceToNat, List.take_zero, List.drop_zero, List.all_cons, List.all_nil, List.append_nil, List.length_append, List.length_set, List.append_assoc, List.drop_nil, List.take_nil, d2, e0, rc] <;> try simp -dsimp only [if_conj])
      exact h0 (d.skip 1) _ (by rw [hrd, rd_bad hz]; rfl) e0 (hdi.skip _) e3 (by omega)
    · have hz : (d.skip 1).e = 0 := by simpa using hz
      have d2 : ((d.skip 1).e != 0) = false := by simp [hz]
      have hx := got1_lt (c := d)
      have r1 : ((le (d.got 1) : Nat) : Int).tmod 128 = ((le (d.got 1) % 128 : Nat) : Int) := tmod_nat _ 128
      have r3 : IntKind.i64.wrap ((pre.length : Int) + 1) = ((pre.length + 1 : Nat) : Int) := by rw [wrap_i64 (by omega) (by omega)]; rfl
      have et : ∀ x : AV, List.take 1 [x] = [x] := fun _ => rfl
      have ll := lst_len pre
      have e2 : List.take pre.length (lst pre) = lst pre := List.take_of_length_le (by rw [ll]; exact Nat.le_refl _)
      have hne : ¬ G.length = lid := by have := hlt e1 (by simp); omega
      have hG : ∀ x : AV, (G ++ [AO.o 1 [x]]).getD lid .dead = .o 1 (lst pre) := fun x => hget_app e1 (by simp)
      have hsn : lst pre ++ [.v (.int .u64 ((le (d.got 1) % 128 : Nat) : Int))] = lst (pre ++ [le (d.got 1) % 128]) := by simp [lst]
      have hpl : (pre ++ [le (d.got 1) % 128]).length = pre.length + 1 := by simp
      -- the heap behind the append
      have a1 : ∀ x p : AV, ∀ o, ((G ++ [AO.o 1 [x]]).set lid .dead ++ [o]).getD (G.length + 1) .dead = o := fun x p o => ap_get
      have a2 : ∀ (x : AV) (o : AO), ((G ++ [AO.o 1 [x]]).set lid .dead ++ [o]).getD id .dead = rc (d.skip 1) := fun x o => ap_keep e0 (rc_ne _) (by omega)
      have a3 : ∀ (x : AV) (o : AO) j, j < h.length → j ≠ id → ((G ++ [AO.o 1 [x]]).set lid .dead ++ [o]).getD j .dead = h.getD j .dead := fun x o j hj hj2 => by
        rw [Adds.mk.at (by simp; omega), hget_set_ne (by omega), Adds.mk.at (by omega)]; exact e3 j hj hj2
      by_cases hc : le (d.got 1) < 128
      · have d3 : decide (((le (d.got 1) : Nat) : Int) < 128) = true := by simp; omega
        (simp +contextual -dsimp only [R32, evA, evB, ↓a_on_t, ↓a_on_f, ↓a_on_und, ↓a_cond_b, ↓reduceIte, Go.Ab.part, List.getD_cons_zero, List.getD_cons_succ, List.set_cons_zero, List.set_cons_succ, List.length_cons, List.length_nil, List.cons_append, List.nil_append, cond_true, cond_false, Bool.cond_true, reduceCtorEq, Option.map_some, Option.map_none, forall_const, ne_eq, implies_true, Nat.reduceAdd, Nat.reduceLeDiff, Nat.reduceLT, Nat.beq, Option.isNone_none, beq_self_eq_true, bne_self_eq_false, Int.reduceBEq, Int.reduceBNe, Int.reduceLT, Int.reduceLE, Int.reduceGT, Int.reduceGE, Int.reduceEq, Int.reduceNe, Int.reduceToNat, List.take_zero, List.drop_zero, List.all_cons, List.all_nil, List.append_nil, List.length_append, List.length_set, List.append_assoc, List.drop_nil, List.take_nil, d2, e0, rc, r1, hG, hget_new, et, e2, d3, hsn, ll] <;> try simp -dsimp only [if_conj])
        refine ⟨⟨by omega, hne⟩, ?_⟩
        rw [← hpl]
        exact h2 (pre ++ [le (d.got 1) % 128]) (d.skip 1) _ (G.length + 1) (by rw [hrd, rd_end hz hc]; rfl) (ap_get ..) (a2 ..) (hdi.skip _) (fun j hj hj2 => a3 _ _ j hj hj2) (by simp; omega) (by have := hlt e0 (rc_ne _); omega)
      · have d3 : decide (((le (d.got 1) : Nat) : Int) < 128) = false := by simp; omega
        (simp +contextual -dsimp only [R32, evA, evB, ↓a_on_t, ↓a_on_f, ↓a_on_und, ↓a_cond_b, ↓reduceIte, Go.Ab.part, List.getD_cons_zero, List.getD_cons_succ, List.set_cons_zero, List.set_cons_succ, List.length_cons, List.length_nil, List.cons_append, List.nil_append, cond_true, cond_false, Bool.cond_true, reduceCtorEq, Option.map_some, Option.map_none, forall_const, ne_eq, implies_true, Nat.reduceAdd, Nat.reduceLeDiff, Nat.reduceLT, Nat.beq, Option.isNone_none, beq_self_eq_true, bne_self_eq_false, Int.reduceBEq, Int.reduceBNe, Int.reduceLT, Int.reduceLE, Int.reduceGT, Int.reduceGE, Int.reduceEq, Int.reduceNe, Int.reduceToNat, List.take_zero, List.drop_zero, List.all_cons, List.all_nil, List.append_nil, List.length_append, List.length_set, List.append_assoc, List.drop_nil, List.take_nil, d2, e0, rc, r1, hG, hget_new, et, e2, d3, hsn, ll, r3] <;> try simp -dsimp only [if_conj])
        refine ⟨⟨by omega, hne⟩, f, _, by omega, Weak.refl _ (by simp; omega), pre ++ [le (d.got 1) % 128], d.skip 1, _, G.length + 1, by rw [hpl]; omega, by rw [hrd, rd_more hz hc, comb_comb], hdi.skip _, a2 (.v (.int .u64 ((le (d.got 1) % 128 : Nat) : Int))) _, ap_get .., fun j hj hj2 => a3 (.v (.int .u64 ((le (d.got 1) % 128 : Nat) : Int))) _ j hj hj2, by simp; omega, by omega, ?_⟩
        rw [hpl]; rfl
end Go.Proofs.Ytlfplmcidfflfaa
