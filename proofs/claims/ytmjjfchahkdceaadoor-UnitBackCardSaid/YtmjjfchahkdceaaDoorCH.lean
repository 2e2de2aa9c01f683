import Derived.Test.YtmjjfchahkdceaaDoorCG
set_option linter.unusedVariables false
set_option linter.unusedSimpArgs false
set_option maxRecDepth 100000
set_option maxHeartbeats 1000000
namespace Go.Proofs.YtmjjfchahkdceaaDoor
open Go.Ab
variable {c : Cur} {h : Heap} {id : Nat} {K : Kt}
theorem et8' (a b c d e f g h : AV) : List.take 8 [a, b, c, d, e, f, g, h] = [a, b, c, d, e, f, g, h] := rfl
theorem hds_len (l : List Hd) : (hds l).length = l.length * 8 := rows_len Hd.row_len l
theorem hd_at {l : List Hd} {n j : Nat} (h : n < l.length) (hj : j < 8) : (hds l).getD (n * 8 + j) .bad = (Hd.row (l.getD n default)).getD j .bad := rows_at Hd.row_len h hj
theorem hd_row {l : List Hd} {n : Nat} (h : n < l.length) : ((hds l).drop (n * 8)).take 8 = Hd.row (l.getD n default) := rows_row Hd.row_len h
theorem take_snoc {α : Type} [Inhabited α] {l : List α} {n : Nat} (h : n < l.length) : l.take (n + 1) = l.take n ++ [l.getD n default] := by
  rw [List.take_add_one, List.getElem?_eq_getElem h, List.getD_eq_getElem?_getD, List.getElem?_eq_getElem h]; rfl
theorem oneU_next (hi : c.inv) (h : (oneU c).2.1 = 0) : (oneU c).2.2 = c.bd.2.1 ∧ c.bd.2.1.e = 0 ∧ c.p < c.bd.2.1.p ∧ c.bd.2.1.p ≤ c.b.length ∧ c.bd.2.1.b = c.b ∧ c.bd.2.1.inv := by
  have he : c.bd.2.2.e = 0 := by
    unfold oneU at h
    split at h
    · rename_i h0; exact absurd h h0
    · rename_i h0; exact Classical.not_not.1 h0
  obtain ⟨g1, g2, g3, g4⟩ := bd_ne hi he
  refine ⟨?_, g3, g1, g2, g4, bd_inv hi⟩
  unfold oneU
  split
  · rfl
  · split <;> rfl
theorem rAll15_ok {t : List UInt8} (ht : t.length ≤ 300000) (hK : ∀ h' r, Keeps h h' → IsR Hd.row 8 (uR t).1 r h' → K.K (.t [r, I (uR t).2]) h') : ACall X 8 [.z (byt t) t.length] h K := by
  have hbig : (6000000 : Nat) ≤ bigRoom := by decide
  apply i8
  (simp +contextual -dsimp only [R8, evA, evB, ↓a_on_t, ↓a_on_f, ↓a_on_und, ↓a_cond_b, ↓reduceIte, Go.Ab.part, List.getD_cons_zero, List.getD_cons_succ, List.set_cons_zero, List.set_cons_succ, List.length_cons, List.length_nil, List.cons_append, List.nil_append, cond_true, cond_false, Bool.cond_true, reduceCtorEq, Option.map_some, Option.map_none, forall_const, ne_eq, implies_true, Nat.reduceAdd, Nat.reduceLeDiff, Nat.reduceLT, Nat.beq, Option.isNone_none, beq_self_eq_true, bne_self_eq_false, Int.reduceBEq, Int.reduceBNe, Int.reduceLT, Int.reduceLE, Int.reduceGT, Int.reduceGE, Int.reduceEq, Int.reduceNe, Int.reduceToNat, List.take_zero, List.drop_zero, List.all_cons, List.all_nil, List.append_nil, List.length_append, List.length_set, List.append_assoc, List.drop_nil, List.take_nil, fill, setAt] <;> try simp -dsimp only [if_conj])
  refine aloop (fun m st => ∃ (c : Cur) (acc : List Hd) (h1 : Heap) (ido : Nat), c.left ≤ m ∧ c.b = t ∧ c.e = 0 ∧ c.inv ∧ Keeps h h1 ∧ h.length < ido ∧ h1.getD h.length .dead = rc c ∧ h1.getD ido .dead = .o 8 (hds acc) ∧ acc.length ≤ 60 ∧
      uR t = unitAll (m + 1) c acc ∧ st = ((.z (byt t) t.length :: sl st.1 1 :: sl st.1 2 :: sl st.1 3 :: .p h.length 0 :: .s ido 0 acc.length :: sl st.1 6 :: sl st.1 7 :: sl st.1 8 :: sl st.1 9 :: sl st.1 10 :: sl st.1 11 :: sl st.1 12 :: sl st.1 13 :: sl st.1 14 :: sl st.1 15 :: sl st.1 16 :: sl st.1 17 :: sl st.1 18 :: sl st.1 19 :: sl st.1 20 :: sl st.1 21 :: sl st.1 22 :: sl st.1 23 :: sl st.1 24 :: sl st.1 25 :: sl st.1 26 :: sl st.1 27 :: sl st.1 28 :: sl st.1 29 :: sl st.1 30 :: sl st.1 31 :: sl st.1 32 :: sl st.1 33 :: []), h1)) t.length
    ((.z (byt t) t.length :: .bad :: .bad :: .bad :: .p h.length 0 :: .s (h.length + 1) 0 0 :: .bad :: .bad :: .bad :: .bad :: .bad :: .bad :: .bad :: .bad :: .bad :: .bad :: .bad :: .bad :: .bad :: .bad :: .bad :: .bad :: .bad :: .bad :: .bad :: .bad :: .bad :: .bad :: .bad :: .bad :: .bad :: .bad :: .bad :: .bad :: []), (h ++ [rc ⟨t, 0, 0⟩]) ++ [.o 8 []]) (by simp)
    (by have := weak_nils (X := X) (n := h.length) (sz := 8) (h := h ++ [rc ⟨t, 0, 0⟩]) (tm' := (.z (byt t) t.length :: .bad :: .bad :: .bad :: .p h.length 0 :: .s (h.length + 1) 0 0 :: .bad :: .bad :: .bad :: .bad :: .bad :: .bad :: .bad :: .bad :: .bad :: .bad :: .bad :: .bad :: .bad :: .bad :: .bad :: .bad :: .bad :: .bad :: .bad :: .bad :: .bad :: .bad :: .bad :: .bad :: .bad :: .bad :: .bad :: .bad :: [])) (tm := (.z (byt t) t.length :: .bad :: .bad :: .bad :: .p h.length 0 :: .v (.slice none 0 0) :: .bad :: .bad :: .bad :: .bad :: .bad :: .bad :: .bad :: .bad :: .bad :: .bad :: .bad :: .bad :: .bad :: .bad :: .bad :: .bad :: .bad :: .bad :: .bad :: .bad :: .bad :: .bad :: .bad :: .bad :: .bad :: .bad :: .bad :: .bad :: [])) (by simp) (by simp [NilOk])
        refine Weak.trans (weak_slots (tm' := (.z (byt t) t.length :: .bad :: .bad :: .bad :: .p h.length 0 :: .v (.slice none 0 0) :: .bad :: .bad :: .bad :: .bad :: .bad :: .bad :: .bad :: .bad :: .bad :: .bad :: .bad :: .bad :: .bad :: .bad :: .bad :: .bad :: .bad :: .bad :: .bad :: .bad :: .bad :: .bad :: .bad :: .bad :: .bad :: .bad :: .bad :: .bad :: [])) (by simp) (by simp [SeeL, See])) this (Nat.le_refl _))
    ⟨⟨t, 0, 0⟩, [], _, h.length + 1, by simp [Cur.left], rfl, rfl, Cur.mki (Nat.zero_le _) (by show t.length < _; omega), Keeps.adds (Adds.mk.trans Adds.mk), by omega, hget_app hget_new (rc_ne _), by rw [show h.length + 1 = (h ++ [rc ⟨t, 0, 0⟩]).length by simp]; exact hget_new, by simp, rfl, rfl⟩ ?_
  rintro m st ⟨c, acc, h1, ido, hm, hcb, hce, hi, k1, ho, gc, go, hacc, hR1, hst⟩
  rw [hst]
  have rcc : ∀ c : Cur, rc c = .o 1 [.z (byt c.b) c.b.length, I c.p, I c.e] := fun _ => rfl
  have hl := hlt gc (rc_ne c)
  have hlo := hlt go (by simp)
  have hip := hi.p
  rw [hcb] at hip
  have hca : c.left = t.length - c.p := by unfold Cur.left; rw [if_pos hce, hcb]
  have gc' := gc
  rw [rcc] at gc'
  by_cases hz : c.left = 0
  · have hz' : decide ((c.p : Int) < t.length) = false := by simp; omega
    (simp +contextual -dsimp only [R8, evA, evB, ↓a_on_t, ↓a_on_f, ↓a_on_und, ↓a_cond_b, ↓reduceIte, Go.Ab.part, List.getD_cons_zero, List.getD_cons_succ, List.set_cons_zero, List.set_cons_succ, List.length_cons, List.length_nil, List.cons_append, List.nil_append, cond_true, cond_false, Bool.cond_true, reduceCtorEq, Option.map_some, Option.map_none, forall_const, ne_eq, implies_true, Nat.reduceAdd, Nat.reduceLeDiff, Nat.reduceLT, Nat.beq, Option.isNone_none, beq_self_eq_true, bne_self_eq_false, Int.reduceBEq, Int.reduceBNe, Int.reduceLT, Int.reduceLE, Int.reduceGT, Int.reduceGE, Int.reduceEq, Int.reduceNe, Int.reduceToNat, List.take_zero, List.drop_zero, List.all_cons, List.all_nil, List.append_nil, List.length_append, List.length_set, List.append_assoc, List.drop_nil, List.take_nil, gc', hz'] <;> try simp -dsimp only [if_conj])
    have e0 : uR t = (acc, 0) := by rw [hR1]; unfold unitAll; rw [if_pos hz]
    rw [e0] at hK
    exact hK _ _ k1 (.inr ⟨ido, rfl, go⟩)
  · have hz' : decide ((c.p : Int) < t.length) = true := by simp; omega
    have e0 := hR1.trans (unitAll_more hz)
    (simp +contextual -dsimp only [R8, evA, evB, ↓a_on_t, ↓a_on_f, ↓a_on_und, ↓a_cond_b, ↓reduceIte, Go.Ab.part, List.getD_cons_zero, List.getD_cons_succ, List.set_cons_zero, List.set_cons_succ, List.length_cons, List.length_nil, List.cons_append, List.nil_append, cond_true, cond_false, Bool.cond_true, reduceCtorEq, Option.map_some, Option.map_none, forall_const, ne_eq, implies_true, Nat.reduceAdd, Nat.reduceLeDiff, Nat.reduceLT, Nat.beq, Option.isNone_none, beq_self_eq_true, bne_self_eq_false, Int.reduceBEq, Int.reduceBNe, Int.reduceLT, Int.reduceLE, Int.reduceGT, Int.reduceGE, Int.reduceEq, Int.reduceNe, Int.reduceToNat, List.take_zero, List.drop_zero, List.all_cons, List.all_nil, List.append_nil, List.length_append, List.length_set, List.append_assoc, List.drop_nil, List.take_nil, gc', hz'] <;> try simp -dsimp only [if_conj])
    refine one_ok gc hi (by rw [hcb]; exact ht) fun h2 gr => ?_
    have gc2 := gr.get
    have go2 : h2.getD ido .dead = .o 8 (hds acc) := by rw [gr.keep _ hlo (by omega)]; exact go
    have kl1 := k1.len
    have k2 : Keeps h h2 := ⟨Nat.le_trans kl1 gr.len, fun {j} hj => by rw [gr.keep _ (by omega) (by omega)]; exact k1.get hj⟩
    have hnx := oneU_next hi
    generalize hu : oneU c = U1 at *
    obtain ⟨R, e, cc⟩ := U1
    simp only at gc2 hnx e0
    have lo2 := hlt go2 (by simp)
    by_cases e1 : e = 0
    · have e1' : (e != 0) = false := by simp [e1]
      rw [if_neg (by simp [e1])] at e0
      obtain ⟨n1, n2, n3, n4, n5, n6⟩ := hnx e1
      rw [n1] at gc2 e0
      have eA : (hds acc).take (acc.length * 8) = hds acc := List.take_of_length_le (by rw [hds_len]; exact Nat.le_refl _)
      have eS : hds acc ++ [I R.kind, Bo R.w, U R.ab, U R.sig, U R.ty, U R.off, U R.first, U R.fin] = hds (acc ++ [R]) := (rows_snoc (f := Hd.row) acc R).symm
      have hal := hds_len acc
      have go4 : ∀ o p, (h2 ++ [o, p]).getD ido .dead = .o 8 (hds acc) := fun o p => hget_app go2 (by simp)
      (simp +contextual -dsimp only [R8, evA, evB, ↓a_on_t, ↓a_on_f, ↓a_on_und, ↓a_cond_b, ↓reduceIte, Go.Ab.part, List.getD_cons_zero, List.getD_cons_succ, List.set_cons_zero, List.set_cons_succ, List.length_cons, List.length_nil, List.cons_append, List.nil_append, cond_true, cond_false, Bool.cond_true, reduceCtorEq, Option.map_some, Option.map_none, forall_const, ne_eq, implies_true, Nat.reduceAdd, Nat.reduceLeDiff, Nat.reduceLT, Nat.beq, Option.isNone_none, beq_self_eq_true, bne_self_eq_false, Int.reduceBEq, Int.reduceBNe, Int.reduceLT, Int.reduceLE, Int.reduceGT, Int.reduceGE, Int.reduceEq, Int.reduceNe, Int.reduceToNat, List.take_zero, List.drop_zero, List.all_cons, List.all_nil, List.append_nil, List.length_append, List.length_set, List.append_assoc, List.drop_nil, List.take_nil, Hd.row, e1', hget_new, hset_new, setAt, fill, et8', eA, go4, hget_new1, eS, List.append_assoc] <;> try simp -dsimp only [if_conj])
      have ka : ∀ a b p, Keeps h ((h2 ++ [a, b]).set ido .dead ++ [p]) := fun a b p => (k2.trans (Keeps.adds Adds.mk)).push (by omega)
      refine ⟨⟨by omega, by omega, by omega⟩, fun e3 => ?_, fun e3 => ?_⟩
      · rw [if_pos (by simp at e3; omega)] at e0
        rw [e0] at hK
        exact hK _ _ (ka _ _ _) (.inl ⟨rfl, rfl⟩)
      · rw [if_neg (by simp at e3; omega)] at e0
        have hcb2 : c.bd.2.1.left = c.b.length - c.bd.2.1.p := by unfold Cur.left; rw [if_pos n2, n5]
        refine ⟨m - 1, _, by omega, Weak.refl _ (by have := k2.len; simp; omega), c.bd.2.1, acc ++ [R], _, h2.length + 2, by rw [hcb2, hcb]; omega, by rw [n5, hcb], n2, n6, ka _ _ _, by have := k2.len; omega, ?_, ?_, by simp at e3 ⊢; omega, ?_, by rw [List.length_append]; rfl⟩
        · rw [List.getD_eq_getElem?_getD, List.getElem?_append_left (by have := hlt gc2 (rc_ne _); simp; omega), List.getElem?_set_ne (by omega), ← List.getD_eq_getElem?_getD]; exact hget_app gc2 (rc_ne _)
        · rw [show h2.length + 2 = ((h2 ++ [AO.o 1 [I R.kind, Bo R.w, U R.ab, U R.sig, U R.ty, U R.off, U R.first, U R.fin], AO.o 8 [I R.kind, Bo R.w, U R.ab, U R.sig, U R.ty, U R.off, U R.first, U R.fin]]).set ido .dead).length by simp]; exact hget_new
        · rw [show m - 1 + 1 = m by omega]; exact e0
    · have e1' : (e != 0) = true := by simp [e1]
      rw [if_pos e1] at e0
      rw [e0] at hK
      (simp +contextual -dsimp only [R8, evA, evB, ↓a_on_t, ↓a_on_f, ↓a_on_und, ↓a_cond_b, ↓reduceIte, Go.Ab.part, List.getD_cons_zero, List.getD_cons_succ, List.set_cons_zero, List.set_cons_succ, List.length_cons, List.length_nil, List.cons_append, List.nil_append, cond_true, cond_false, Bool.cond_true, reduceCtorEq, Option.map_some, Option.map_none, forall_const, ne_eq, implies_true, Nat.reduceAdd, Nat.reduceLeDiff, Nat.reduceLT, Nat.beq, Option.isNone_none, beq_self_eq_true, bne_self_eq_false, Int.reduceBEq, Int.reduceBNe, Int.reduceLT, Int.reduceLE, Int.reduceGT, Int.reduceGE, Int.reduceEq, Int.reduceNe, Int.reduceToNat, List.take_zero, List.drop_zero, List.all_cons, List.all_nil, List.append_nil, List.length_append, List.length_set, List.append_assoc, List.drop_nil, List.take_nil, Hd.row, e1', hget_new, hset_new, setAt] <;> try simp -dsimp only [if_conj])
      exact hK _ _ (k2.trans (Keeps.adds Adds.mk)) (.inl ⟨rfl, rfl⟩)
theorem told15_ok {l : List Hd} {r : AV} (hl : l.length ≤ 30000) (i : IsR Hd.row 8 l r h) (hK : ∀ h' r', Keeps h h' → IsR Hd.row 8 l r' h' → K.K r' h') : ACall X 10 [r] h K := by
  have hbig : (6000000 : Nat) ≤ bigRoom := by decide
  obtain ⟨id, h0, W, ad, g0⟩ := i.seen (X := X) [] [] (Nat.le_refl _)
  have g0 : h0.getD id .dead = .o 8 (hds l) := g0
  refine acall_weak W ad.len ?_
  have hl0 := hlt g0 (by simp)
  have hll := hds_len l
  apply i10
  (simp +contextual -dsimp only [R10, evA, evB, ↓a_on_t, ↓a_on_f, ↓a_on_und, ↓a_cond_b, ↓reduceIte, Go.Ab.part, List.getD_cons_zero, List.getD_cons_succ, List.set_cons_zero, List.set_cons_succ, List.length_cons, List.length_nil, List.cons_append, List.nil_append, cond_true, cond_false, Bool.cond_true, reduceCtorEq, Option.map_some, Option.map_none, forall_const, ne_eq, implies_true, Nat.reduceAdd, Nat.reduceLeDiff, Nat.reduceLT, Nat.beq, Option.isNone_none, beq_self_eq_true, bne_self_eq_false, Int.reduceBEq, Int.reduceBNe, Int.reduceLT, Int.reduceLE, Int.reduceGT, Int.reduceGE, Int.reduceEq, Int.reduceNe, Int.reduceToNat, List.take_zero, List.drop_zero, List.all_cons, List.all_nil, List.append_nil, List.length_append, List.length_set, List.append_assoc, List.drop_nil, List.take_nil] <;> try simp -dsimp only [if_conj])
  refine aloop (fun m st => ∃ n h1 ido, m + n = l.length ∧ Keeps h0 h1 ∧ h0.length ≤ ido ∧ h1.getD ido .dead = .o 8 (hds (l.take n)) ∧ st = ((sl st.1 0 :: sl st.1 1 :: sl st.1 2 :: .s ido 0 n :: sl st.1 4 :: sl st.1 5 :: .s id 0 l.length :: I l.length :: I n :: sl st.1 9 :: sl st.1 10 :: sl st.1 11 :: sl st.1 12 :: sl st.1 13 :: sl st.1 14 :: sl st.1 15 :: sl st.1 16 :: sl st.1 17 :: []), h1)) l.length
    ((.bad :: .bad :: .bad :: .s h0.length 0 0 :: .bad :: .bad :: .s id 0 l.length :: I l.length :: I 0 :: .bad :: .bad :: .bad :: .bad :: .bad :: .bad :: .bad :: .bad :: .bad :: []), h0 ++ [.o 8 []]) (Nat.le_refl _) (weak_nils (Nat.le_refl _) (by simp [NilOk])) ⟨0, _, h0.length, by omega, Keeps.adds Adds.mk, Nat.le_refl _, hget_new, rfl⟩ ?_
  rintro m st ⟨n, h1, ido, hm, k1, ho, g1, hst⟩
  rw [hst]
  have e1 := k1.at g0 (by simp)
  have lo := hlt g1 (by simp)
  by_cases hz : n < l.length
  · have hz' : decide ((n : Int) < l.length) = true := by simp; omega
    have hn1 : IntKind.i64.wrap ((n : Int) + 1) = ((n + 1 : Nat) : Int) := by rw [wrap_i64 (by omega) (by omega)]; rfl
    have tl : (hds (l.take n)).length = n * 8 := by rw [hds_len, List.length_take, Nat.min_eq_left (by omega)]
    have eA : (hds (l.take n)).take (n * 8) = hds (l.take n) := List.take_of_length_le (by omega)
    have hno : ¬ h1.length + 1 = ido := by omega
    have tr := hd_row hz
    have ts := take_snoc hz
    generalize l.getD n default = R at *
    have eS : hds (l.take n) ++ [I R.kind, Bo R.w, U R.ab, U R.sig, U R.ty, U R.off, U R.first, U R.fin] = hds (l.take (n + 1)) := by rw [ts]; exact (rows_snoc (f := Hd.row) _ R).symm
    have go2 : ∀ a b, (h1 ++ [a, b]).getD ido .dead = .o 8 (hds (l.take n)) := fun a b => hget_app g1 (by simp)
    (simp +contextual -dsimp only [R10, evA, evB, ↓a_on_t, ↓a_on_f, ↓a_on_und, ↓a_cond_b, ↓reduceIte, Go.Ab.part, List.getD_cons_zero, List.getD_cons_succ, List.set_cons_zero, List.set_cons_succ, List.length_cons, List.length_nil, List.cons_append, List.nil_append, cond_true, cond_false, Bool.cond_true, reduceCtorEq, Option.map_some, Option.map_none, forall_const, ne_eq, implies_true, Nat.reduceAdd, Nat.reduceLeDiff, Nat.reduceLT, Nat.beq, Option.isNone_none, beq_self_eq_true, bne_self_eq_false, Int.reduceBEq, Int.reduceBNe, Int.reduceLT, Int.reduceLE, Int.reduceGT, Int.reduceGE, Int.reduceEq, Int.reduceNe, Int.reduceToNat, List.take_zero, List.drop_zero, List.all_cons, List.all_nil, List.append_nil, List.length_append, List.length_set, List.append_assoc, List.drop_nil, List.take_nil, hz', e1, tr, Hd.row, hget_new, hset_new, setAt, fill, hn1, et8', eA, go2, hget_new1, List.append_assoc, eS] <;> try simp -dsimp only [if_conj])
    have kl := k1.len
    repeat' apply And.intro
    all_goals first | omega | skip
    refine ⟨m - 1, _, by omega, Weak.refl _ (by simp; omega), n + 1, _, h1.length + 2, by omega, (k1.trans (Keeps.adds Adds.mk)).push ho, by omega, ?_, rfl⟩
    rw [show h1.length + 2 = ((h1 ++ [AO.o 1 [I R.kind, Bo R.w, U R.ab, U R.sig, U R.ty, U R.off, U R.first, U R.fin], AO.o 8 [I R.kind, Bo R.w, U R.ab, U R.sig, U R.ty, U R.off, U R.first, U R.fin]]).set ido .dead).length by simp]
    exact hget_new
  · have hz' : decide ((n : Int) < l.length) = false := by simp; omega
    (simp +contextual -dsimp only [R10, evA, evB, ↓a_on_t, ↓a_on_f, ↓a_on_und, ↓a_cond_b, ↓reduceIte, Go.Ab.part, List.getD_cons_zero, List.getD_cons_succ, List.set_cons_zero, List.set_cons_succ, List.length_cons, List.length_nil, List.cons_append, List.nil_append, cond_true, cond_false, Bool.cond_true, reduceCtorEq, Option.map_some, Option.map_none, forall_const, ne_eq, implies_true, Nat.reduceAdd, Nat.reduceLeDiff, Nat.reduceLT, Nat.beq, Option.isNone_none, beq_self_eq_true, bne_self_eq_false, Int.reduceBEq, Int.reduceBNe, Int.reduceLT, Int.reduceLE, Int.reduceGT, Int.reduceGE, Int.reduceEq, Int.reduceNe, Int.reduceToNat, List.take_zero, List.drop_zero, List.all_cons, List.all_nil, List.append_nil, List.length_append, List.length_set, List.append_assoc, List.drop_nil, List.take_nil, hz'] <;> try simp -dsimp only [if_conj])
    have : n = l.length := by omega
    subst this
    rw [List.take_length] at g1
    exact hK _ _ ((Keeps.adds ad).trans k1) (.inr ⟨ido, rfl, g1⟩)
theorem same15_ok {l : List Hd} {ra rb : AV} (hl : l.length ≤ 30000) (ia : IsR Hd.row 8 l ra h) (ib : IsR Hd.row 8 l rb h) (hK : ∀ h', Keeps h h' → K.K (Bo true) h') : ACall X 9 [ra, rb] h K := by
  obtain ⟨id, h0, W, ad, g0⟩ := ia.seen (X := X) [] [rb] (Nat.le_refl _)
  have g0 : h0.getD id .dead = .o 8 (hds l) := g0
  refine acall_weak W ad.len ?_
  obtain ⟨jd, h1, W2, ad2, g1⟩ := (ib.keeps (Keeps.adds ad)).seen (X := X) [.s id 0 l.length] [] (Nat.le_refl _)
  have g1 : h1.getD jd .dead = .o 8 (hds l) := g1
  refine acall_weak W2 ad2.len ?_
  have g0 := ad2.get g0 (by simp)
  have hll := hds_len l
  apply i9
  (simp +contextual -dsimp only [R9, evA, evB, ↓a_on_t, ↓a_on_f, ↓a_on_und, ↓a_cond_b, ↓reduceIte, Go.Ab.part, List.getD_cons_zero, List.getD_cons_succ, List.set_cons_zero, List.set_cons_succ, List.length_cons, List.length_nil, List.cons_append, List.nil_append, cond_true, cond_false, Bool.cond_true, reduceCtorEq, Option.map_some, Option.map_none, forall_const, ne_eq, implies_true, Nat.reduceAdd, Nat.reduceLeDiff, Nat.reduceLT, Nat.beq, Option.isNone_none, beq_self_eq_true, bne_self_eq_false, Int.reduceBEq, Int.reduceBNe, Int.reduceLT, Int.reduceLE, Int.reduceGT, Int.reduceGE, Int.reduceEq, Int.reduceNe, Int.reduceToNat, List.take_zero, List.drop_zero, List.all_cons, List.all_nil, List.append_nil, List.length_append, List.length_set, List.append_assoc, List.drop_nil, List.take_nil] <;> try simp -dsimp only [if_conj])
  refine aloop (fun m st => ∃ n, m + n = l.length ∧ st = ((.s id 0 l.length :: .s jd 0 l.length :: sl st.1 2 :: sl st.1 3 :: sl st.1 4 :: I n :: sl st.1 6 :: sl st.1 7 :: sl st.1 8 :: sl st.1 9 :: sl st.1 10 :: sl st.1 11 :: sl st.1 12 :: sl st.1 13 :: sl st.1 14 :: sl st.1 15 :: sl st.1 16 :: sl st.1 17 :: sl st.1 18 :: sl st.1 19 :: sl st.1 20 :: sl st.1 21 :: sl st.1 22 :: sl st.1 23 :: sl st.1 24 :: sl st.1 25 :: []), h1)) l.length _ (Nat.le_refl _) (Weak.refl _ (Nat.le_refl _)) ⟨0, by omega, rfl⟩ ?_
  rintro m st ⟨n, hm, hst⟩
  rw [hst]
  by_cases hz : n < l.length
  · have hz' : decide ((n : Int) < l.length) = true := by simp; omega
    have hn1 : IntKind.i64.wrap ((n : Int) + 1) = ((n + 1 : Nat) : Int) := by rw [wrap_i64 (by omega) (by omega)]; rfl
    have tr := hd_row hz
    generalize l.getD n default = R at *
    (simp +contextual -dsimp only [R9, evA, evB, ↓a_on_t, ↓a_on_f, ↓a_on_und, ↓a_cond_b, ↓reduceIte, Go.Ab.part, List.getD_cons_zero, List.getD_cons_succ, List.set_cons_zero, List.set_cons_succ, List.length_cons, List.length_nil, List.cons_append, List.nil_append, cond_true, cond_false, Bool.cond_true, reduceCtorEq, Option.map_some, Option.map_none, forall_const, ne_eq, implies_true, Nat.reduceAdd, Nat.reduceLeDiff, Nat.reduceLT, Nat.beq, Option.isNone_none, beq_self_eq_true, bne_self_eq_false, Int.reduceBEq, Int.reduceBNe, Int.reduceLT, Int.reduceLE, Int.reduceGT, Int.reduceGE, Int.reduceEq, Int.reduceNe, Int.reduceToNat, List.take_zero, List.drop_zero, List.all_cons, List.all_nil, List.append_nil, List.length_append, List.length_set, List.append_assoc, List.drop_nil, List.take_nil, hz', g0, g1, tr, Hd.row, hn1] <;> try simp -dsimp only [if_conj])
    repeat' apply And.intro
    all_goals first | omega | exact ⟨m - 1, _, by omega, Weak.refl _ (Nat.le_refl _), n + 1, by omega, rfl⟩
  · have hz' : decide ((n : Int) < l.length) = false := by simp; omega
    (simp +contextual -dsimp only [R9, evA, evB, ↓a_on_t, ↓a_on_f, ↓a_on_und, ↓a_cond_b, ↓reduceIte, Go.Ab.part, List.getD_cons_zero, List.getD_cons_succ, List.set_cons_zero, List.set_cons_succ, List.length_cons, List.length_nil, List.cons_append, List.nil_append, cond_true, cond_false, Bool.cond_true, reduceCtorEq, Option.map_some, Option.map_none, forall_const, ne_eq, implies_true, Nat.reduceAdd, Nat.reduceLeDiff, Nat.reduceLT, Nat.beq, Option.isNone_none, beq_self_eq_true, bne_self_eq_false, Int.reduceBEq, Int.reduceBNe, Int.reduceLT, Int.reduceLE, Int.reduceGT, Int.reduceGE, Int.reduceEq, Int.reduceNe, Int.reduceToNat, List.take_zero, List.drop_zero, List.all_cons, List.all_nil, List.append_nil, List.length_append, List.length_set, List.append_assoc, List.drop_nil, List.take_nil, hz'] <;> try simp -dsimp only [if_conj])
    exact hK _ (Keeps.adds (ad.trans ad2))
/-- in which unit a place lies -/
def ofU : Nat → List Hd → Nat → Int
  | _, [], _ => -1
  | i, x :: l, o => if x.first ≤ o ∧ o < x.fin then i else ofU (i + 1) l o
theorem ofU_drop {l : List Hd} {n o : Nat} (h : n < l.length) : ofU n (l.drop n) o = if (l.getD n default).first ≤ o ∧ o < (l.getD n default).fin then (n : Int) else ofU (n + 1) (l.drop (n + 1)) o := by
  rw [List.drop_eq_getElem_cons h, List.getD_eq_getElem?_getD, List.getElem?_eq_getElem h]; rfl
theorem of1_ok {R : Hd} {o b : Nat} (g : h.getD b .dead = .o 1 [U o]) (hK : ∀ h', Keeps h h' → K.K (Bo (decide (R.first ≤ o ∧ o < R.fin))) h') : ACall X 25 [.g R.row, .p b 0] h K := by
  apply i25
  (simp +contextual -dsimp only [R25, evA, evB, ↓a_on_t, ↓a_on_f, ↓a_on_und, ↓a_cond_b, ↓reduceIte, Go.Ab.part, List.getD_cons_zero, List.getD_cons_succ, List.set_cons_zero, List.set_cons_succ, List.length_cons, List.length_nil, List.cons_append, List.nil_append, cond_true, cond_false, Bool.cond_true, reduceCtorEq, Option.map_some, Option.map_none, forall_const, ne_eq, implies_true, Nat.reduceAdd, Nat.reduceLeDiff, Nat.reduceLT, Nat.beq, Option.isNone_none, beq_self_eq_true, bne_self_eq_false, Int.reduceBEq, Int.reduceBNe, Int.reduceLT, Int.reduceLE, Int.reduceGT, Int.reduceGE, Int.reduceEq, Int.reduceNe, Int.reduceToNat, List.take_zero, List.drop_zero, List.all_cons, List.all_nil, List.append_nil, List.length_append, List.length_set, List.append_assoc, List.drop_nil, List.take_nil, Hd.row, hget_new, hget_app g] <;> try simp -dsimp only [if_conj])
  by_cases h1 : R.first ≤ o
  · have d1 : decide ((R.first : Int) ≤ o) = true := by simp; omega
    (simp +contextual -dsimp only [R25, evA, evB, ↓a_on_t, ↓a_on_f, ↓a_on_und, ↓a_cond_b, ↓reduceIte, Go.Ab.part, List.getD_cons_zero, List.getD_cons_succ, List.set_cons_zero, List.set_cons_succ, List.length_cons, List.length_nil, List.cons_append, List.nil_append, cond_true, cond_false, Bool.cond_true, reduceCtorEq, Option.map_some, Option.map_none, forall_const, ne_eq, implies_true, Nat.reduceAdd, Nat.reduceLeDiff, Nat.reduceLT, Nat.beq, Option.isNone_none, beq_self_eq_true, bne_self_eq_false, Int.reduceBEq, Int.reduceBNe, Int.reduceLT, Int.reduceLE, Int.reduceGT, Int.reduceGE, Int.reduceEq, Int.reduceNe, Int.reduceToNat, List.take_zero, List.drop_zero, List.all_cons, List.all_nil, List.append_nil, List.length_append, List.length_set, List.append_assoc, List.drop_nil, List.take_nil, d1] <;> try simp -dsimp only [if_conj])
    have : decide ((o : Int) < R.fin) = decide (R.first ≤ o ∧ o < R.fin) := by simp [h1]
    rw [this]
    exact hK _ (Keeps.adds Adds.mk)
  · have d1 : decide ((R.first : Int) ≤ o) = false := by simp; omega
    rw [decide_eq_false (fun h => h1 h.1)] at hK
    (simp +contextual -dsimp only [R25, evA, evB, ↓a_on_t, ↓a_on_f, ↓a_on_und, ↓a_cond_b, ↓reduceIte, Go.Ab.part, List.getD_cons_zero, List.getD_cons_succ, List.set_cons_zero, List.set_cons_succ, List.length_cons, List.length_nil, List.cons_append, List.nil_append, cond_true, cond_false, Bool.cond_true, reduceCtorEq, Option.map_some, Option.map_none, forall_const, ne_eq, implies_true, Nat.reduceAdd, Nat.reduceLeDiff, Nat.reduceLT, Nat.beq, Option.isNone_none, beq_self_eq_true, bne_self_eq_false, Int.reduceBEq, Int.reduceBNe, Int.reduceLT, Int.reduceLE, Int.reduceGT, Int.reduceGE, Int.reduceEq, Int.reduceNe, Int.reduceToNat, List.take_zero, List.drop_zero, List.all_cons, List.all_nil, List.append_nil, List.length_append, List.length_set, List.append_assoc, List.drop_nil, List.take_nil, d1] <;> try simp -dsimp only [if_conj])
    exact hK _ (Keeps.adds Adds.mk)
theorem uOf_ok {l : List Hd} {r : AV} {o : Nat} (hl : l.length ≤ 30000) (i : IsR Hd.row 8 l r h) (hK : ∀ h', Keeps h h' → K.K (I (ofU 0 l o)) h') : ACall X 11 [r, U o] h K := by
  apply i11
  (simp +contextual -dsimp only [R11, evA, evB, ↓a_on_t, ↓a_on_f, ↓a_on_und, ↓a_cond_b, ↓reduceIte, Go.Ab.part, List.getD_cons_zero, List.getD_cons_succ, List.set_cons_zero, List.set_cons_succ, List.length_cons, List.length_nil, List.cons_append, List.nil_append, cond_true, cond_false, Bool.cond_true, reduceCtorEq, Option.map_some, Option.map_none, forall_const, ne_eq, implies_true, Nat.reduceAdd, Nat.reduceLeDiff, Nat.reduceLT, Nat.beq, Option.isNone_none, beq_self_eq_true, bne_self_eq_false, Int.reduceBEq, Int.reduceBNe, Int.reduceLT, Int.reduceLE, Int.reduceGT, Int.reduceGE, Int.reduceEq, Int.reduceNe, Int.reduceToNat, List.take_zero, List.drop_zero, List.all_cons, List.all_nil, List.append_nil, List.length_append, List.length_set, List.append_assoc, List.drop_nil, List.take_nil] <;> try simp -dsimp only [if_conj])
  have k0 : Keeps h (h ++ [.o 1 [U o]]) := Keeps.adds Adds.mk
  have gb : (h ++ [AO.o 1 [U o]]).getD h.length .dead = .o 1 [U o] := hget_new
  have i0 := i.keeps k0
  have hbl : h.length < (h ++ [AO.o 1 [U o]]).length := by simp
  generalize hb : h.length = b at *
  generalize h ++ [AO.o 1 [U o]] = h1 at *
  obtain ⟨id, h2, W, ad, g0⟩ := i0.seen (X := X) [] [.f (.func 25) [] [.p b 0]] (Nat.le_refl _)
  have g0 : h2.getD id .dead = .o 8 (hds l) := g0
  refine acall_weak W ad.len ?_
  have gb2 := ad.get gb (by simp)
  have hll := hds_len l
  have ge := hds_len l
  apply i24
  (simp +contextual -dsimp only [R24, evA, evB, ↓a_on_t, ↓a_on_f, ↓a_on_und, ↓a_cond_b, ↓reduceIte, Go.Ab.part, List.getD_cons_zero, List.getD_cons_succ, List.set_cons_zero, List.set_cons_succ, List.length_cons, List.length_nil, List.cons_append, List.nil_append, cond_true, cond_false, Bool.cond_true, reduceCtorEq, Option.map_some, Option.map_none, forall_const, ne_eq, implies_true, Nat.reduceAdd, Nat.reduceLeDiff, Nat.reduceLT, Nat.beq, Option.isNone_none, beq_self_eq_true, bne_self_eq_false, Int.reduceBEq, Int.reduceBNe, Int.reduceLT, Int.reduceLE, Int.reduceGT, Int.reduceGE, Int.reduceEq, Int.reduceNe, Int.reduceToNat, List.take_zero, List.drop_zero, List.all_cons, List.all_nil, List.append_nil, List.length_append, List.length_set, List.append_assoc, List.drop_nil, List.take_nil] <;> try simp -dsimp only [if_conj])
  refine aloop (fun m st => ∃ n g, m + n = l.length ∧ Keeps h2 g ∧ ofU 0 l o = ofU n (l.drop n) o ∧ st = ((.s id 0 l.length :: .f (.func 25) [] [.p b 0] :: sl st.1 2 :: sl st.1 3 :: sl st.1 4 :: sl st.1 5 :: sl st.1 6 :: I l.length :: I n :: sl st.1 9 :: sl st.1 10 :: sl st.1 11 :: sl st.1 12 :: sl st.1 13 :: sl st.1 14 :: sl st.1 15 :: sl st.1 16 :: sl st.1 17 :: sl st.1 18 :: []), g)) l.length _ (Nat.le_refl _) (Weak.refl _ (Nat.le_refl _)) ⟨0, h2, by omega, Keeps.adds (Adds.refl _), rfl, rfl⟩ ?_
  rintro m st ⟨n, g, hm, hk, he, hst⟩
  rw [hst]
  by_cases hz : n < l.length
  · have hz' : decide ((n : Int) < l.length) = true := by simp; omega
    have hn1 : IntKind.i64.wrap ((n : Int) + 1) = ((n + 1 : Nat) : Int) := by rw [wrap_i64 (by omega) (by omega)]; rfl
    have tr := hd_row hz
    rw [ofU_drop hz] at he
    generalize l.getD n default = R at *
    have gg0 := (hk.get (hlt g0 (by simp))).trans g0
    have ggb := (hk.get (hlt gb2 (by simp))).trans gb2
    (simp +contextual -dsimp only [R24, evA, evB, ↓a_on_t, ↓a_on_f, ↓a_on_und, ↓a_cond_b, ↓reduceIte, Go.Ab.part, List.getD_cons_zero, List.getD_cons_succ, List.set_cons_zero, List.set_cons_succ, List.length_cons, List.length_nil, List.cons_append, List.nil_append, cond_true, cond_false, Bool.cond_true, reduceCtorEq, Option.map_some, Option.map_none, forall_const, ne_eq, implies_true, Nat.reduceAdd, Nat.reduceLeDiff, Nat.reduceLT, Nat.beq, Option.isNone_none, beq_self_eq_true, bne_self_eq_false, Int.reduceBEq, Int.reduceBNe, Int.reduceLT, Int.reduceLE, Int.reduceGT, Int.reduceGE, Int.reduceEq, Int.reduceNe, Int.reduceToNat, List.take_zero, List.drop_zero, List.all_cons, List.all_nil, List.append_nil, List.length_append, List.length_set, List.append_assoc, List.drop_nil, List.take_nil, hz', gg0, tr] <;> try simp -dsimp only [if_conj])
    refine ⟨by omega, by omega, of1_ok ggb ?_⟩
    intro h' hk'
    by_cases hin : R.first ≤ o ∧ o < R.fin
    · rw [if_pos hin] at he
      rw [decide_eq_true hin]
      (simp +contextual -dsimp only [R24, evA, evB, ↓a_on_t, ↓a_on_f, ↓a_on_und, ↓a_cond_b, ↓reduceIte, Go.Ab.part, List.getD_cons_zero, List.getD_cons_succ, List.set_cons_zero, List.set_cons_succ, List.length_cons, List.length_nil, List.cons_append, List.nil_append, cond_true, cond_false, Bool.cond_true, reduceCtorEq, Option.map_some, Option.map_none, forall_const, ne_eq, implies_true, Nat.reduceAdd, Nat.reduceLeDiff, Nat.reduceLT, Nat.beq, Option.isNone_none, beq_self_eq_true, bne_self_eq_false, Int.reduceBEq, Int.reduceBNe, Int.reduceLT, Int.reduceLE, Int.reduceGT, Int.reduceGE, Int.reduceEq, Int.reduceNe, Int.reduceToNat, List.take_zero, List.drop_zero, List.all_cons, List.all_nil, List.append_nil, List.length_append, List.length_set, List.append_assoc, List.drop_nil, List.take_nil] <;> try simp -dsimp only [if_conj])
      (simp +contextual -dsimp only [R11, evA, evB, ↓a_on_t, ↓a_on_f, ↓a_on_und, ↓a_cond_b, ↓reduceIte, Go.Ab.part, List.getD_cons_zero, List.getD_cons_succ, List.set_cons_zero, List.set_cons_succ, List.length_cons, List.length_nil, List.cons_append, List.nil_append, cond_true, cond_false, Bool.cond_true, reduceCtorEq, Option.map_some, Option.map_none, forall_const, ne_eq, implies_true, Nat.reduceAdd, Nat.reduceLeDiff, Nat.reduceLT, Nat.beq, Option.isNone_none, beq_self_eq_true, bne_self_eq_false, Int.reduceBEq, Int.reduceBNe, Int.reduceLT, Int.reduceLE, Int.reduceGT, Int.reduceGE, Int.reduceEq, Int.reduceNe, Int.reduceToNat, List.take_zero, List.drop_zero, List.all_cons, List.all_nil, List.append_nil, List.length_append, List.length_set, List.append_assoc, List.drop_nil, List.take_nil] <;> try simp -dsimp only [if_conj])
      rw [he] at hK
      exact hK _ (k0.trans ((Keeps.adds ad).trans (hk.trans hk')))
    · rw [if_neg hin] at he
      rw [decide_eq_false hin]
      (simp +contextual -dsimp only [R24, evA, evB, ↓a_on_t, ↓a_on_f, ↓a_on_und, ↓a_cond_b, ↓reduceIte, Go.Ab.part, List.getD_cons_zero, List.getD_cons_succ, List.set_cons_zero, List.set_cons_succ, List.length_cons, List.length_nil, List.cons_append, List.nil_append, cond_true, cond_false, Bool.cond_true, reduceCtorEq, Option.map_some, Option.map_none, forall_const, ne_eq, implies_true, Nat.reduceAdd, Nat.reduceLeDiff, Nat.reduceLT, Nat.beq, Option.isNone_none, beq_self_eq_true, bne_self_eq_false, Int.reduceBEq, Int.reduceBNe, Int.reduceLT, Int.reduceLE, Int.reduceGT, Int.reduceGE, Int.reduceEq, Int.reduceNe, Int.reduceToNat, List.take_zero, List.drop_zero, List.all_cons, List.all_nil, List.append_nil, List.length_append, List.length_set, List.append_assoc, List.drop_nil, List.take_nil, hn1] <;> try simp -dsimp only [if_conj])
      exact ⟨m - 1, _, by omega, Weak.refl _ (hk.trans hk').len, n + 1, h', by omega, hk.trans hk', he, rfl⟩
  · have hz' : decide ((n : Int) < l.length) = false := by simp; omega
    (simp +contextual -dsimp only [R24, evA, evB, ↓a_on_t, ↓a_on_f, ↓a_on_und, ↓a_cond_b, ↓reduceIte, Go.Ab.part, List.getD_cons_zero, List.getD_cons_succ, List.set_cons_zero, List.set_cons_succ, List.length_cons, List.length_nil, List.cons_append, List.nil_append, cond_true, cond_false, Bool.cond_true, reduceCtorEq, Option.map_some, Option.map_none, forall_const, ne_eq, implies_true, Nat.reduceAdd, Nat.reduceLeDiff, Nat.reduceLT, Nat.beq, Option.isNone_none, beq_self_eq_true, bne_self_eq_false, Int.reduceBEq, Int.reduceBNe, Int.reduceLT, Int.reduceLE, Int.reduceGT, Int.reduceGE, Int.reduceEq, Int.reduceNe, Int.reduceToNat, List.take_zero, List.drop_zero, List.all_cons, List.all_nil, List.append_nil, List.length_append, List.length_set, List.append_assoc, List.drop_nil, List.take_nil, hz'] <;> try simp -dsimp only [if_conj])
    have e1 : ofU n (l.drop n) o = -1 := by rw [List.drop_of_length_le (by omega)]; rfl
    rw [he, e1] at hK
    (simp +contextual -dsimp only [R11, evA, evB, ↓a_on_t, ↓a_on_f, ↓a_on_und, ↓a_cond_b, ↓reduceIte, Go.Ab.part, List.getD_cons_zero, List.getD_cons_succ, List.set_cons_zero, List.set_cons_succ, List.length_cons, List.length_nil, List.cons_append, List.nil_append, cond_true, cond_false, Bool.cond_true, reduceCtorEq, Option.map_some, Option.map_none, forall_const, ne_eq, implies_true, Nat.reduceAdd, Nat.reduceLeDiff, Nat.reduceLT, Nat.beq, Option.isNone_none, beq_self_eq_true, bne_self_eq_false, Int.reduceBEq, Int.reduceBNe, Int.reduceLT, Int.reduceLE, Int.reduceGT, Int.reduceGE, Int.reduceEq, Int.reduceNe, Int.reduceToNat, List.take_zero, List.drop_zero, List.all_cons, List.all_nil, List.append_nil, List.length_append, List.length_set, List.append_assoc, List.drop_nil, List.take_nil] <;> try simp -dsimp only [if_conj])
    exact hK _ (k0.trans ((Keeps.adds ad).trans hk))
end Go.Proofs.YtmjjfchahkdceaaDoor
