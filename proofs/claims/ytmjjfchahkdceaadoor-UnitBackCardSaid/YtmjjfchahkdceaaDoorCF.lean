import Derived.Test.YtmjjfchahkdceaaDoorCE
set_option linter.unusedVariables false
set_option linter.unusedSimpArgs false
set_option maxRecDepth 100000
set_option maxHeartbeats 1000000
namespace Go.Proofs.YtmjjfchahkdceaaDoor
open Go.Ab
variable {c : Cur} {h : Heap} {id : Nat} {K : Kt}
abbrev uR (t : List UInt8) : List Hd × Int := unitAll (t.length + 1) ⟨t, 0, 0⟩ []
abbrev hds (l : List Hd) : List AV := rows Hd.row l
theorem Keeps.set' {h h1 : Heap} {id : Nat} {o : AO} (k : Keeps h h1) (hid : h.length ≤ id) : Keeps h (h1.set id o) := ⟨by simpa using k.len, fun hj => by rw [hget_set_ne (by omega)]; exact k.get hj⟩
theorem bd_ne (hi : c.inv) (h : c.bd.2.2.e = 0) : c.p < c.bd.2.1.p ∧ c.bd.2.1.p ≤ c.b.length ∧ c.bd.2.1.e = 0 ∧ c.bd.2.1.b = c.b := by
  obtain ⟨a1, a2, a3, a4, a5, a6⟩ := bd_e0 hi h
  exact ⟨by omega, a4, a2, a5⟩
theorem uSize_le (k : Nat) (w : Bool) : uSize k w ≤ 40 := by
  unfold uSize lenW; split <;> (try split) <;> (try split) <;> omega
theorem uAll_ok {t : List UInt8} {x : AV} (ht : t.length ≤ 300000) (ix : IsB t x h) (hK : ∀ h' r, Keeps h h' → IsR Hd.row 8 (uR t).1 r h' → K.K (.t [r, I (uR t).2]) h') : ACall X 7 [x] h K := by
  have hbig : (6000000 : Nat) ≤ bigRoom := by decide
  apply i7
  (simp +contextual -dsimp only [R7, evA, evB, ↓a_on_t, ↓a_on_f, ↓a_on_und, ↓a_cond_b, ↓reduceIte, Go.Ab.part, List.getD_cons_zero, List.getD_cons_succ, List.set_cons_zero, List.set_cons_succ, List.length_cons, List.length_nil, List.cons_append, List.nil_append, cond_true, cond_false, Bool.cond_true, reduceCtorEq, Option.map_some, Option.map_none, forall_const, ne_eq, implies_true, Nat.reduceAdd, Nat.reduceLeDiff, Nat.reduceLT, Nat.beq, Option.isNone_none, beq_self_eq_true, bne_self_eq_false, Int.reduceBEq, Int.reduceBNe, Int.reduceLT, Int.reduceLE, Int.reduceGT, Int.reduceGE, Int.reduceEq, Int.reduceNe, Int.reduceToNat, List.take_zero, List.drop_zero, List.all_cons, List.all_nil, List.append_nil, List.length_append, List.length_set, List.append_assoc, List.drop_nil, List.take_nil] <;> try simp -dsimp only [if_conj])
  refine New_ok (l := t) (fun r => (ix.adds Adds.mk).src) (ix.ne (Nat.le_refl _)) (by omega) ?_
  (simp +contextual -dsimp only [R7, evA, evB, ↓a_on_t, ↓a_on_f, ↓a_on_und, ↓a_cond_b, ↓reduceIte, Go.Ab.part, List.getD_cons_zero, List.getD_cons_succ, List.set_cons_zero, List.set_cons_succ, List.length_cons, List.length_nil, List.cons_append, List.nil_append, cond_true, cond_false, Bool.cond_true, reduceCtorEq, Option.map_some, Option.map_none, forall_const, ne_eq, implies_true, Nat.reduceAdd, Nat.reduceLeDiff, Nat.reduceLT, Nat.beq, Option.isNone_none, beq_self_eq_true, bne_self_eq_false, Int.reduceBEq, Int.reduceBNe, Int.reduceLT, Int.reduceLE, Int.reduceGT, Int.reduceGE, Int.reduceEq, Int.reduceNe, Int.reduceToNat, List.take_zero, List.drop_zero, List.all_cons, List.all_nil, List.append_nil, List.length_append, List.length_set, List.append_assoc, List.drop_nil, List.take_nil] <;> try simp -dsimp only [if_conj])
  refine aloop (fun m st => ∃ (c : Cur) (acc : List Hd) (h1 : Heap) (ido : Nat), c.left ≤ m ∧ c.b = t ∧ c.e = 0 ∧ c.inv ∧ Keeps h h1 ∧ h.length ≤ ido ∧ ido ≠ h.length + 2 ∧ h1.getD (h.length + 2) .dead = cur c ∧ h1.getD ido .dead = .o 8 (hds acc) ∧ acc.length ≤ 60 ∧
      uR t = unitAll (m + 1) c acc ∧ st = ((sl st.1 0 :: sl st.1 1 :: sl st.1 2 :: sl st.1 3 :: .p (h.length + 2) 0 :: .s ido 0 acc.length :: sl st.1 6 :: sl st.1 7 :: sl st.1 8 :: sl st.1 9 :: sl st.1 10 :: sl st.1 11 :: sl st.1 12 :: sl st.1 13 :: sl st.1 14 :: sl st.1 15 :: sl st.1 16 :: sl st.1 17 :: sl st.1 18 :: sl st.1 19 :: sl st.1 20 :: sl st.1 21 :: sl st.1 22 :: sl st.1 23 :: sl st.1 24 :: sl st.1 25 :: sl st.1 26 :: sl st.1 27 :: sl st.1 28 :: sl st.1 29 :: sl st.1 30 :: sl st.1 31 :: sl st.1 32 :: sl st.1 33 :: sl st.1 34 :: sl st.1 35 :: sl st.1 36 :: sl st.1 37 :: sl st.1 38 :: sl st.1 39 :: sl st.1 40 :: sl st.1 41 :: sl st.1 42 :: sl st.1 43 :: sl st.1 44 :: sl st.1 45 :: sl st.1 46 :: sl st.1 47 :: sl st.1 48 :: sl st.1 49 :: sl st.1 50 :: sl st.1 51 :: sl st.1 52 :: sl st.1 53 :: sl st.1 54 :: sl st.1 55 :: sl st.1 56 :: sl st.1 57 :: sl st.1 58 :: sl st.1 59 :: []), h1)) t.length
    ((.bad :: .bad :: .bad :: .bad :: .p (h.length + 2) 0 :: .s (h ++ [.dead, .dead, cur ⟨t, 0, 0⟩]).length 0 0 :: .bad :: .bad :: .bad :: .bad :: .bad :: .bad :: .bad :: .bad :: .bad :: .bad :: .bad :: .bad :: .bad :: .bad :: .bad :: .bad :: .bad :: .bad :: .bad :: .bad :: .bad :: .bad :: .bad :: .bad :: .bad :: .bad :: .bad :: .bad :: .bad :: .bad :: .bad :: .bad :: .bad :: .bad :: .bad :: .bad :: .bad :: .bad :: .bad :: .bad :: .bad :: .bad :: .bad :: .bad :: .bad :: .bad :: .bad :: .bad :: .bad :: .bad :: .bad :: .bad :: .bad :: .bad :: []), (h ++ [.dead, .dead, cur ⟨t, 0, 0⟩]) ++ [.o 8 []]) (by simp) (weak_nils (by simp) (by simp [NilOk]))
    ⟨⟨t, 0, 0⟩, [], _, _, by simp [Cur.left], rfl, rfl, Cur.mki (Nat.zero_le _) (by show t.length < _; omega), Keeps.adds (Adds.mk.trans Adds.mk), by simp, by simp, ?_, hget_new, by simp, rfl, rfl⟩ ?_
  · rw [List.append_assoc]; exact hgets h 2 rfl
  rintro m st ⟨c, acc, h1, ido, hm, hcb, hce, hi, k1, ho, hoc, gc, go, hacc, hR1, hst⟩
  rw [hst]
  have hl := hlt gc (cur_ne c)
  have hlo := hlt go (by simp)
  have hip := hi.p
  rw [hcb] at hip
  have hu1 : IntKind.u64.wrap (c.p : Int) = (c.p : Int) := wrap_u64 (by omega) (by omega)
  have hca : c.left = t.length - c.p := by unfold Cur.left; rw [if_pos hce, hcb]
  (simp +contextual -dsimp only [R7, evA, evB, ↓a_on_t, ↓a_on_f, ↓a_on_und, ↓a_cond_b, ↓reduceIte, Go.Ab.part, List.getD_cons_zero, List.getD_cons_succ, List.set_cons_zero, List.set_cons_succ, List.length_cons, List.length_nil, List.cons_append, List.nil_append, cond_true, cond_false, Bool.cond_true, reduceCtorEq, Option.map_some, Option.map_none, forall_const, ne_eq, implies_true, Nat.reduceAdd, Nat.reduceLeDiff, Nat.reduceLT, Nat.beq, Option.isNone_none, beq_self_eq_true, bne_self_eq_false, Int.reduceBEq, Int.reduceBNe, Int.reduceLT, Int.reduceLE, Int.reduceGT, Int.reduceGE, Int.reduceEq, Int.reduceNe, Int.reduceToNat, List.take_zero, List.drop_zero, List.all_cons, List.all_nil, List.append_nil, List.length_append, List.length_set, List.append_assoc, List.drop_nil, List.take_nil] <;> try simp -dsimp only [if_conj])
  refine Left_ok gc hi ?_
  by_cases hz : c.left = 0
  · have hz' : decide ((c.left : Int) > 0) = false := by simp; omega
    (simp +contextual -dsimp only [R7, evA, evB, ↓a_on_t, ↓a_on_f, ↓a_on_und, ↓a_cond_b, ↓reduceIte, Go.Ab.part, List.getD_cons_zero, List.getD_cons_succ, List.set_cons_zero, List.set_cons_succ, List.length_cons, List.length_nil, List.cons_append, List.nil_append, cond_true, cond_false, Bool.cond_true, reduceCtorEq, Option.map_some, Option.map_none, forall_const, ne_eq, implies_true, Nat.reduceAdd, Nat.reduceLeDiff, Nat.reduceLT, Nat.beq, Option.isNone_none, beq_self_eq_true, bne_self_eq_false, Int.reduceBEq, Int.reduceBNe, Int.reduceLT, Int.reduceLE, Int.reduceGT, Int.reduceGE, Int.reduceEq, Int.reduceNe, Int.reduceToNat, List.take_zero, List.drop_zero, List.all_cons, List.all_nil, List.append_nil, List.length_append, List.length_set, List.append_assoc, List.drop_nil, List.take_nil, hz'] <;> try simp -dsimp only [if_conj])
    have e0 : uR t = (acc, 0) := by rw [hR1]; unfold unitAll; rw [if_pos hz]
    rw [e0] at hK
    exact hK _ _ k1 (.inr ⟨ido, rfl, go⟩)
  · have hz' : decide ((c.left : Int) > 0) = true := by simp; omega
    have e0 := hR1.trans (unitAll_more hz)
    (simp +contextual -dsimp only [R7, evA, evB, ↓a_on_t, ↓a_on_f, ↓a_on_und, ↓a_cond_b, ↓reduceIte, Go.Ab.part, List.getD_cons_zero, List.getD_cons_succ, List.set_cons_zero, List.set_cons_succ, List.length_cons, List.length_nil, List.cons_append, List.nil_append, cond_true, cond_false, Bool.cond_true, reduceCtorEq, Option.map_some, Option.map_none, forall_const, ne_eq, implies_true, Nat.reduceAdd, Nat.reduceLeDiff, Nat.reduceLT, Nat.beq, Option.isNone_none, beq_self_eq_true, bne_self_eq_false, Int.reduceBEq, Int.reduceBNe, Int.reduceLT, Int.reduceLE, Int.reduceGT, Int.reduceGE, Int.reduceEq, Int.reduceNe, Int.reduceToNat, List.take_zero, List.drop_zero, List.all_cons, List.all_nil, List.append_nil, List.length_append, List.length_set, List.append_assoc, List.drop_nil, List.take_nil, hz'] <;> try simp -dsimp only [if_conj])
    refine At_ok gc ?_
    (simp +contextual -dsimp only [R7, evA, evB, ↓a_on_t, ↓a_on_f, ↓a_on_und, ↓a_cond_b, ↓reduceIte, Go.Ab.part, List.getD_cons_zero, List.getD_cons_succ, List.set_cons_zero, List.set_cons_succ, List.length_cons, List.length_nil, List.cons_append, List.nil_append, cond_true, cond_false, Bool.cond_true, reduceCtorEq, Option.map_some, Option.map_none, forall_const, ne_eq, implies_true, Nat.reduceAdd, Nat.reduceLeDiff, Nat.reduceLT, Nat.beq, Option.isNone_none, beq_self_eq_true, bne_self_eq_false, Int.reduceBEq, Int.reduceBNe, Int.reduceLT, Int.reduceLE, Int.reduceGT, Int.reduceGE, Int.reduceEq, Int.reduceNe, Int.reduceToNat, List.take_zero, List.drop_zero, List.all_cons, List.all_nil, List.append_nil, List.length_append, List.length_set, List.append_assoc, List.drop_nil, List.take_nil, hu1] <;> try simp -dsimp only [if_conj])
    refine Body_ok gc hi (by rw [hcb]; omega) ?_
    have gc2 : (h1.set (h.length + 2) (cur c.bd.2.1) ++ [.dead, .dead, cur c.bd.2.2]).getD (h.length + 2) .dead = cur c.bd.2.1 := hget_app (hget_set hl) (cur_ne _)
    have gb2 : (h1.set (h.length + 2) (cur c.bd.2.1) ++ [.dead, .dead, cur c.bd.2.2]).getD (h1.length + 2) .dead = cur c.bd.2.2 := by
      rw [show h1.length = (h1.set (h.length + 2) (cur c.bd.2.1)).length by simp]; exact hgets _ 2 rfl
    have go2 : (h1.set (h.length + 2) (cur c.bd.2.1) ++ [.dead, .dead, cur c.bd.2.2]).getD ido .dead = .o 8 (hds acc) := hget_app (by rw [hget_set_ne (Ne.symm hoc)]; exact go) (by simp)
    have k2 : Keeps h (h1.set (h.length + 2) (cur c.bd.2.1) ++ [.dead, .dead, cur c.bd.2.2]) := (Keeps.set' k1 (by omega)).trans (Keeps.adds Adds.mk)
    have l2 : (h1.set (h.length + 2) (cur c.bd.2.1) ++ [.dead, .dead, cur c.bd.2.2]).length = h1.length + 3 := by simp
    generalize h1.set (h.length + 2) (cur c.bd.2.1) ++ [.dead, .dead, cur c.bd.2.2] = h2 at *
    have hbi := bd2_inv hi
    have kl1 := k1.len
    (simp +contextual -dsimp only [R7, evA, evB, ↓a_on_t, ↓a_on_f, ↓a_on_und, ↓a_cond_b, ↓reduceIte, Go.Ab.part, List.getD_cons_zero, List.getD_cons_succ, List.set_cons_zero, List.set_cons_succ, List.length_cons, List.length_nil, List.cons_append, List.nil_append, cond_true, cond_false, Bool.cond_true, reduceCtorEq, Option.map_some, Option.map_none, forall_const, ne_eq, implies_true, Nat.reduceAdd, Nat.reduceLeDiff, Nat.reduceLT, Nat.beq, Option.isNone_none, beq_self_eq_true, bne_self_eq_false, Int.reduceBEq, Int.reduceBNe, Int.reduceLT, Int.reduceLE, Int.reduceGT, Int.reduceGE, Int.reduceEq, Int.reduceNe, Int.reduceToNat, List.take_zero, List.drop_zero, List.all_cons, List.all_nil, List.append_nil, List.length_append, List.length_set, List.append_assoc, List.drop_nil, List.take_nil] <;> try simp -dsimp only [if_conj])
    refine Err_ok gb2 ?_
    by_cases e1 : c.bd.2.2.e = 0
    · have e1' : (c.bd.2.2.e != 0) = false := by simp [e1]
      obtain ⟨g1, g2, g3, g4⟩ := bd_ne hi e1
      (simp +contextual -dsimp only [R7, evA, evB, ↓a_on_t, ↓a_on_f, ↓a_on_und, ↓a_cond_b, ↓reduceIte, Go.Ab.part, List.getD_cons_zero, List.getD_cons_succ, List.set_cons_zero, List.set_cons_succ, List.length_cons, List.length_nil, List.cons_append, List.nil_append, cond_true, cond_false, Bool.cond_true, reduceCtorEq, Option.map_some, Option.map_none, forall_const, ne_eq, implies_true, Nat.reduceAdd, Nat.reduceLeDiff, Nat.reduceLT, Nat.beq, Option.isNone_none, beq_self_eq_true, bne_self_eq_false, Int.reduceBEq, Int.reduceBNe, Int.reduceLT, Int.reduceLE, Int.reduceGT, Int.reduceGE, Int.reduceEq, Int.reduceNe, Int.reduceToNat, List.take_zero, List.drop_zero, List.all_cons, List.all_nil, List.append_nil, List.length_append, List.length_set, List.append_assoc, List.drop_nil, List.take_nil, e1'] <;> try simp -dsimp only [if_conj])
      refine read_ok gb2 hbi fun h3 gr => ?_
      have gc3 : h3.getD (h.length + 2) .dead = cur c.bd.2.1 := by rw [gr.keep _ (by omega) (by omega)]; exact gc2
      have gb3 := gr.get
      have go3 : h3.getD ido .dead = .o 8 (hds acc) := by rw [gr.keep _ (by omega) (by omega)]; exact go2
      have k3 : Keeps h h3 := ⟨Nat.le_trans k2.len gr.len, fun {j} hj => by rw [gr.keep _ (by omega) (by omega)]; exact k2.get hj⟩
      have l3 := gr.len
      have hone : oneU c = if (hdRead c.bd.1 c.bd.2.2).c.e ≠ 0 then (default, (hdRead c.bd.1 c.bd.2.2).c.e, c.bd.2.1) else (⟨(hdRead c.bd.1 c.bd.2.2).kind, c.bd.1, (hdRead c.bd.1 c.bd.2.2).abbrev_, (hdRead c.bd.1 c.bd.2.2).sig, (hdRead c.bd.1 c.bd.2.2).type, c.p, c.p + uSize (hdRead c.bd.1 c.bd.2.2).kind c.bd.1, c.bd.2.1.p⟩, 0, c.bd.2.1) := by
        unfold oneU; rw [if_neg (by simp [e1])]
      generalize hdRead c.bd.1 c.bd.2.2 = R at *
      have gb4 : ∀ o, (h3 ++ [o]).getD (h1.length + 2) .dead = cur R.c := fun o => hget_app gb3 (cur_ne _)
      have gc4 : ∀ o, (h3 ++ [o]).getD (h.length + 2) .dead = cur c.bd.2.1 := fun o => hget_app gc3 (cur_ne _)
      (simp +contextual -dsimp only [R7, evA, evB, ↓a_on_t, ↓a_on_f, ↓a_on_und, ↓a_cond_b, ↓reduceIte, Go.Ab.part, List.getD_cons_zero, List.getD_cons_succ, List.set_cons_zero, List.set_cons_succ, List.length_cons, List.length_nil, List.cons_append, List.nil_append, cond_true, cond_false, Bool.cond_true, reduceCtorEq, Option.map_some, Option.map_none, forall_const, ne_eq, implies_true, Nat.reduceAdd, Nat.reduceLeDiff, Nat.reduceLT, Nat.beq, Option.isNone_none, beq_self_eq_true, bne_self_eq_false, Int.reduceBEq, Int.reduceBNe, Int.reduceLT, Int.reduceLE, Int.reduceGT, Int.reduceGE, Int.reduceEq, Int.reduceNe, Int.reduceToNat, List.take_zero, List.drop_zero, List.all_cons, List.all_nil, List.append_nil, List.length_append, List.length_set, List.append_assoc, List.drop_nil, List.take_nil, hget_new, hset_new, setAt, fill] <;> try simp -dsimp only [if_conj])
      refine Err_ok (gb4 _) ?_
      by_cases e2 : R.c.e = 0
      · have e2' : (R.c.e != 0) = false := by simp [e2]
        rw [if_neg (by simp [e2])] at hone
        (simp +contextual -dsimp only [R7, evA, evB, ↓a_on_t, ↓a_on_f, ↓a_on_und, ↓a_cond_b, ↓reduceIte, Go.Ab.part, List.getD_cons_zero, List.getD_cons_succ, List.set_cons_zero, List.set_cons_succ, List.length_cons, List.length_nil, List.cons_append, List.nil_append, cond_true, cond_false, Bool.cond_true, reduceCtorEq, Option.map_some, Option.map_none, forall_const, ne_eq, implies_true, Nat.reduceAdd, Nat.reduceLeDiff, Nat.reduceLT, Nat.beq, Option.isNone_none, beq_self_eq_true, bne_self_eq_false, Int.reduceBEq, Int.reduceBNe, Int.reduceLT, Int.reduceLE, Int.reduceGT, Int.reduceGE, Int.reduceEq, Int.reduceNe, Int.reduceToNat, List.take_zero, List.drop_zero, List.all_cons, List.all_nil, List.append_nil, List.length_append, List.length_set, List.append_assoc, List.drop_nil, List.take_nil, e2', hget_new] <;> try simp -dsimp only [if_conj])
        refine Size_ok ?_
        have hsz := uSize_le R.kind c.bd.1
        have hu2 : IntKind.u64.wrap ((uSize R.kind c.bd.1 : Nat) : Int) = (uSize R.kind c.bd.1 : Nat) := wrap_u64 (by omega) (by omega)
        have hu3 : IntKind.u64.wrap ((c.p : Int) + (uSize R.kind c.bd.1 : Nat)) = ((c.p + uSize R.kind c.bd.1 : Nat) : Int) := by rw [wrap_u64 (by omega) (by omega)]; omega
        have hu4 : IntKind.u64.wrap (c.bd.2.1.p : Int) = (c.bd.2.1.p : Nat) := wrap_u64 (by omega) (by rw [hcb] at g2; omega)
        (simp +contextual -dsimp only [R7, evA, evB, ↓a_on_t, ↓a_on_f, ↓a_on_und, ↓a_cond_b, ↓reduceIte, Go.Ab.part, List.getD_cons_zero, List.getD_cons_succ, List.set_cons_zero, List.set_cons_succ, List.length_cons, List.length_nil, List.cons_append, List.nil_append, cond_true, cond_false, Bool.cond_true, reduceCtorEq, Option.map_some, Option.map_none, forall_const, ne_eq, implies_true, Nat.reduceAdd, Nat.reduceLeDiff, Nat.reduceLT, Nat.beq, Option.isNone_none, beq_self_eq_true, bne_self_eq_false, Int.reduceBEq, Int.reduceBNe, Int.reduceLT, Int.reduceLE, Int.reduceGT, Int.reduceGE, Int.reduceEq, Int.reduceNe, Int.reduceToNat, List.take_zero, List.drop_zero, List.all_cons, List.all_nil, List.append_nil, List.length_append, List.length_set, List.append_assoc, List.drop_nil, List.take_nil, hu2, hu3] <;> try simp -dsimp only [if_conj])
        refine At_ok (gc4 _) ?_
        have et : ∀ a b c d e f g i : AV, List.take 8 [a, b, c, d, e, f, g, i] = [a, b, c, d, e, f, g, i] := fun _ _ _ _ _ _ _ _ => rfl
        have eA : (hds acc).take (acc.length * 8) = hds acc := List.take_of_length_le (by rw [rows_len Hd.row_len]; exact Nat.le_refl _)
        have go4 : ∀ o p, (h3 ++ [o, p]).getD ido .dead = .o 8 (hds acc) := fun o p => hget_app go3 (by simp)
        have eS : hds acc ++ [I R.kind, Bo c.bd.1, U R.abbrev_, U R.sig, U R.type, U c.p, U (c.p + uSize R.kind c.bd.1 : Nat), U c.bd.2.1.p] = hds (acc ++ [⟨R.kind, c.bd.1, R.abbrev_, R.sig, R.type, c.p, c.p + uSize R.kind c.bd.1, c.bd.2.1.p⟩]) := (rows_snoc (f := Hd.row) acc ⟨R.kind, c.bd.1, R.abbrev_, R.sig, R.type, c.p, c.p + uSize R.kind c.bd.1, c.bd.2.1.p⟩).symm
        have hal : (hds acc).length = acc.length * 8 := rows_len Hd.row_len acc
        (simp +contextual -dsimp only [R7, evA, evB, ↓a_on_t, ↓a_on_f, ↓a_on_und, ↓a_cond_b, ↓reduceIte, Go.Ab.part, List.getD_cons_zero, List.getD_cons_succ, List.set_cons_zero, List.set_cons_succ, List.length_cons, List.length_nil, List.cons_append, List.nil_append, cond_true, cond_false, Bool.cond_true, reduceCtorEq, Option.map_some, Option.map_none, forall_const, ne_eq, implies_true, Nat.reduceAdd, Nat.reduceLeDiff, Nat.reduceLT, Nat.beq, Option.isNone_none, beq_self_eq_true, bne_self_eq_false, Int.reduceBEq, Int.reduceBNe, Int.reduceLT, Int.reduceLE, Int.reduceGT, Int.reduceGE, Int.reduceEq, Int.reduceNe, Int.reduceToNat, List.take_zero, List.drop_zero, List.all_cons, List.all_nil, List.append_nil, List.length_append, List.length_set, List.append_assoc, List.drop_nil, List.take_nil, hu3, hu4, hget_new, hset_new, setAt, et, eA, List.append_assoc, go4, hget_new1, eS] <;> try simp -dsimp only [if_conj])
        rw [hone, if_neg (by simp)] at e0
        have ka : ∀ a b p, Keeps h ((h3 ++ [a, b]).set ido .dead ++ [p]) := fun a b p => (k3.trans (Keeps.adds Adds.mk)).push ho
        refine ⟨⟨by omega, by omega, by omega⟩, fun e3 => ?_, fun e3 => ?_⟩
        · rw [if_pos (by simp at e3; omega)] at e0
          rw [e0] at hK
          exact hK _ _ (ka _ _ _) (.inl ⟨rfl, rfl⟩)
        · rw [if_neg (by simp at e3; omega)] at e0
          have hcb2 : c.bd.2.1.left = c.b.length - c.bd.2.1.p := by unfold Cur.left; rw [if_pos g3, g4]
          refine ⟨m - 1, _, by omega, Weak.refl _ (by simp; omega), c.bd.2.1, acc ++ [⟨R.kind, c.bd.1, R.abbrev_, R.sig, R.type, c.p, c.p + uSize R.kind c.bd.1, c.bd.2.1.p⟩], _, h3.length + 2, by rw [hcb2, hcb]; omega, by rw [g4, hcb], g3, bd_inv hi, ka _ _ _, by omega, by omega, ?_, ?_, by simp at e3 ⊢; omega, ?_, by rw [List.length_append]; rfl⟩
          · rw [List.getD_eq_getElem?_getD, List.getElem?_append_left (by simp; omega), List.getElem?_set_ne hoc, ← List.getD_eq_getElem?_getD]; exact hget_app gc3 (cur_ne _)
          · rw [show h3.length + 2 = ((h3 ++ [AO.o 1 [I R.kind, Bo c.bd.1, U R.abbrev_, U R.sig, U R.type, U c.p, U (c.p + uSize R.kind c.bd.1 : Nat), U c.bd.2.1.p], AO.o 8 [I R.kind, Bo c.bd.1, U R.abbrev_, U R.sig, U R.type, U c.p, U (c.p + uSize R.kind c.bd.1 : Nat), U c.bd.2.1.p]]).set ido .dead).length by simp]; exact hget_new
          · rw [show m - 1 + 1 = m by omega]; exact e0
      · have e2' : (R.c.e != 0) = true := by simp [e2]
        rw [if_pos e2] at hone
        rw [if_pos (by rw [hone]; exact e2), hone] at e0
        (simp +contextual -dsimp only [R7, evA, evB, ↓a_on_t, ↓a_on_f, ↓a_on_und, ↓a_cond_b, ↓reduceIte, Go.Ab.part, List.getD_cons_zero, List.getD_cons_succ, List.set_cons_zero, List.set_cons_succ, List.length_cons, List.length_nil, List.cons_append, List.nil_append, cond_true, cond_false, Bool.cond_true, reduceCtorEq, Option.map_some, Option.map_none, forall_const, ne_eq, implies_true, Nat.reduceAdd, Nat.reduceLeDiff, Nat.reduceLT, Nat.beq, Option.isNone_none, beq_self_eq_true, bne_self_eq_false, Int.reduceBEq, Int.reduceBNe, Int.reduceLT, Int.reduceLE, Int.reduceGT, Int.reduceGE, Int.reduceEq, Int.reduceNe, Int.reduceToNat, List.take_zero, List.drop_zero, List.all_cons, List.all_nil, List.append_nil, List.length_append, List.length_set, List.append_assoc, List.drop_nil, List.take_nil, e2'] <;> try simp -dsimp only [if_conj])
        rw [e0] at hK
        exact hK _ _ (k3.trans (Keeps.adds Adds.mk)) (.inl ⟨rfl, rfl⟩)
    · have e1' : (c.bd.2.2.e != 0) = true := by simp [e1]
      have hone : oneU c = (default, c.bd.2.2.e, c.bd.2.1) := by unfold oneU; rw [if_pos e1]
      rw [if_pos (by rw [hone]; exact e1), hone] at e0
      (simp +contextual -dsimp only [R7, evA, evB, ↓a_on_t, ↓a_on_f, ↓a_on_und, ↓a_cond_b, ↓reduceIte, Go.Ab.part, List.getD_cons_zero, List.getD_cons_succ, List.set_cons_zero, List.set_cons_succ, List.length_cons, List.length_nil, List.cons_append, List.nil_append, cond_true, cond_false, Bool.cond_true, reduceCtorEq, Option.map_some, Option.map_none, forall_const, ne_eq, implies_true, Nat.reduceAdd, Nat.reduceLeDiff, Nat.reduceLT, Nat.beq, Option.isNone_none, beq_self_eq_true, bne_self_eq_false, Int.reduceBEq, Int.reduceBNe, Int.reduceLT, Int.reduceLE, Int.reduceGT, Int.reduceGE, Int.reduceEq, Int.reduceNe, Int.reduceToNat, List.take_zero, List.drop_zero, List.all_cons, List.all_nil, List.append_nil, List.length_append, List.length_set, List.append_assoc, List.drop_nil, List.take_nil, e1'] <;> try simp -dsimp only [if_conj])
      rw [e0] at hK
      exact hK _ _ k2 (.inl ⟨rfl, rfl⟩)
end Go.Proofs.YtmjjfchahkdceaaDoor
