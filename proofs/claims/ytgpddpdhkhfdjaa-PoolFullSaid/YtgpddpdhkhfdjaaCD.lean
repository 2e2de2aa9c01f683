import Derived.Test.YtgpddpdhkhfdjaaCC
set_option linter.unusedVariables false
set_option linter.unusedSimpArgs false
set_option maxRecDepth 100000
namespace Go.Proofs.Ytgpddpdhkhfdjaa
open Go.Ab
variable {c : Cur} {h : Heap} {id : Nat} {K : Kt}

theorem nTake_ok {x : AV} (hx : Nob h x) (hK : K.K (.v (.string (mkStr []))) h) : ACall X 27 [x] h K := by
  apply i27
  (simp +contextual -dsimp only [R27, evA, evB, ↓a_on_t, ↓a_on_f, ↓a_on_und, ↓a_cond_b, ↓reduceIte, Go.Ab.part, List.getD_cons_zero, List.getD_cons_succ, List.set_cons_zero, List.set_cons_succ, List.length_cons, List.length_nil, List.cons_append, List.nil_append, cond_true, cond_false, Bool.cond_true, reduceCtorEq, Option.map_some, Option.map_none, forall_const, ne_eq, implies_true, Nat.reduceAdd, Nat.reduceLeDiff, Nat.reduceLT, Nat.beq, Option.isNone_none, beq_self_eq_true, bne_self_eq_false, Int.reduceBEq, Int.reduceBNe, Int.reduceLT, Int.reduceLE, Int.reduceGT, Int.reduceGE, Int.reduceEq, Int.reduceNe, Int.reduceToNat, List.take_zero, List.drop_zero, List.all_cons, List.all_nil, List.append_nil, List.length_append, List.length_set, List.append_assoc, List.drop_nil, List.take_nil] <;> try simp -dsimp only [if_conj])
  refine nErr_ok hx ?_
  (simp +contextual -dsimp only [R27, evA, evB, ↓a_on_t, ↓a_on_f, ↓a_on_und, ↓a_cond_b, ↓reduceIte, Go.Ab.part, List.getD_cons_zero, List.getD_cons_succ, List.set_cons_zero, List.set_cons_succ, List.length_cons, List.length_nil, List.cons_append, List.nil_append, cond_true, cond_false, Bool.cond_true, reduceCtorEq, Option.map_some, Option.map_none, forall_const, ne_eq, implies_true, Nat.reduceAdd, Nat.reduceLeDiff, Nat.reduceLT, Nat.beq, Option.isNone_none, beq_self_eq_true, bne_self_eq_false, Int.reduceBEq, Int.reduceBNe, Int.reduceLT, Int.reduceLE, Int.reduceGT, Int.reduceGE, Int.reduceEq, Int.reduceNe, Int.reduceToNat, List.take_zero, List.drop_zero, List.all_cons, List.all_nil, List.append_nil, List.length_append, List.length_set, List.append_assoc, List.drop_nil, List.take_nil] <;> try simp -dsimp only [if_conj])
  exact hK
theorem rTake_ok (hid : h.getD id .dead = rc c) (hi : c.inv) (hK : K.K (.v (.string (mkStr c.str.1))) (h.set id (rc c.str.2))) : ACall X 30 [.p id 0] h K := by
  have hl := hlt hid (rc_ne c)
  have b1 := hi.p
  have b2 := hi.b
  apply i30
  unfold Cur.str at hK
  obtain ⟨b, p, e⟩ := c
  by_cases e0 : e = 0
  · subst e0
    rw [if_neg (by simp)] at hK
    simp only at b1 b2 hK
    have htl := txt_le (b.drop p)
    rw [List.length_drop] at htl
    (simp +contextual -dsimp only [R30, evA, evB, ↓a_on_t, ↓a_on_f, ↓a_on_und, ↓a_cond_b, ↓reduceIte, Go.Ab.part, List.getD_cons_zero, List.getD_cons_succ, List.set_cons_zero, List.set_cons_succ, List.length_cons, List.length_nil, List.cons_append, List.nil_append, cond_true, cond_false, Bool.cond_true, reduceCtorEq, Option.map_some, Option.map_none, forall_const, ne_eq, implies_true, Nat.reduceAdd, Nat.reduceLeDiff, Nat.reduceLT, Nat.beq, Option.isNone_none, beq_self_eq_true, bne_self_eq_false, Int.reduceBEq, Int.reduceBNe, Int.reduceLT, Int.reduceLE, Int.reduceGT, Int.reduceGE, Int.reduceEq, Int.reduceNe, Int.reduceToNat, List.take_zero, List.drop_zero, List.all_cons, List.all_nil, List.append_nil, List.length_append, List.length_set, List.append_assoc, List.drop_nil, List.take_nil, hid, rc] <;> try simp -dsimp only [if_conj])
    refine aloop (fun m st => ∃ n, m + n = b.length - p ∧ n ≤ (txt (b.drop p)).length ∧ st = ((.p id 0 :: sl st.1 1 :: sl st.1 2 :: I ((p + n : Nat) : Int) :: sl st.1 4 :: sl st.1 5 :: sl st.1 6 :: sl st.1 7 :: sl st.1 8 :: sl st.1 9 :: sl st.1 10 :: sl st.1 11 :: sl st.1 12 :: sl st.1 13 :: sl st.1 14 :: sl st.1 15 :: sl st.1 16 :: sl st.1 17 :: sl st.1 18 :: sl st.1 19 :: sl st.1 20 :: sl st.1 21 :: sl st.1 22 :: sl st.1 23 :: sl st.1 24 :: sl st.1 25 :: sl st.1 26 :: sl st.1 27 :: sl st.1 28 :: sl st.1 29 :: sl st.1 30 :: sl st.1 31 :: sl st.1 32 :: sl st.1 33 :: sl st.1 34 :: sl st.1 35 :: sl st.1 36 :: sl st.1 37 :: sl st.1 38 :: sl st.1 39 :: sl st.1 40 :: sl st.1 41 :: sl st.1 42 :: sl st.1 43 :: sl st.1 44 :: sl st.1 45 :: sl st.1 46 :: sl st.1 47 :: sl st.1 48 :: sl st.1 49 :: sl st.1 50 :: sl st.1 51 :: sl st.1 52 :: sl st.1 53 :: sl st.1 54 :: sl st.1 55 :: sl st.1 56 :: sl st.1 57 :: sl st.1 58 :: sl st.1 59 :: sl st.1 60 :: sl st.1 61 :: sl st.1 62 :: sl st.1 63 :: sl st.1 64 :: sl st.1 65 :: sl st.1 66 :: sl st.1 67 :: sl st.1 68 :: sl st.1 69 :: []), h)) (b.length - p) _ (Nat.le_refl _) (Weak.refl _ (Nat.le_refl _)) ⟨0, by omega, by omega, rfl⟩ ?_
    rintro m st ⟨n, hm, hn, hst⟩
    rw [hst]
    have hbd : (b.drop p).getD n 0 = b.getD (p + n) 0 := by rw [List.getD_eq_getElem?_getD, List.getD_eq_getElem?_getD, List.getElem?_drop]
    have hs1 : IntKind.i64.wrap (((p + n : Nat) : Int) - p) = n := by rw [wrap_i64 (by omega) (by omega)]; omega
    have exit : n = (txt (b.drop p)).length → b.length ≤ p + n ∨ b.getD (p + n) 0 = 0 := fun e1 => by
      rcases Nat.lt_or_ge (p + n) b.length with h | h
      · exact .inr (hbd.symm.trans (e1 ▸ txt_stop (b.drop p) (by rw [List.length_drop]; omega)))
      · exact .inl h
    by_cases hz : p + n < b.length
    · have hz' : decide (((p + n : Nat) : Int) < b.length) = true := by simp; omega
      have hn1 : IntKind.i64.wrap (((p + n : Nat) : Int) + 1) = ((p + n + 1 : Nat) : Int) := by rw [wrap_i64 (by omega) (by omega)]; omega
      have hz2 : (((p + n : Nat) : Int) == b.length) = false := beq_eq_false_iff_ne.mpr (by omega)
      have hx := (b.getD (p + n) 0).toNat_lt
      by_cases h0 : b.getD (p + n) 0 = 0
      · have hn2 : n = (txt (b.drop p)).length := by
          rcases Nat.lt_or_ge n (txt (b.drop p)).length with h | h
          · exact absurd (hbd.trans h0) (txt_go _ _ h)
          · omega
        have h0' : ((((b.getD (p + n) 0).toNat : Int)) != 0) = false := by rw [h0]; rfl
        rw [if_neg (by omega)] at hK
        have hlt2 : (p + n : Nat) < b.length := hz
        by_cases hg : n ≤ 200
        · rw [if_neg (by omega)] at hK
          have hg' : decide ((n : Int) > 200) = false := by simp; omega
          have eT : ((byt b).drop p).take (txt (b.drop p)).length = byt (txt (b.drop p)) := by
            rw [byt_drop, byt_take, txt_take]
          have eL : p + n - p = (txt (b.drop p)).length := by omega
          (simp +contextual -dsimp only [R30, evA, evB, ↓a_on_t, ↓a_on_f, ↓a_on_und, ↓a_cond_b, ↓reduceIte, Go.Ab.part, List.getD_cons_zero, List.getD_cons_succ, List.set_cons_zero, List.set_cons_succ, List.length_cons, List.length_nil, List.cons_append, List.nil_append, cond_true, cond_false, Bool.cond_true, reduceCtorEq, Option.map_some, Option.map_none, forall_const, ne_eq, implies_true, Nat.reduceAdd, Nat.reduceLeDiff, Nat.reduceLT, Nat.beq, Option.isNone_none, beq_self_eq_true, bne_self_eq_false, Int.reduceBEq, Int.reduceBNe, Int.reduceLT, Int.reduceLE, Int.reduceGT, Int.reduceGE, Int.reduceEq, Int.reduceNe, Int.reduceToNat, List.take_zero, List.drop_zero, List.all_cons, List.all_nil, List.append_nil, List.length_append, List.length_set, List.append_assoc, List.drop_nil, List.take_nil, hid, rc, hz', byt_getD hlt2, h0', hz2, hs1, hg', eT, eL, hn1] <;> try simp -dsimp only [if_conj])
          rw [← hn2] at hK
          exact ⟨⟨by omega, by omega, by omega⟩, by omega, ⟨.inl trivial, by omega, by omega, by omega⟩, hK⟩
        · rw [if_pos (by omega)] at hK
          have hg' : decide ((n : Int) > 200) = true := by simp; omega
          (simp +contextual -dsimp only [R30, evA, evB, ↓a_on_t, ↓a_on_f, ↓a_on_und, ↓a_cond_b, ↓reduceIte, Go.Ab.part, List.getD_cons_zero, List.getD_cons_succ, List.set_cons_zero, List.set_cons_succ, List.length_cons, List.length_nil, List.cons_append, List.nil_append, cond_true, cond_false, Bool.cond_true, reduceCtorEq, Option.map_some, Option.map_none, forall_const, ne_eq, implies_true, Nat.reduceAdd, Nat.reduceLeDiff, Nat.reduceLT, Nat.beq, Option.isNone_none, beq_self_eq_true, bne_self_eq_false, Int.reduceBEq, Int.reduceBNe, Int.reduceLT, Int.reduceLE, Int.reduceGT, Int.reduceGE, Int.reduceEq, Int.reduceNe, Int.reduceToNat, List.take_zero, List.drop_zero, List.all_cons, List.all_nil, List.append_nil, List.length_append, List.length_set, List.append_assoc, List.drop_nil, List.take_nil, hid, rc, hz', byt_getD hlt2, h0', hz2, hs1, hg'] <;> try simp -dsimp only [if_conj])
          exact ⟨⟨by omega, by omega, by omega⟩, by omega, hK⟩
      · have h0' : ((((b.getD (p + n) 0).toNat : Int)) != 0) = true := by
          have : (b.getD (p + n) 0).toNat ≠ 0 := fun e => h0 (by rw [← UInt8.toNat_inj]; simpa using e)
          exact bne_iff_ne.mpr (by omega)
        have hn2 : n < (txt (b.drop p)).length := by
          rcases Nat.lt_or_ge n (txt (b.drop p)).length with h | h
          · exact h
          · rcases exit (by omega) with e | e
            · omega
            · exact absurd e h0
        (simp +contextual -dsimp only [R30, evA, evB, ↓a_on_t, ↓a_on_f, ↓a_on_und, ↓a_cond_b, ↓reduceIte, Go.Ab.part, List.getD_cons_zero, List.getD_cons_succ, List.set_cons_zero, List.set_cons_succ, List.length_cons, List.length_nil, List.cons_append, List.nil_append, cond_true, cond_false, Bool.cond_true, reduceCtorEq, Option.map_some, Option.map_none, forall_const, ne_eq, implies_true, Nat.reduceAdd, Nat.reduceLeDiff, Nat.reduceLT, Nat.beq, Option.isNone_none, beq_self_eq_true, bne_self_eq_false, Int.reduceBEq, Int.reduceBNe, Int.reduceLT, Int.reduceLE, Int.reduceGT, Int.reduceGE, Int.reduceEq, Int.reduceNe, Int.reduceToNat, List.take_zero, List.drop_zero, List.all_cons, List.all_nil, List.append_nil, List.length_append, List.length_set, List.append_assoc, List.drop_nil, List.take_nil, hid, rc, hz', byt_getD hz, h0', hn1] <;> try simp -dsimp only [if_conj])
        exact ⟨⟨by omega, by omega, by omega⟩, by omega, m - 1, _, by omega, Weak.refl _ (Nat.le_refl _), n + 1, by omega, by omega, rfl⟩
    · have hz' : decide (((p + n : Nat) : Int) < b.length) = false := by simp; omega
      have hz2 : (((p + n : Nat) : Int) == b.length) = true := beq_iff_eq.mpr (by omega)
      rw [if_pos (by omega)] at hK
      (simp +contextual -dsimp only [R30, evA, evB, ↓a_on_t, ↓a_on_f, ↓a_on_und, ↓a_cond_b, ↓reduceIte, Go.Ab.part, List.getD_cons_zero, List.getD_cons_succ, List.set_cons_zero, List.set_cons_succ, List.length_cons, List.length_nil, List.cons_append, List.nil_append, cond_true, cond_false, Bool.cond_true, reduceCtorEq, Option.map_some, Option.map_none, forall_const, ne_eq, implies_true, Nat.reduceAdd, Nat.reduceLeDiff, Nat.reduceLT, Nat.beq, Option.isNone_none, beq_self_eq_true, bne_self_eq_false, Int.reduceBEq, Int.reduceBNe, Int.reduceLT, Int.reduceLE, Int.reduceGT, Int.reduceGE, Int.reduceEq, Int.reduceNe, Int.reduceToNat, List.take_zero, List.drop_zero, List.all_cons, List.all_nil, List.append_nil, List.length_append, List.length_set, List.append_assoc, List.drop_nil, List.take_nil, hid, rc, hz', hz2] <;> try simp -dsimp only [if_conj])
      exact hK
  · have e' : (e != 0) = true := by simp [e0]
    rw [if_pos e0, hset_self hid] at hK
    (simp +contextual -dsimp only [R30, evA, evB, ↓a_on_t, ↓a_on_f, ↓a_on_und, ↓a_cond_b, ↓reduceIte, Go.Ab.part, List.getD_cons_zero, List.getD_cons_succ, List.set_cons_zero, List.set_cons_succ, List.length_cons, List.length_nil, List.cons_append, List.nil_append, cond_true, cond_false, Bool.cond_true, reduceCtorEq, Option.map_some, Option.map_none, forall_const, ne_eq, implies_true, Nat.reduceAdd, Nat.reduceLeDiff, Nat.reduceLT, Nat.beq, Option.isNone_none, beq_self_eq_true, bne_self_eq_false, Int.reduceBEq, Int.reduceBNe, Int.reduceLT, Int.reduceLE, Int.reduceGT, Int.reduceGE, Int.reduceEq, Int.reduceNe, Int.reduceToNat, List.take_zero, List.drop_zero, List.all_cons, List.all_nil, List.append_nil, List.length_append, List.length_set, List.append_assoc, List.drop_nil, List.take_nil, hid, rc, e'] <;> try simp -dsimp only [if_conj])
    exact hK
theorem At_ok' {t : List UInt8} {o : Nat} (ht : t.length ≤ 30000) (ho : o < 18446744073709551616) (hK : ∀ h', Keeps h h' → K.K (.t [.v (.string (mkStr (atS t o).1)), I (atS t o).2]) h') : ACall X 19 [.z (byt t) t.length, U o] h K := by
  have hbig : (600000 : Nat) ≤ bigRoom := by decide
  have hw : IntKind.u64.wrap (t.length : Int) = t.length := wrap_u64 (by omega) (by omega)
  apply i19
  unfold atS at hK
  by_cases e : t.length ≤ o
  · rw [if_pos e] at hK
    have e' : decide ((o : Int) ≥ t.length) = true := by simp; omega
    (simp +contextual -dsimp only [R19, evA, evB, ↓a_on_t, ↓a_on_f, ↓a_on_und, ↓a_cond_b, ↓reduceIte, Go.Ab.part, List.getD_cons_zero, List.getD_cons_succ, List.set_cons_zero, List.set_cons_succ, List.length_cons, List.length_nil, List.cons_append, List.nil_append, cond_true, cond_false, Bool.cond_true, reduceCtorEq, Option.map_some, Option.map_none, forall_const, ne_eq, implies_true, Nat.reduceAdd, Nat.reduceLeDiff, Nat.reduceLT, Nat.beq, Option.isNone_none, beq_self_eq_true, bne_self_eq_false, Int.reduceBEq, Int.reduceBNe, Int.reduceLT, Int.reduceLE, Int.reduceGT, Int.reduceGE, Int.reduceEq, Int.reduceNe, Int.reduceToNat, List.take_zero, List.drop_zero, List.all_cons, List.all_nil, List.append_nil, List.length_append, List.length_set, List.append_assoc, List.drop_nil, List.take_nil, hw, e'] <;> try simp -dsimp only [if_conj])
    exact hK h (Keeps.refl h)
  · rw [if_neg e] at hK
    have e' : decide ((o : Int) ≥ t.length) = false := by simp; omega
    have hd : ((byt t).drop o).take (t.length - o) = byt (t.drop o) := by rw [byt_drop, take_b]; simp
    have hdl : t.length - o = (t.drop o).length := by simp
    (simp +contextual -dsimp only [R19, evA, evB, ↓a_on_t, ↓a_on_f, ↓a_on_und, ↓a_cond_b, ↓reduceIte, Go.Ab.part, List.getD_cons_zero, List.getD_cons_succ, List.set_cons_zero, List.set_cons_succ, List.length_cons, List.length_nil, List.cons_append, List.nil_append, cond_true, cond_false, Bool.cond_true, reduceCtorEq, Option.map_some, Option.map_none, forall_const, ne_eq, implies_true, Nat.reduceAdd, Nat.reduceLeDiff, Nat.reduceLT, Nat.beq, Option.isNone_none, beq_self_eq_true, bne_self_eq_false, Int.reduceBEq, Int.reduceBNe, Int.reduceLT, Int.reduceLE, Int.reduceGT, Int.reduceGE, Int.reduceEq, Int.reduceNe, Int.reduceToNat, List.take_zero, List.drop_zero, List.all_cons, List.all_nil, List.append_nil, List.length_append, List.length_set, List.append_assoc, List.drop_nil, List.take_nil, hw, e', hd] <;> try simp -dsimp only [if_conj])
    refine ⟨by first | omega | exact ⟨.inl trivial, by omega, by omega⟩ | exact ⟨.inl trivial, by omega⟩, ?_⟩
    rw [hdl]
    refine New_ok (l := t.drop o) (fun r => IsB.z.src) trivial (by simp; omega) ?_
    (simp +contextual -dsimp only [R19, evA, evB, ↓a_on_t, ↓a_on_f, ↓a_on_und, ↓a_cond_b, ↓reduceIte, Go.Ab.part, List.getD_cons_zero, List.getD_cons_succ, List.set_cons_zero, List.set_cons_succ, List.length_cons, List.length_nil, List.cons_append, List.nil_append, cond_true, cond_false, Bool.cond_true, reduceCtorEq, Option.map_some, Option.map_none, forall_const, ne_eq, implies_true, Nat.reduceAdd, Nat.reduceLeDiff, Nat.reduceLT, Nat.beq, Option.isNone_none, beq_self_eq_true, bne_self_eq_false, Int.reduceBEq, Int.reduceBNe, Int.reduceLT, Int.reduceLE, Int.reduceGT, Int.reduceGE, Int.reduceEq, Int.reduceNe, Int.reduceToNat, List.take_zero, List.drop_zero, List.all_cons, List.all_nil, List.append_nil, List.length_append, List.length_set, List.append_assoc, List.drop_nil, List.take_nil] <;> try simp -dsimp only [if_conj])
    refine Take_ok (c := ⟨t.drop o, 0, 0⟩) (hgets h 2 rfl) (Cur.mki (Nat.zero_le _) (by simp; omega)) (by simp; omega) fun h1 g1 => ?_
    (simp +contextual -dsimp only [R19, evA, evB, ↓a_on_t, ↓a_on_f, ↓a_on_und, ↓a_cond_b, ↓reduceIte, Go.Ab.part, List.getD_cons_zero, List.getD_cons_succ, List.set_cons_zero, List.set_cons_succ, List.length_cons, List.length_nil, List.cons_append, List.nil_append, cond_true, cond_false, Bool.cond_true, reduceCtorEq, Option.map_some, Option.map_none, forall_const, ne_eq, implies_true, Nat.reduceAdd, Nat.reduceLeDiff, Nat.reduceLT, Nat.beq, Option.isNone_none, beq_self_eq_true, bne_self_eq_false, Int.reduceBEq, Int.reduceBNe, Int.reduceLT, Int.reduceLE, Int.reduceGT, Int.reduceGE, Int.reduceEq, Int.reduceNe, Int.reduceToNat, List.take_zero, List.drop_zero, List.all_cons, List.all_nil, List.append_nil, List.length_append, List.length_set, List.append_assoc, List.drop_nil, List.take_nil] <;> try simp -dsimp only [if_conj])
    refine Err_ok g1.get ?_
    (simp +contextual -dsimp only [R19, evA, evB, ↓a_on_t, ↓a_on_f, ↓a_on_und, ↓a_cond_b, ↓reduceIte, Go.Ab.part, List.getD_cons_zero, List.getD_cons_succ, List.set_cons_zero, List.set_cons_succ, List.length_cons, List.length_nil, List.cons_append, List.nil_append, cond_true, cond_false, Bool.cond_true, reduceCtorEq, Option.map_some, Option.map_none, forall_const, ne_eq, implies_true, Nat.reduceAdd, Nat.reduceLeDiff, Nat.reduceLT, Nat.beq, Option.isNone_none, beq_self_eq_true, bne_self_eq_false, Int.reduceBEq, Int.reduceBNe, Int.reduceLT, Int.reduceLE, Int.reduceGT, Int.reduceGE, Int.reduceEq, Int.reduceNe, Int.reduceToNat, List.take_zero, List.drop_zero, List.all_cons, List.all_nil, List.append_nil, List.length_append, List.length_set, List.append_assoc, List.drop_nil, List.take_nil] <;> try simp -dsimp only [if_conj])
    exact hK h1 ⟨by have := g1.len; simp at this; omega, fun hj => (g1.keep _ (by simp; omega) (by omega)).trans (Adds.mk.at hj)⟩
end Go.Proofs.Ytgpddpdhkhfdjaa
