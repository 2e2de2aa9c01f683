import Derived.Test.YtlfplmcidfflfaaCA
import Derived.Test.YtlfplmcidfflfaaGA
set_option linter.unusedVariables false
set_option linter.unusedSimpArgs false
set_option maxRecDepth 100000
namespace Go.Proofs.Ytlfplmcidfflfaa
open Go.Ab
variable {c : Cur} {h : Heap} {id : Nat} {K : Kt}

theorem size_ok {n : Int} (hK : K.K (I (wid n)) h) : ACall X 39 [I n] h K := by
  apply i39
  (simp +contextual -dsimp only [R39, evA, evB, ↓a_on_t, ↓a_on_f, ↓a_on_und, ↓a_cond_b, ↓reduceIte, Go.Ab.part, List.getD_cons_zero, List.getD_cons_succ, List.set_cons_zero, List.set_cons_succ, List.length_cons, List.length_nil, List.cons_append, List.nil_append, cond_true, cond_false, Bool.cond_true, reduceCtorEq, Option.map_some, Option.map_none, forall_const, ne_eq, implies_true, Nat.reduceAdd, Nat.reduceLeDiff, Nat.reduceLT, Nat.beq, Option.isNone_none, beq_self_eq_true, bne_self_eq_false, Int.reduceBEq, Int.reduceBNe, Int.reduceLT, Int.reduceLE, Int.reduceGT, Int.reduceGE, Int.reduceEq, Int.reduceNe, Int.reduceToNat, List.take_zero, List.drop_zero, List.all_cons, List.all_nil, List.append_nil, List.length_append, List.length_set, List.append_assoc, List.drop_nil, List.take_nil] <;> try simp -dsimp only [if_conj])
  unfold wid at hK
  refine ⟨fun e => ?_, fun e => ⟨fun e2 => ?_, fun e2 => ?_⟩⟩
  · have e : n < 0 := by simpa using e
    rw [show ((min (max n 0) 8).toNat : Int) = 0 by omega] at hK; exact hK
  · have e2 : n > 8 := by simpa using e2
    rw [show ((min (max n 0) 8).toNat : Int) = 8 by omega] at hK; exact hK
  · have e : ¬ n < 0 := by simpa using e
    have e2 : ¬ n > 8 := by simpa using e2
    rw [show ((min (max n 0) 8).toNat : Int) = n by omega] at hK; exact hK
theorem rLeft_ok (hid : h.getD id .dead = rc c) (hi : c.inv) (hK : K.K (I c.left) h) : ACall X 40 [.p id 0] h K := by
  apply i40
  (simp +contextual -dsimp only [R40, evA, evB, ↓a_on_t, ↓a_on_f, ↓a_on_und, ↓a_cond_b, ↓reduceIte, Go.Ab.part, List.getD_cons_zero, List.getD_cons_succ, List.set_cons_zero, List.set_cons_succ, List.length_cons, List.length_nil, List.cons_append, List.nil_append, cond_true, cond_false, Bool.cond_true, reduceCtorEq, Option.map_some, Option.map_none, forall_const, ne_eq, implies_true, Nat.reduceAdd, Nat.reduceLeDiff, Nat.reduceLT, Nat.beq, Option.isNone_none, beq_self_eq_true, bne_self_eq_false, Int.reduceBEq, Int.reduceBNe, Int.reduceLT, Int.reduceLE, Int.reduceGT, Int.reduceGE, Int.reduceEq, Int.reduceNe, Int.reduceToNat, List.take_zero, List.drop_zero, List.all_cons, List.all_nil, List.append_nil, List.length_append, List.length_set, List.append_assoc, List.drop_nil, List.take_nil, hid, rc] <;> try simp -dsimp only [if_conj])
  have := hi.p; have := hi.b
  refine ⟨fun he => ?_, fun he => ?_⟩
  · have : c.left = 0 := by unfold Cur.left; rw [if_neg (by simpa using he)]
    rw [this] at hK; exact hK
  · have : c.left = c.b.length - c.p := by unfold Cur.left; rw [if_pos (by simpa using he)]
    rw [this] at hK
    rw [wrap_i64 (by omega) (by omega), ← Int.ofNat_sub (by omega)]; exact hK
theorem rFail_ok {e : Int} (hid : h.getD id .dead = rc c) (hK : K.K (.t []) (h.set id (rc (c.fail e)))) : ACall X 33 [.p id 0, I e] h K := by
  apply i33
  (simp +contextual -dsimp only [R33, evA, evB, ↓a_on_t, ↓a_on_f, ↓a_on_und, ↓a_cond_b, ↓reduceIte, Go.Ab.part, List.getD_cons_zero, List.getD_cons_succ, List.set_cons_zero, List.set_cons_succ, List.length_cons, List.length_nil, List.cons_append, List.nil_append, cond_true, cond_false, Bool.cond_true, reduceCtorEq, Option.map_some, Option.map_none, forall_const, ne_eq, implies_true, Nat.reduceAdd, Nat.reduceLeDiff, Nat.reduceLT, Nat.beq, Option.isNone_none, beq_self_eq_true, bne_self_eq_false, Int.reduceBEq, Int.reduceBNe, Int.reduceLT, Int.reduceLE, Int.reduceGT, Int.reduceGE, Int.reduceEq, Int.reduceNe, Int.reduceToNat, List.take_zero, List.drop_zero, List.all_cons, List.all_nil, List.append_nil, List.length_append, List.length_set, List.append_assoc, List.drop_nil, List.take_nil, hid, rc] <;> try simp -dsimp only [if_conj])
  refine ⟨fun he => ?_, fun he => ?_⟩
  · unfold Cur.fail at hK; rw [if_pos (by simpa using he)] at hK; exact hK
  · unfold Cur.fail at hK; rw [if_neg (by simpa using he), hset_self hid] at hK; exact hK
theorem ecase (c : Cur) : (c.e = 0 ∧ (c.e == 0) = true ∧ (c.e != 0) = false) ∨ (c.e ≠ 0 ∧ (c.e == 0) = false ∧ (c.e != 0) = true) := by
  by_cases h : c.e = 0
  · exact .inl ⟨h, by simp [h], by simp [h]⟩
  · exact .inr ⟨h, by simp [h], by simp [h]⟩
theorem rUint_ok {n : Int} (hid : h.getD id .dead = rc c) (hi : c.inv)
    (hK : K.K (U (le (c.got (wid n)))) (h.set id (rc (c.skip (wid n))))) : ACall X 37 [.p id 0, I n] h K := by
  have hw := wid_le n
  have b1 := hi.p
  have b2 := hi.b
  have hl := hlt hid (rc_ne c)
  apply i37
  (simp +contextual -dsimp only [R37, evA, evB, ↓a_on_t, ↓a_on_f, ↓a_on_und, ↓a_cond_b, ↓reduceIte, Go.Ab.part, List.getD_cons_zero, List.getD_cons_succ, List.set_cons_zero, List.set_cons_succ, List.length_cons, List.length_nil, List.cons_append, List.nil_append, cond_true, cond_false, Bool.cond_true, reduceCtorEq, Option.map_some, Option.map_none, forall_const, ne_eq, implies_true, Nat.reduceAdd, Nat.reduceLeDiff, Nat.reduceLT, Nat.beq, Option.isNone_none, beq_self_eq_true, bne_self_eq_false, Int.reduceBEq, Int.reduceBNe, Int.reduceLT, Int.reduceLE, Int.reduceGT, Int.reduceGE, Int.reduceEq, Int.reduceNe, Int.reduceToNat, List.take_zero, List.drop_zero, List.all_cons, List.all_nil, List.append_nil, List.length_append, List.length_set, List.append_assoc, List.drop_nil, List.take_nil] <;> try simp -dsimp only [if_conj])
  refine size_ok ?_
  generalize wid n = w at *
  unfold Cur.got Cur.skip at hK
  rcases ecase c with ⟨e0, e1, e2⟩ | ⟨e0, e1, e2⟩
  · have hleft : c.left = c.b.length - c.p := by unfold Cur.left; rw [if_pos e0]
    rw [if_pos e0] at hK
    (simp +contextual -dsimp only [R37, evA, evB, ↓a_on_t, ↓a_on_f, ↓a_on_und, ↓a_cond_b, ↓reduceIte, Go.Ab.part, List.getD_cons_zero, List.getD_cons_succ, List.set_cons_zero, List.set_cons_succ, List.length_cons, List.length_nil, List.cons_append, List.nil_append, cond_true, cond_false, Bool.cond_true, reduceCtorEq, Option.map_some, Option.map_none, forall_const, ne_eq, implies_true, Nat.reduceAdd, Nat.reduceLeDiff, Nat.reduceLT, Nat.beq, Option.isNone_none, beq_self_eq_true, bne_self_eq_false, Int.reduceBEq, Int.reduceBNe, Int.reduceLT, Int.reduceLE, Int.reduceGT, Int.reduceGE, Int.reduceEq, Int.reduceNe, Int.reduceToNat, List.take_zero, List.drop_zero, List.all_cons, List.all_nil, List.append_nil, List.length_append, List.length_set, List.append_assoc, List.drop_nil, List.take_nil, hid, rc, e1, e2] <;> try simp -dsimp only [if_conj])
    refine rLeft_ok hid hi ?_
    rw [hleft]
    by_cases hg : w ≤ c.b.length - c.p
    · rw [if_pos ⟨e0, hg⟩, if_pos hg] at hK
      have hw2 : decide ((w : Int) > ((c.b.length - c.p : Nat) : Int)) = false := by simp; omega
      (simp +contextual -dsimp only [R37, evA, evB, ↓a_on_t, ↓a_on_f, ↓a_on_und, ↓a_cond_b, ↓reduceIte, Go.Ab.part, List.getD_cons_zero, List.getD_cons_succ, List.set_cons_zero, List.set_cons_succ, List.length_cons, List.length_nil, List.cons_append, List.nil_append, cond_true, cond_false, Bool.cond_true, reduceCtorEq, Option.map_some, Option.map_none, forall_const, ne_eq, implies_true, Nat.reduceAdd, Nat.reduceLeDiff, Nat.reduceLT, Nat.beq, Option.isNone_none, beq_self_eq_true, bne_self_eq_false, Int.reduceBEq, Int.reduceBNe, Int.reduceLT, Int.reduceLE, Int.reduceGT, Int.reduceGE, Int.reduceEq, Int.reduceNe, Int.reduceToNat, List.take_zero, List.drop_zero, List.all_cons, List.all_nil, List.append_nil, List.length_append, List.length_set, List.append_assoc, List.drop_nil, List.take_nil, hid, rc, e1, e2, hw2] <;> try simp -dsimp only [if_conj])
      have hL : ((c.b.drop c.p).take w).length = w := by rw [List.length_take, List.length_drop]; omega
      have hLg : ∀ i, i < w → ((c.b.drop c.p).take w).getD i 0 = c.b.getD (c.p + i) 0 := fun i hi => by
        rw [List.getD_eq_getElem?_getD, List.getD_eq_getElem?_getD, List.getElem?_take_of_lt hi, List.getElem?_drop]
      generalize (c.b.drop c.p).take w = L at *
      rw [wrap_i64 (n := (w : Int) - 1) (by omega) (by omega)]
      refine aloop (fun m st => ∃ q, m ≤ w ∧ q = le (L.drop m) ∧ st = ((.p id 0 :: I w :: sl st.1 2 :: sl st.1 3 :: sl st.1 4 :: U (q : Nat) :: I ((m : Int) - 1) :: sl st.1 7 :: sl st.1 8 :: sl st.1 9 :: sl st.1 10 :: sl st.1 11 :: sl st.1 12 :: sl st.1 13 :: sl st.1 14 :: sl st.1 15 :: sl st.1 16 :: sl st.1 17 :: sl st.1 18 :: sl st.1 19 :: sl st.1 20 :: sl st.1 21 :: sl st.1 22 :: sl st.1 23 :: sl st.1 24 :: sl st.1 25 :: sl st.1 26 :: sl st.1 27 :: sl st.1 28 :: sl st.1 29 :: sl st.1 30 :: sl st.1 31 :: sl st.1 32 :: sl st.1 33 :: sl st.1 34 :: sl st.1 35 :: sl st.1 36 :: sl st.1 37 :: sl st.1 38 :: sl st.1 39 :: sl st.1 40 :: sl st.1 41 :: sl st.1 42 :: sl st.1 43 :: sl st.1 44 :: sl st.1 45 :: sl st.1 46 :: sl st.1 47 :: sl st.1 48 :: sl st.1 49 :: sl st.1 50 :: sl st.1 51 :: sl st.1 52 :: sl st.1 53 :: sl st.1 54 :: sl st.1 55 :: sl st.1 56 :: sl st.1 57 :: sl st.1 58 :: sl st.1 59 :: []), h)) w _ (Nat.le_refl _) (Weak.refl _ (Nat.le_refl _)) ⟨0, Nat.le_refl _, by rw [← hL, List.drop_length]; rfl, rfl⟩ ?_
      rintro m st ⟨q, hm, hq, hst⟩
      rw [hst]
      (simp +contextual -dsimp only [R37, evA, evB, ↓a_on_t, ↓a_on_f, ↓a_on_und, ↓a_cond_b, ↓reduceIte, Go.Ab.part, List.getD_cons_zero, List.getD_cons_succ, List.set_cons_zero, List.set_cons_succ, List.length_cons, List.length_nil, List.cons_append, List.nil_append, cond_true, cond_false, Bool.cond_true, reduceCtorEq, Option.map_some, Option.map_none, forall_const, ne_eq, implies_true, Nat.reduceAdd, Nat.reduceLeDiff, Nat.reduceLT, Nat.beq, Option.isNone_none, beq_self_eq_true, bne_self_eq_false, Int.reduceBEq, Int.reduceBNe, Int.reduceLT, Int.reduceLE, Int.reduceGT, Int.reduceGE, Int.reduceEq, Int.reduceNe, Int.reduceToNat, List.take_zero, List.drop_zero, List.all_cons, List.all_nil, List.append_nil, List.length_append, List.length_set, List.append_assoc, List.drop_nil, List.take_nil, hid, rc] <;> try simp -dsimp only [if_conj])
      refine ⟨fun hg2 => ?_, fun hg2 => ?_⟩
      · obtain ⟨k, rfl⟩ : ∃ k, m = k + 1 := ⟨m - 1, by simp at hg2; omega⟩
        have ek : ((k + 1 : Nat) : Int) - 1 = k := by omega
        rw [ek, wrap_i64 (n := (c.p : Int) + k) (by omega) (by omega)]
        have hkw : IntKind.i64.wrap ((k : Int) - 1) = (k : Int) - 1 := wrap_i64 (by omega) (by omega)
        have hb : (byt c.b).getD ((c.p : Int) + k).toNat .bad = .v (.int .u8 (L.getD k 0).toNat) := by
          rw [show ((c.p : Int) + k).toNat = c.p + k by omega, byt_getD (by omega), hLg k (by omega)]
        have hx := (L.getD k 0).toNat_lt
        have hq2 : q < 256 ^ (w - (k + 1)) := by
          have := le_lt (L.drop (k + 1)); rw [List.length_drop, hL] at this; rw [hq]; exact this
        have hp : (256 : Nat) ^ (w - (k + 1)) ≤ 256 ^ 7 := Nat.pow_le_pow_right (by omega) (by omega)
        have hv : IntKind.u64.wrap (IntKind.u64.wrap ((q : Int) * 256) + IntKind.u64.wrap ((L.getD k 0).toNat : Int)) = ((le (L.drop k) : Nat) : Int) := by
          rw [le_drop (by omega), ← hq, wrap_u64 (n := (q : Int) * 256) (by omega) (by omega), wrap_u64 (n := ((L.getD k 0).toNat : Int)) (by omega) (by omega), wrap_u64 (by omega) (by omega)]
          omega
        rw [hb]
        (simp +contextual -dsimp only [R37, evA, evB, ↓a_on_t, ↓a_on_f, ↓a_on_und, ↓a_cond_b, ↓reduceIte, Go.Ab.part, List.getD_cons_zero, List.getD_cons_succ, List.set_cons_zero, List.set_cons_succ, List.length_cons, List.length_nil, List.cons_append, List.nil_append, cond_true, cond_false, Bool.cond_true, reduceCtorEq, Option.map_some, Option.map_none, forall_const, ne_eq, implies_true, Nat.reduceAdd, Nat.reduceLeDiff, Nat.reduceLT, Nat.beq, Option.isNone_none, beq_self_eq_true, bne_self_eq_false, Int.reduceBEq, Int.reduceBNe, Int.reduceLT, Int.reduceLE, Int.reduceGT, Int.reduceGE, Int.reduceEq, Int.reduceNe, Int.reduceToNat, List.take_zero, List.drop_zero, List.all_cons, List.all_nil, List.append_nil, List.length_append, List.length_set, List.append_assoc, List.drop_nil, List.take_nil, hv, hkw] <;> try simp -dsimp only [if_conj])
        exact ⟨⟨by omega, by omega, by omega⟩, by omega, k, _, by omega, Weak.refl _ (Nat.le_refl _), _, by omega, rfl, rfl⟩
      · have hm0 : m = 0 := by simp at hg2; omega
        subst hm0
        rw [wrap_i64 (by omega) (by omega)]
        rw [List.drop_zero] at hq
        rw [← hq] at hK
        exact hK
    · rw [if_neg (fun h => hg h.2), if_neg hg] at hK
      have hw2 : decide ((w : Int) > ((c.b.length - c.p : Nat) : Int)) = true := by simp; omega
      (simp +contextual -dsimp only [R37, evA, evB, ↓a_on_t, ↓a_on_f, ↓a_on_und, ↓a_cond_b, ↓reduceIte, Go.Ab.part, List.getD_cons_zero, List.getD_cons_succ, List.set_cons_zero, List.set_cons_succ, List.length_cons, List.length_nil, List.cons_append, List.nil_append, cond_true, cond_false, Bool.cond_true, reduceCtorEq, Option.map_some, Option.map_none, forall_const, ne_eq, implies_true, Nat.reduceAdd, Nat.reduceLeDiff, Nat.reduceLT, Nat.beq, Option.isNone_none, beq_self_eq_true, bne_self_eq_false, Int.reduceBEq, Int.reduceBNe, Int.reduceLT, Int.reduceLE, Int.reduceGT, Int.reduceGE, Int.reduceEq, Int.reduceNe, Int.reduceToNat, List.take_zero, List.drop_zero, List.all_cons, List.all_nil, List.append_nil, List.length_append, List.length_set, List.append_assoc, List.drop_nil, List.take_nil, hid, rc, e1, e2, hw2, hget_set hl] <;> try simp -dsimp only [if_conj])
      exact hK
  · rw [if_neg (fun h => e0 h.1), if_neg e0, hset_self hid] at hK
    (simp +contextual -dsimp only [R37, evA, evB, ↓a_on_t, ↓a_on_f, ↓a_on_und, ↓a_cond_b, ↓reduceIte, Go.Ab.part, List.getD_cons_zero, List.getD_cons_succ, List.set_cons_zero, List.set_cons_succ, List.length_cons, List.length_nil, List.cons_append, List.nil_append, cond_true, cond_false, Bool.cond_true, reduceCtorEq, Option.map_some, Option.map_none, forall_const, ne_eq, implies_true, Nat.reduceAdd, Nat.reduceLeDiff, Nat.reduceLT, Nat.beq, Option.isNone_none, beq_self_eq_true, bne_self_eq_false, Int.reduceBEq, Int.reduceBNe, Int.reduceLT, Int.reduceLE, Int.reduceGT, Int.reduceGE, Int.reduceEq, Int.reduceNe, Int.reduceToNat, List.take_zero, List.drop_zero, List.all_cons, List.all_nil, List.append_nil, List.length_append, List.length_set, List.append_assoc, List.drop_nil, List.take_nil, hid, rc, e1, e2] <;> try simp -dsimp only [if_conj])
    exact hK
end Go.Proofs.Ytlfplmcidfflfaa
