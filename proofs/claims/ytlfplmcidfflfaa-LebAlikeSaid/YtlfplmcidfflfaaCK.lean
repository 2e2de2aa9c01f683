import Derived.Test.YtlfplmcidfflfaaCJ
set_option linter.unusedVariables false
set_option linter.unusedSimpArgs false
set_option maxRecDepth 100000
namespace Go.Proofs.Ytlfplmcidfflfaa
open Go.Ab
variable {h : Heap} {K : Kt}

theorem vl_drop : ∀ {l : List Nat} {k : Nat}, k < l.length → vl (l.drop k) = l.getD k 0 + 128 * vl (l.drop (k + 1))
  | [], k, h => by simp at h
  | x :: r, 0, _ => rfl
  | x :: r, k + 1, h => vl_drop (l := r) (k := k) (by simpa using h)
theorem mem_drop' {l : List Nat} (hx : ∀ x ∈ l, x < 128) (k : Nat) : ∀ x ∈ l.drop k, x < 128 := fun x h => hx x (List.mem_of_mem_drop h)
theorem vl_top {l : List Nat} (hx : ∀ x ∈ l, x < 128) (hl : l.length = 10) : l.getD 9 0 * 72057594037927936 ≤ vl (l.drop 1) ∧ vl (l.drop 1) < (l.getD 9 0 + 1) * 72057594037927936 := by
  have e := take_last (l := l.drop 1) (i := 8) (by simp; omega)
  have h1 := vl_lt (l := (l.drop 1).take 8) fun x h => hx x (List.mem_of_mem_drop (List.mem_of_mem_take h))
  have hl2 : ((l.drop 1).take 8).length = 8 := by simp; omega
  rw [hl2] at h1
  have e2 : (l.drop 1).getD 8 0 = l.getD 9 0 := by simp [List.getD_eq_getElem?_getD, List.getElem?_drop]
  rw [e, vl_append, hl2, e2]
  simp only [vl]
  omega
theorem vl_small9 {l : List Nat} (hx : ∀ x ∈ l, x < 128) (hl : l.length ≤ 10) {k : Nat} (hk : 1 ≤ k) (h : 144115188075855872 ≤ vl (l.drop k)) : 1 < l.getD 9 0 := by
  by_cases hc : l.length = 10 ∧ k = 1
  · have := vl_top hx hc.1
    rw [hc.2] at h; omega
  · have h1 := vl_lt (l := l.drop k) (mem_drop' hx k)
    have : (128 : Nat) ^ (l.drop k).length ≤ 128 ^ 8 := Nat.pow_le_pow_right (by decide) (by simp; omega)
    omega
def tp (l : List Nat) : Int := if 64 ≤ l.getLastD 0 then (l.getLastD 0 : Int) - 128 else l.getLastD 0
theorem getLastD_cons {x : Nat} : ∀ {r : List Nat}, r ≠ [] → (x :: r).getLastD 0 = r.getLastD 0
  | [], h => absurd rfl h
  | _ :: _, _ => by simp [List.getLastD_cons]
theorem vs_cons {x : Nat} {r : List Nat} (h : r ≠ []) : vs (x :: r) = x + 128 * vs r := by
  unfold vs
  rw [getLastD_cons h]
  by_cases c : 64 ≤ r.getLastD 0
  · rw [if_pos c, if_pos c, vl, List.length_cons, Int.pow_succ]; push_cast; omega
  · rw [if_neg c, if_neg c, vl]; push_cast; omega
theorem vs_one (x : Nat) : vs [x] = tp [x] := by
  unfold vs tp
  simp [vl]
theorem vs_tp : ∀ {l : List Nat}, (∀ x ∈ l, x < 128) → l ≠ [] → tp l * 128 ^ (l.length - 1) ≤ vs l ∧ vs l < (tp l + 1) * 128 ^ (l.length - 1)
  | [], _, h => absurd rfl h
  | [x], _, _ => by rw [vs_one]; simp; omega
  | x :: y :: r, hx, _ => by
    obtain ⟨h1, h2⟩ := vs_tp (l := y :: r) (fun z hz => hx z (List.mem_cons_of_mem _ hz)) (by simp)
    have hx0 := hx x (by simp)
    have et : tp (x :: y :: r) = tp (y :: r) := by unfold tp; rw [getLastD_cons (by simp)]
    rw [vs_cons (by simp), et]
    simp only [List.length_cons, Nat.add_sub_cancel] at h1 h2 ⊢
    rw [Int.pow_succ, ← Int.mul_assoc, ← Int.mul_assoc]
    generalize (128 : Int) ^ r.length = P at *
    generalize tp (y :: r) * P = A at *
    generalize (tp (y :: r) + 1) * P = B at *
    omega
theorem tp_range {l : List Nat} (hx : ∀ x ∈ l, x < 128) (h : l ≠ []) : -64 ≤ tp l ∧ tp l ≤ 63 := by
  have : l.getLastD 0 < 128 := by
    rw [List.getLastD_eq_getLast?, List.getLast?_eq_some_getLast h]; exact hx _ (List.getLast_mem h)
  unfold tp
  split <;> omega
/-- of at most eight parts -/
theorem vs_eight {l : List Nat} (hx : ∀ x ∈ l, x < 128) (h : l ≠ []) (hl : l.length ≤ 8) : -72057594037927936 ≤ vs l ∧ vs l ≤ 72057594037927935 := by
  obtain ⟨h1, h2⟩ := vs_tp hx h
  obtain ⟨t1, t2⟩ := tp_range hx h
  have e : (128 : Int) ^ (l.length - 1) ≤ 562949953421312 := by
    have : (128 : Nat) ^ (l.length - 1) ≤ 128 ^ 7 := Nat.pow_le_pow_right (by decide) (by omega)
    have e2 : ((128 : Int) ^ (l.length - 1)) = ((128 ^ (l.length - 1) : Nat) : Int) := by push_cast; rfl
    rw [e2]; omega
  have e0 : (0 : Int) ≤ 128 ^ (l.length - 1) := Int.pow_nonneg (by decide)
  generalize (128 : Int) ^ (l.length - 1) = P at *
  have m1 : 0 ≤ (tp l + 64) * P := Int.mul_nonneg (by omega) e0
  have m2 : 0 ≤ (63 - tp l) * P := Int.mul_nonneg (by omega) e0
  rw [Int.add_mul] at m1 h2
  rw [Int.sub_mul] at m2
  omega
/-- of nine parts: just those with nothing above -/
theorem vs_nine {l : List Nat} (hx : ∀ x ∈ l, x < 128) (hl : l.length = 9) : (-72057594037927936 ≤ vs l ∧ vs l ≤ 72057594037927935) ↔ (l.getLastD 0 = 0 ∨ l.getLastD 0 = 127) := by
  have hne : l ≠ [] := by intro h; rw [h] at hl; simp at hl
  obtain ⟨h1, h2⟩ := vs_tp hx hne
  have hlast : l.getLastD 0 < 128 := by
    rw [List.getLastD_eq_getLast?, List.getLast?_eq_some_getLast hne]; exact hx _ (List.getLast_mem hne)
  rw [hl] at h1 h2
  simp only [Nat.add_one_sub_one] at h1 h2
  unfold tp at h1 h2
  split at h1 <;> omega
theorem vs_drop {l : List Nat} {k : Nat} (h : k + 1 < l.length) : vs (l.drop k) = l.getD k 0 + 128 * vs (l.drop (k + 1)) := by
  have e : l.drop k = l.getD k 0 :: l.drop (k + 1) := by
    rw [List.getD_eq_getElem?_getD, List.getElem?_eq_getElem (by omega), List.drop_eq_getElem_cons (by omega)]; rfl
  rw [e, vs_cons (by intro h2; have := congrArg List.length h2; simp at this; omega)]
theorem last_drop {l : List Nat} {k : Nat} (h : k < l.length) : (l.drop k).getLastD 0 = l.getD (l.length - 1) 0 := by
  rw [List.getLastD_eq_getLast?, List.getLast?_eq_getElem?, List.getD_eq_getElem?_getD, List.getElem?_drop, List.length_drop]
  congr 2; omega
theorem rU_ok {c : Cur} {id : Nat} (hid : h.getD id .dead = rc c) (hi : c.inv)
    (hK : ∀ h1, h1.getD id .dead = rc (uR c).2 → (uR c).2.inv → (∀ j, j < h.length → j ≠ id → h1.getD j .dead = h.getD j .dead) → h.length ≤ h1.length → K.K (U ((uR c).1 : Nat)) h1) : ACall X 22 [.p id 0] h K := by
  have hil := hlt hid (rc_ne c)
  apply i22
  (simp +contextual -dsimp only [R22, evA, evB, ↓a_on_t, ↓a_on_f, ↓a_on_und, ↓a_cond_b, ↓reduceIte, Go.Ab.part, List.getD_cons_zero, List.getD_cons_succ, List.set_cons_zero, List.set_cons_succ, List.length_cons, List.length_nil, List.cons_append, List.nil_append, cond_true, cond_false, Bool.cond_true, reduceCtorEq, Option.map_some, Option.map_none, forall_const, ne_eq, implies_true, Nat.reduceAdd, Nat.reduceLeDiff, Nat.reduceLT, Nat.beq, Option.isNone_none, beq_self_eq_true, bne_self_eq_false, Int.reduceBEq, Int.reduceBNe, Int.reduceLT, Int.reduceLE, Int.reduceGT, Int.reduceGE, Int.reduceEq, Int.reduceNe, Int.reduceToNat, List.take_zero, List.drop_zero, List.all_cons, List.all_nil, List.append_nil, List.length_append, List.length_set, List.append_assoc, List.drop_nil, List.take_nil] <;> try simp -dsimp only [if_conj])
  refine rparts_ok hid hi (fun d h1 hr g1 g2 g3 g4 => ?_) (fun l d h1 lid hr g0 g1 g2 g3 g4 g5 => ?_)
  · have hu : uR c = (0, d) := by unfold uR; rw [hr]
    rw [hu] at hK
    have rm : IntKind.i64.wrap (0 - 1) = -1 := rfl
    (simp +contextual -dsimp only [R22, evA, evB, ↓a_on_t, ↓a_on_f, ↓a_on_und, ↓a_cond_b, ↓reduceIte, Go.Ab.part, List.getD_cons_zero, List.getD_cons_succ, List.set_cons_zero, List.set_cons_succ, List.length_cons, List.length_nil, List.cons_append, List.nil_append, cond_true, cond_false, Bool.cond_true, reduceCtorEq, Option.map_some, Option.map_none, forall_const, ne_eq, implies_true, Nat.reduceAdd, Nat.reduceLeDiff, Nat.reduceLT, Nat.beq, Option.isNone_none, beq_self_eq_true, bne_self_eq_false, Int.reduceBEq, Int.reduceBNe, Int.reduceLT, Int.reduceLE, Int.reduceGT, Int.reduceGE, Int.reduceEq, Int.reduceNe, Int.reduceToNat, List.take_zero, List.drop_zero, List.all_cons, List.all_nil, List.append_nil, List.length_append, List.length_set, List.append_assoc, List.drop_nil, List.take_nil, rm] <;> try simp -dsimp only [if_conj])
    refine aloop (fun f st => st = ((.p id 0 :: sl st.1 1 :: sl st.1 2 :: .v (.slice none 0 0) :: U 0 :: I (-1) :: sl st.1 6 :: sl st.1 7 :: sl st.1 8 :: sl st.1 9 :: sl st.1 10 :: sl st.1 11 :: sl st.1 12 :: sl st.1 13 :: sl st.1 14 :: sl st.1 15 :: sl st.1 16 :: sl st.1 17 :: sl st.1 18 :: sl st.1 19 :: sl st.1 20 :: sl st.1 21 :: sl st.1 22 :: sl st.1 23 :: sl st.1 24 :: sl st.1 25 :: sl st.1 26 :: []), h1)) 0 _ g4 (Weak.refl _ g4) rfl ?_
    rintro f st hst
    rw [hst]
    (simp +contextual -dsimp only [R22, evA, evB, ↓a_on_t, ↓a_on_f, ↓a_on_und, ↓a_cond_b, ↓reduceIte, Go.Ab.part, List.getD_cons_zero, List.getD_cons_succ, List.set_cons_zero, List.set_cons_succ, List.length_cons, List.length_nil, List.cons_append, List.nil_append, cond_true, cond_false, Bool.cond_true, reduceCtorEq, Option.map_some, Option.map_none, forall_const, ne_eq, implies_true, Nat.reduceAdd, Nat.reduceLeDiff, Nat.reduceLT, Nat.beq, Option.isNone_none, beq_self_eq_true, bne_self_eq_false, Int.reduceBEq, Int.reduceBNe, Int.reduceLT, Int.reduceLE, Int.reduceGT, Int.reduceGE, Int.reduceEq, Int.reduceNe, Int.reduceToNat, List.take_zero, List.drop_zero, List.all_cons, List.all_nil, List.append_nil, List.length_append, List.length_set, List.append_assoc, List.drop_nil, List.take_nil] <;> try simp -dsimp only [if_conj])
    exact hK _ g1 g2 g3 g4
  · obtain ⟨p1, p2, p3, p4⟩ := rd_prop 10 c l d hr
    have ll := lst_len l
    have r0 : IntKind.i64.wrap ((l.length : Int) - 1) = (l.length : Int) - 1 := wrap_i64 (by omega) (by omega)
    (simp +contextual -dsimp only [R22, evA, evB, ↓a_on_t, ↓a_on_f, ↓a_on_und, ↓a_cond_b, ↓reduceIte, Go.Ab.part, List.getD_cons_zero, List.getD_cons_succ, List.set_cons_zero, List.set_cons_succ, List.length_cons, List.length_nil, List.cons_append, List.nil_append, cond_true, cond_false, Bool.cond_true, reduceCtorEq, Option.map_some, Option.map_none, forall_const, ne_eq, implies_true, Nat.reduceAdd, Nat.reduceLeDiff, Nat.reduceLT, Nat.beq, Option.isNone_none, beq_self_eq_true, bne_self_eq_false, Int.reduceBEq, Int.reduceBNe, Int.reduceLT, Int.reduceLE, Int.reduceGT, Int.reduceGE, Int.reduceEq, Int.reduceNe, Int.reduceToNat, List.take_zero, List.drop_zero, List.all_cons, List.all_nil, List.append_nil, List.length_append, List.length_set, List.append_assoc, List.drop_nil, List.take_nil, r0] <;> try simp -dsimp only [if_conj])
    refine aloop (fun k st => ∃ n, k ≤ l.length ∧ n = vl (l.drop k) ∧ (k = 0 → l.getD 9 0 ≤ 1) ∧ st = ((.p id 0 :: sl st.1 1 :: sl st.1 2 :: .s lid 0 l.length :: U (n : Nat) :: I ((k : Int) - 1) :: sl st.1 6 :: sl st.1 7 :: sl st.1 8 :: sl st.1 9 :: sl st.1 10 :: sl st.1 11 :: sl st.1 12 :: sl st.1 13 :: sl st.1 14 :: sl st.1 15 :: sl st.1 16 :: sl st.1 17 :: sl st.1 18 :: sl st.1 19 :: sl st.1 20 :: sl st.1 21 :: sl st.1 22 :: sl st.1 23 :: sl st.1 24 :: sl st.1 25 :: sl st.1 26 :: []), h1)) l.length _ g4 (Weak.refl _ g4) ⟨0, Nat.le_refl _, by simp [vl], fun h => by omega, rfl⟩ ?_
    rintro k st ⟨n, hk, hn, h0, hst⟩
    rw [hst]
    cases k with
    | zero =>
      have d1 : decide (((0 : Nat) : Int) - 1 ≥ 0) = false := rfl
      (simp +contextual -dsimp only [R22, evA, evB, ↓a_on_t, ↓a_on_f, ↓a_on_und, ↓a_cond_b, ↓reduceIte, Go.Ab.part, List.getD_cons_zero, List.getD_cons_succ, List.set_cons_zero, List.set_cons_succ, List.length_cons, List.length_nil, List.cons_append, List.nil_append, cond_true, cond_false, Bool.cond_true, reduceCtorEq, Option.map_some, Option.map_none, forall_const, ne_eq, implies_true, Nat.reduceAdd, Nat.reduceLeDiff, Nat.reduceLT, Nat.beq, Option.isNone_none, beq_self_eq_true, bne_self_eq_false, Int.reduceBEq, Int.reduceBNe, Int.reduceLT, Int.reduceLE, Int.reduceGT, Int.reduceGE, Int.reduceEq, Int.reduceNe, Int.reduceToNat, List.take_zero, List.drop_zero, List.all_cons, List.all_nil, List.append_nil, List.length_append, List.length_set, List.append_assoc, List.drop_nil, List.take_nil, d1] <;> try simp -dsimp only [if_conj])
      have hu : uR c = (vl l, d) := by unfold uR; rw [hr]; exact if_neg (by have := h0 rfl; omega)
      rw [hu] at hK
      rw [hn]
      exact hK _ g1 g2 g3 g4
    | succ k =>
      have d1 : decide ((k : Int) ≥ 0) = true := by simp
      have a1 := lst_get (l := l) (i := k) (by omega)
      have e1 : ((k + 1 : Nat) : Int) - 1 = (k : Int) := by omega
      have r1 : IntKind.i64.wrap ((k : Int) - 1) = (k : Int) - 1 := wrap_i64 (by omega) (by omega)
      have hg := getD_lt p3 k
      have hd := vl_drop (l := l) (k := k) (by omega)
      rw [← hn] at hd
      by_cases hc : 144115188075855872 ≤ n
      · have d2 : decide ((n : Int) ≥ 144115188075855872) = true := by simp; omega
        (simp +contextual -dsimp only [R22, evA, evB, ↓a_on_t, ↓a_on_f, ↓a_on_und, ↓a_cond_b, ↓reduceIte, Go.Ab.part, List.getD_cons_zero, List.getD_cons_succ, List.set_cons_zero, List.set_cons_succ, List.length_cons, List.length_nil, List.cons_append, List.nil_append, cond_true, cond_false, Bool.cond_true, reduceCtorEq, Option.map_some, Option.map_none, forall_const, ne_eq, implies_true, Nat.reduceAdd, Nat.reduceLeDiff, Nat.reduceLT, Nat.beq, Option.isNone_none, beq_self_eq_true, bne_self_eq_false, Int.reduceBEq, Int.reduceBNe, Int.reduceLT, Int.reduceLE, Int.reduceGT, Int.reduceGE, Int.reduceEq, Int.reduceNe, Int.reduceToNat, List.take_zero, List.drop_zero, List.all_cons, List.all_nil, List.append_nil, List.length_append, List.length_set, List.append_assoc, List.drop_nil, List.take_nil, d1, d2, e1] <;> try simp -dsimp only [if_conj])
        refine rFail_ok g1 ?_
        (simp +contextual -dsimp only [R22, evA, evB, ↓a_on_t, ↓a_on_f, ↓a_on_und, ↓a_cond_b, ↓reduceIte, Go.Ab.part, List.getD_cons_zero, List.getD_cons_succ, List.set_cons_zero, List.set_cons_succ, List.length_cons, List.length_nil, List.cons_append, List.nil_append, cond_true, cond_false, Bool.cond_true, reduceCtorEq, Option.map_some, Option.map_none, forall_const, ne_eq, implies_true, Nat.reduceAdd, Nat.reduceLeDiff, Nat.reduceLT, Nat.beq, Option.isNone_none, beq_self_eq_true, bne_self_eq_false, Int.reduceBEq, Int.reduceBNe, Int.reduceLT, Int.reduceLE, Int.reduceGT, Int.reduceGE, Int.reduceEq, Int.reduceNe, Int.reduceToNat, List.take_zero, List.drop_zero, List.all_cons, List.all_nil, List.append_nil, List.length_append, List.length_set, List.append_assoc, List.drop_nil, List.take_nil] <;> try simp -dsimp only [if_conj])
        have hu : uR c = (0, d.fail 11) := by unfold uR; rw [hr]; exact if_pos (vl_small9 p3 p1 (k := k + 1) (by omega) (by omega))
        rw [hu] at hK
        refine hK _ (hget_set (hlt g1 (rc_ne _))) (g2.fail _) (fun j hj hj2 => ?_) (by rw [List.length_set]; exact g4)
        rw [hget_set_ne (Ne.symm hj2)]; exact g3 j hj hj2
      · have d2 : decide ((n : Int) ≥ 144115188075855872) = false := by simp; omega
        obtain ⟨x, hx⟩ : ∃ x, l.getD k 0 = x := ⟨_, rfl⟩
        rw [hx] at a1 hg hd
        have r2 : IntKind.u64.wrap (IntKind.u64.wrap ((n : Int) * 128) + (x : Int)) = ((vl (l.drop k) : Nat) : Int) := by
          rw [wrap_u64 (n := (n : Int) * 128) (by omega) (by omega), wrap_u64 (by omega) (by omega), hd]; push_cast; omega
        (simp +contextual -dsimp only [R22, evA, evB, ↓a_on_t, ↓a_on_f, ↓a_on_und, ↓a_cond_b, ↓reduceIte, Go.Ab.part, List.getD_cons_zero, List.getD_cons_succ, List.set_cons_zero, List.set_cons_succ, List.length_cons, List.length_nil, List.cons_append, List.nil_append, cond_true, cond_false, Bool.cond_true, reduceCtorEq, Option.map_some, Option.map_none, forall_const, ne_eq, implies_true, Nat.reduceAdd, Nat.reduceLeDiff, Nat.reduceLT, Nat.beq, Option.isNone_none, beq_self_eq_true, bne_self_eq_false, Int.reduceBEq, Int.reduceBNe, Int.reduceLT, Int.reduceLE, Int.reduceGT, Int.reduceGE, Int.reduceEq, Int.reduceNe, Int.reduceToNat, List.take_zero, List.drop_zero, List.all_cons, List.all_nil, List.append_nil, List.length_append, List.length_set, List.append_assoc, List.drop_nil, List.take_nil, d1, d2, e1, g0, ll, a1, r1, r2] <;> try simp -dsimp only [if_conj])
        refine ⟨⟨by omega, by omega⟩, by omega, k, _, by omega, Weak.refl _ g4, _, by omega, rfl, fun e => ?_, rfl⟩
        subst e
        by_cases h10 : l.length = 10
        · have := vl_top p3 h10
          have hn' : n = vl (l.drop 1) := hn
          omega
        · have : l.getD 9 0 = 0 := by rw [List.getD_eq_getElem?_getD, List.getElem?_eq_none (by omega)]; rfl
          omega
theorem rS_ok {c : Cur} {id : Nat} (hid : h.getD id .dead = rc c) (hi : c.inv)
    (hK : ∀ h1, h1.getD id .dead = rc (sR c).2 → (sR c).2.inv → (∀ j, j < h.length → j ≠ id → h1.getD j .dead = h.getD j .dead) → h.length ≤ h1.length → K.K (I (sR c).1) h1) : ACall X 24 [.p id 0] h K := by
  have hil := hlt hid (rc_ne c)
  apply i24
  (simp +contextual -dsimp only [R24, evA, evB, ↓a_on_t, ↓a_on_f, ↓a_on_und, ↓a_cond_b, ↓reduceIte, Go.Ab.part, List.getD_cons_zero, List.getD_cons_succ, List.set_cons_zero, List.set_cons_succ, List.length_cons, List.length_nil, List.cons_append, List.nil_append, cond_true, cond_false, Bool.cond_true, reduceCtorEq, Option.map_some, Option.map_none, forall_const, ne_eq, implies_true, Nat.reduceAdd, Nat.reduceLeDiff, Nat.reduceLT, Nat.beq, Option.isNone_none, beq_self_eq_true, bne_self_eq_false, Int.reduceBEq, Int.reduceBNe, Int.reduceLT, Int.reduceLE, Int.reduceGT, Int.reduceGE, Int.reduceEq, Int.reduceNe, Int.reduceToNat, List.take_zero, List.drop_zero, List.all_cons, List.all_nil, List.append_nil, List.length_append, List.length_set, List.append_assoc, List.drop_nil, List.take_nil] <;> try simp -dsimp only [if_conj])
  refine rparts_ok hid hi (fun d h1 hr g1 g2 g3 g4 => ?_) (fun l d h1 lid hr g0 g1 g2 g3 g4 g5 => ?_)
  · have hu : sR c = (0, d) := by unfold sR; rw [hr]
    rw [hu] at hK
    (simp +contextual -dsimp only [R24, evA, evB, ↓a_on_t, ↓a_on_f, ↓a_on_und, ↓a_cond_b, ↓reduceIte, Go.Ab.part, List.getD_cons_zero, List.getD_cons_succ, List.set_cons_zero, List.set_cons_succ, List.length_cons, List.length_nil, List.cons_append, List.nil_append, cond_true, cond_false, Bool.cond_true, reduceCtorEq, Option.map_some, Option.map_none, forall_const, ne_eq, implies_true, Nat.reduceAdd, Nat.reduceLeDiff, Nat.reduceLT, Nat.beq, Option.isNone_none, beq_self_eq_true, bne_self_eq_false, Int.reduceBEq, Int.reduceBNe, Int.reduceLT, Int.reduceLE, Int.reduceGT, Int.reduceGE, Int.reduceEq, Int.reduceNe, Int.reduceToNat, List.take_zero, List.drop_zero, List.all_cons, List.all_nil, List.append_nil, List.length_append, List.length_set, List.append_assoc, List.drop_nil, List.take_nil] <;> try simp -dsimp only [if_conj])
    exact hK _ g1 g2 g3 g4
  · obtain ⟨p1, p2, p3, p4⟩ := rd_prop 10 c l d hr
    have ll := lst_len l
    have r0 : IntKind.i64.wrap ((l.length : Int) - 1) = ((l.length - 1 : Nat) : Int) := by rw [wrap_i64 (by omega) (by omega)]; omega
    have r00 : IntKind.i64.wrap ((l.length : Int) - 2) = ((l.length - 1 : Nat) : Int) - 1 := by rw [wrap_i64 (by omega) (by omega)]; omega
    have d0 : ((l.length : Int) == 0) = false := beq_false_of_ne (by omega)
    have a0 := lst_get (l := l) (i := l.length - 1) (by omega)
    have hg0 := getD_lt p3 (l.length - 1)
    obtain ⟨xl, hxl⟩ : ∃ x, l.getD (l.length - 1) 0 = x := ⟨_, rfl⟩
    rw [hxl] at a0 hg0
    have r01 : IntKind.i64.wrap (xl : Int) = (xl : Int) := wrap_i64 (by omega) (by omega)
    have r02 : IntKind.i64.wrap ((xl : Int) - 128) = (xl : Int) - 128 := wrap_i64 (by omega) (by omega)
    have hlen1 : (l.drop (l.length - 1)).length = 1 := by simp; omega
    have hne1 : l.drop (l.length - 1) ≠ [] := by intro h; rw [h] at hlen1; simp at hlen1
    have hone : l.drop (l.length - 1) = [xl] := by
      rw [List.drop_eq_getElem_cons (by omega), List.drop_of_length_le (by omega), ← hxl, List.getD_eq_getElem?_getD, List.getElem?_eq_getElem (by omega)]; rfl
    have hvs : vs (l.drop (l.length - 1)) = tp [xl] := by rw [hone, vs_one]
    have dd : (decide ((xl : Int) ≥ 64) = true ∧ (xl : Int) - 128 = vs (l.drop (l.length - 1))) ∨ (decide ((xl : Int) ≥ 64) = false ∧ (xl : Int) = vs (l.drop (l.length - 1))) := by
      rw [hvs]; unfold tp; rw [show [xl].getLastD 0 = xl from rfl]
      by_cases c0 : 64 ≤ xl
      · exact .inl ⟨by simp; omega, by rw [if_pos c0]⟩
      · exact .inr ⟨by simp; omega, by rw [if_neg c0]⟩
    rcases dd with ⟨d1, hv⟩ | ⟨d1, hv⟩
    all_goals
      (simp +contextual -dsimp only [R24, evA, evB, ↓a_on_t, ↓a_on_f, ↓a_on_und, ↓a_cond_b, ↓reduceIte, Go.Ab.part, List.getD_cons_zero, List.getD_cons_succ, List.set_cons_zero, List.set_cons_succ, List.length_cons, List.length_nil, List.cons_append, List.nil_append, cond_true, cond_false, Bool.cond_true, reduceCtorEq, Option.map_some, Option.map_none, forall_const, ne_eq, implies_true, Nat.reduceAdd, Nat.reduceLeDiff, Nat.reduceLT, Nat.beq, Option.isNone_none, beq_self_eq_true, bne_self_eq_false, Int.reduceBEq, Int.reduceBNe, Int.reduceLT, Int.reduceLE, Int.reduceGT, Int.reduceGE, Int.reduceEq, Int.reduceNe, Int.reduceToNat, List.take_zero, List.drop_zero, List.all_cons, List.all_nil, List.append_nil, List.length_append, List.length_set, List.append_assoc, List.drop_nil, List.take_nil, d0, r0, r00, r01, r02, g0, ll, a0, d1] <;> try simp -dsimp only [if_conj])
      refine ⟨by omega, by omega, ?_⟩
      refine aloop (fun k st => ∃ n, k + 1 ≤ l.length ∧ n = vs (l.drop k) ∧ (k = 0 → ¬ (l.length = 10 ∧ l.getD 9 0 ≠ 0 ∧ l.getD 9 0 ≠ 127)) ∧ st = ((.p id 0 :: sl st.1 1 :: sl st.1 2 :: .s lid 0 l.length :: I n :: I ((k : Int) - 1) :: sl st.1 6 :: sl st.1 7 :: sl st.1 8 :: sl st.1 9 :: sl st.1 10 :: sl st.1 11 :: sl st.1 12 :: sl st.1 13 :: sl st.1 14 :: sl st.1 15 :: sl st.1 16 :: sl st.1 17 :: sl st.1 18 :: sl st.1 19 :: sl st.1 20 :: sl st.1 21 :: sl st.1 22 :: sl st.1 23 :: sl st.1 24 :: sl st.1 25 :: sl st.1 26 :: sl st.1 27 :: sl st.1 28 :: sl st.1 29 :: sl st.1 30 :: sl st.1 31 :: sl st.1 32 :: sl st.1 33 :: sl st.1 34 :: sl st.1 35 :: sl st.1 36 :: sl st.1 37 :: sl st.1 38 :: sl st.1 39 :: sl st.1 40 :: sl st.1 41 :: sl st.1 42 :: sl st.1 43 :: sl st.1 44 :: sl st.1 45 :: []), h1)) (l.length - 1) _ g4 (Weak.refl _ g4) ⟨_, by omega, hv, fun h => by omega, rfl⟩ ?_
      rintro k st ⟨n, hk, hn, h0, hst⟩
      rw [hst]
      cases k with
      | zero =>
        have d1 : decide (((0 : Nat) : Int) - 1 ≥ 0) = false := rfl
        (simp +contextual -dsimp only [R24, evA, evB, ↓a_on_t, ↓a_on_f, ↓a_on_und, ↓a_cond_b, ↓reduceIte, Go.Ab.part, List.getD_cons_zero, List.getD_cons_succ, List.set_cons_zero, List.set_cons_succ, List.length_cons, List.length_nil, List.cons_append, List.nil_append, cond_true, cond_false, Bool.cond_true, reduceCtorEq, Option.map_some, Option.map_none, forall_const, ne_eq, implies_true, Nat.reduceAdd, Nat.reduceLeDiff, Nat.reduceLT, Nat.beq, Option.isNone_none, beq_self_eq_true, bne_self_eq_false, Int.reduceBEq, Int.reduceBNe, Int.reduceLT, Int.reduceLE, Int.reduceGT, Int.reduceGE, Int.reduceEq, Int.reduceNe, Int.reduceToNat, List.take_zero, List.drop_zero, List.all_cons, List.all_nil, List.append_nil, List.length_append, List.length_set, List.append_assoc, List.drop_nil, List.take_nil, d1] <;> try simp -dsimp only [if_conj])
        have hu : sR c = (vs l, d) := by unfold sR; rw [hr]; exact if_neg (h0 rfl)
        rw [hu] at hK
        rw [hn]
        exact hK _ g1 g2 g3 g4
      | succ k =>
        have d2 : decide ((k : Int) ≥ 0) = true := by simp
        have a1 := lst_get (l := l) (i := k) (by omega)
        have e1 : ((k + 1 : Nat) : Int) - 1 = (k : Int) := by omega
        have r1 : IntKind.i64.wrap ((k : Int) - 1) = (k : Int) - 1 := wrap_i64 (by omega) (by omega)
        have hg := getD_lt p3 k
        have hd := vs_drop (l := l) (k := k) (by omega)
        rw [← hn] at hd
        have hlk : (l.drop (k + 1)).length = l.length - (k + 1) := by simp
        have hnk : l.drop (k + 1) ≠ [] := by intro h; rw [h] at hlk; simp at hlk; omega
        have h8 : ¬ (l.length = 10 ∧ k = 0) → -72057594037927936 ≤ n ∧ n ≤ 72057594037927935 := fun hc => by
          rw [hn]; exact vs_eight (mem_drop' p3 _) hnk (by omega)
        have h9 : l.length = 10 → k = 0 → ((-72057594037927936 ≤ n ∧ n ≤ 72057594037927935) ↔ (l.getD 9 0 = 0 ∨ l.getD 9 0 = 127)) := fun h10 hk0 => by
          have hl := last_drop (l := l) (k := k + 1) (by omega)
          rw [h10] at hl
          rw [hn, vs_nine (mem_drop' p3 _) (by omega), hl]
        by_cases hc : -72057594037927936 ≤ n ∧ n ≤ 72057594037927935
        · have d3 : decide (n < -72057594037927936) = false := by simp; omega
          have d4 : decide (n > 72057594037927935) = false := by simp; omega
          have hx9 : k = 0 → ¬ (l.length = 10 ∧ l.getD 9 0 ≠ 0 ∧ l.getD 9 0 ≠ 127) := fun hk0 hb => by
            rcases (h9 hb.1 hk0).1 hc with h | h
            · exact hb.2.1 h
            · exact hb.2.2 h
          obtain ⟨x, hx⟩ : ∃ x, l.getD k 0 = x := ⟨_, rfl⟩
          rw [hx] at a1 hg hd
          have rx : IntKind.i64.wrap (x : Int) = (x : Int) := wrap_i64 (by omega) (by omega)
          have r2 : IntKind.i64.wrap (IntKind.i64.wrap (n * 128) + (x : Int)) = vs (l.drop k) := by
            rw [wrap_i64 (n := n * 128) (by omega) (by omega), wrap_i64 (by omega) (by omega), hd]; omega
          (simp +contextual -dsimp only [R24, evA, evB, ↓a_on_t, ↓a_on_f, ↓a_on_und, ↓a_cond_b, ↓reduceIte, Go.Ab.part, List.getD_cons_zero, List.getD_cons_succ, List.set_cons_zero, List.set_cons_succ, List.length_cons, List.length_nil, List.cons_append, List.nil_append, cond_true, cond_false, Bool.cond_true, reduceCtorEq, Option.map_some, Option.map_none, forall_const, ne_eq, implies_true, Nat.reduceAdd, Nat.reduceLeDiff, Nat.reduceLT, Nat.beq, Option.isNone_none, beq_self_eq_true, bne_self_eq_false, Int.reduceBEq, Int.reduceBNe, Int.reduceLT, Int.reduceLE, Int.reduceGT, Int.reduceGE, Int.reduceEq, Int.reduceNe, Int.reduceToNat, List.take_zero, List.drop_zero, List.all_cons, List.all_nil, List.append_nil, List.length_append, List.length_set, List.append_assoc, List.drop_nil, List.take_nil, d2, d3, d4, e1, g0, ll, a1, r1, rx, r2] <;> try simp -dsimp only [if_conj])
          exact ⟨⟨by omega, by omega⟩, by omega, k, _, by omega, Weak.refl _ g4, _, by omega, rfl, hx9, rfl⟩
        · have hbad : l.length = 10 ∧ l.getD 9 0 ≠ 0 ∧ l.getD 9 0 ≠ 127 := by
            by_cases hb : l.length = 10 ∧ k = 0
            · have := h9 hb.1 hb.2
              refine ⟨hb.1, fun h => hc (this.2 (.inl h)), fun h => hc (this.2 (.inr h))⟩
            · exact absurd (h8 hb) hc
          have hu : sR c = (0, d.fail 11) := by unfold sR; rw [hr]; exact if_pos hbad
          rw [hu] at hK
          have fin : K.K (I 0) (h1.set id (rc (d.fail 11))) := by
            refine hK _ (hget_set (hlt g1 (rc_ne _))) (g2.fail _) (fun j hj hj2 => ?_) (by rw [List.length_set]; exact g4)
            rw [hget_set_ne (Ne.symm hj2)]; exact g3 j hj hj2
          by_cases c3 : n < -72057594037927936
          · have d3 : decide (n < -72057594037927936) = true := by simp; omega
            (simp +contextual -dsimp only [R24, evA, evB, ↓a_on_t, ↓a_on_f, ↓a_on_und, ↓a_cond_b, ↓reduceIte, Go.Ab.part, List.getD_cons_zero, List.getD_cons_succ, List.set_cons_zero, List.set_cons_succ, List.length_cons, List.length_nil, List.cons_append, List.nil_append, cond_true, cond_false, Bool.cond_true, reduceCtorEq, Option.map_some, Option.map_none, forall_const, ne_eq, implies_true, Nat.reduceAdd, Nat.reduceLeDiff, Nat.reduceLT, Nat.beq, Option.isNone_none, beq_self_eq_true, bne_self_eq_false, Int.reduceBEq, Int.reduceBNe, Int.reduceLT, Int.reduceLE, Int.reduceGT, Int.reduceGE, Int.reduceEq, Int.reduceNe, Int.reduceToNat, List.take_zero, List.drop_zero, List.all_cons, List.all_nil, List.append_nil, List.length_append, List.length_set, List.append_assoc, List.drop_nil, List.take_nil, d2, d3, e1] <;> try simp -dsimp only [if_conj])
            refine rFail_ok g1 ?_
            (simp +contextual -dsimp only [R24, evA, evB, ↓a_on_t, ↓a_on_f, ↓a_on_und, ↓a_cond_b, ↓reduceIte, Go.Ab.part, List.getD_cons_zero, List.getD_cons_succ, List.set_cons_zero, List.set_cons_succ, List.length_cons, List.length_nil, List.cons_append, List.nil_append, cond_true, cond_false, Bool.cond_true, reduceCtorEq, Option.map_some, Option.map_none, forall_const, ne_eq, implies_true, Nat.reduceAdd, Nat.reduceLeDiff, Nat.reduceLT, Nat.beq, Option.isNone_none, beq_self_eq_true, bne_self_eq_false, Int.reduceBEq, Int.reduceBNe, Int.reduceLT, Int.reduceLE, Int.reduceGT, Int.reduceGE, Int.reduceEq, Int.reduceNe, Int.reduceToNat, List.take_zero, List.drop_zero, List.all_cons, List.all_nil, List.append_nil, List.length_append, List.length_set, List.append_assoc, List.drop_nil, List.take_nil] <;> try simp -dsimp only [if_conj])
            exact fin
          · have d3 : decide (n < -72057594037927936) = false := by simp; omega
            have d4 : decide (n > 72057594037927935) = true := by simp; omega
            (simp +contextual -dsimp only [R24, evA, evB, ↓a_on_t, ↓a_on_f, ↓a_on_und, ↓a_cond_b, ↓reduceIte, Go.Ab.part, List.getD_cons_zero, List.getD_cons_succ, List.set_cons_zero, List.set_cons_succ, List.length_cons, List.length_nil, List.cons_append, List.nil_append, cond_true, cond_false, Bool.cond_true, reduceCtorEq, Option.map_some, Option.map_none, forall_const, ne_eq, implies_true, Nat.reduceAdd, Nat.reduceLeDiff, Nat.reduceLT, Nat.beq, Option.isNone_none, beq_self_eq_true, bne_self_eq_false, Int.reduceBEq, Int.reduceBNe, Int.reduceLT, Int.reduceLE, Int.reduceGT, Int.reduceGE, Int.reduceEq, Int.reduceNe, Int.reduceToNat, List.take_zero, List.drop_zero, List.all_cons, List.all_nil, List.append_nil, List.length_append, List.length_set, List.append_assoc, List.drop_nil, List.take_nil, d2, d3, d4, e1] <;> try simp -dsimp only [if_conj])
            refine rFail_ok g1 ?_
            (simp +contextual -dsimp only [R24, evA, evB, ↓a_on_t, ↓a_on_f, ↓a_on_und, ↓a_cond_b, ↓reduceIte, Go.Ab.part, List.getD_cons_zero, List.getD_cons_succ, List.set_cons_zero, List.set_cons_succ, List.length_cons, List.length_nil, List.cons_append, List.nil_append, cond_true, cond_false, Bool.cond_true, reduceCtorEq, Option.map_some, Option.map_none, forall_const, ne_eq, implies_true, Nat.reduceAdd, Nat.reduceLeDiff, Nat.reduceLT, Nat.beq, Option.isNone_none, beq_self_eq_true, bne_self_eq_false, Int.reduceBEq, Int.reduceBNe, Int.reduceLT, Int.reduceLE, Int.reduceGT, Int.reduceGE, Int.reduceEq, Int.reduceNe, Int.reduceToNat, List.take_zero, List.drop_zero, List.all_cons, List.all_nil, List.append_nil, List.length_append, List.length_set, List.append_assoc, List.drop_nil, List.take_nil] <;> try simp -dsimp only [if_conj])
            exact fin
end Go.Proofs.Ytlfplmcidfflfaa
