import Derived.Test.YtlfplmcidfflfaaCG
set_option linter.unusedVariables false
set_option linter.unusedSimpArgs false
set_option maxRecDepth 100000
namespace Go.Proofs.Ytlfplmcidfflfaa
open Go.Ab
variable {h : Heap} {K : Kt}

/-- a number's 7-bit parts, read; none: refused -/
def rd : Nat → Cur → Option (List Nat) × Cur
  | 0, c => (none, c.fail 11)
  | k + 1, c => if (c.skip 1).e ≠ 0 then (none, c.skip 1) else if le (c.got 1) < 128 then (some [le (c.got 1) % 128], c.skip 1) else
      match rd k (c.skip 1) with
      | (some l, d) => (some (le (c.got 1) % 128 :: l), d)
      | (none, d) => (none, d)
def comb (pre : List Nat) : Option (List Nat) × Cur → Option (List Nat) × Cur
  | (some l, d) => (some (pre ++ l), d)
  | (none, d) => (none, d)
theorem rd_bad {k : Nat} {c : Cur} (h : (c.skip 1).e ≠ 0) : rd (k + 1) c = (none, c.skip 1) := by rw [rd, if_pos h]
theorem rd_end {k : Nat} {c : Cur} (h : (c.skip 1).e = 0) (h2 : le (c.got 1) < 128) : rd (k + 1) c = (some [le (c.got 1) % 128], c.skip 1) := by rw [rd, if_neg (by simp [h]), if_pos h2]
theorem rd_more {k : Nat} {c : Cur} (h : (c.skip 1).e = 0) (h2 : ¬ le (c.got 1) < 128) : rd (k + 1) c = comb [le (c.got 1) % 128] (rd k (c.skip 1)) := by
  rw [rd, if_neg (by simp [h]), if_neg h2]
  cases hr : rd k (c.skip 1) with
  | mk a d => cases a <;> rfl
theorem comb_comb (p q : List Nat) (r : Option (List Nat) × Cur) : comb p (comb q r) = comb (p ++ q) r := by
  obtain ⟨a, d⟩ := r
  cases a with
  | none => rfl
  | some l => simp [comb]
/-- the parts, in an array of ten -/
def arr (l : List Nat) : List UInt8 := l.map UInt8.ofNat ++ List.replicate (10 - l.length) 0
theorem arr_len {l : List Nat} (h : l.length ≤ 10) : (arr l).length = 10 := by simp [arr]; omega
theorem arr_set {l : List Nat} {x : Nat} (h : l.length < 10) : (arr l).set l.length (UInt8.ofNat x) = arr (l ++ [x]) := by
  unfold arr
  obtain ⟨k, hk⟩ : ∃ k, 10 - l.length = k + 1 := ⟨9 - l.length, by omega⟩
  rw [List.set_append_right _ _ (by simp), hk, List.length_map, Nat.sub_self, List.replicate_succ, List.set_cons_zero, List.map_append, List.length_append, List.length_singleton, show 10 - (l.length + 1) = k by omega]
  simp
theorem got1_lt {c : Cur} : le (c.got 1) < 256 := by
  have := le_lt (c.got 1)
  have hl := Cur.got_len (c := c) 1
  exact Nat.lt_of_lt_of_le this (by rw [show (256 : Nat) = 256 ^ 1 from rfl]; exact Nat.pow_le_pow_right (by decide) hl)
theorem rd_prop : ∀ (k : Nat) (c : Cur), (∀ l d, rd k c = (some l, d) → l.length ≤ k ∧ 1 ≤ l.length ∧ (∀ x ∈ l, x < 128) ∧ d.e = 0)
  | 0, c, l, d, h => by simp [rd] at h
  | k + 1, c, l, d, h => by
    by_cases h1 : (c.skip 1).e ≠ 0
    · rw [rd_bad h1] at h; cases h
    · have h1 : (c.skip 1).e = 0 := by simpa using h1
      by_cases h2 : le (c.got 1) < 128
      · rw [rd_end h1 h2] at h; cases h
        exact ⟨by simp, by simp, fun x hx => by simp at hx; omega, h1⟩
      · rw [rd_more h1 h2] at h
        cases hr : rd k (c.skip 1) with
        | mk a d' =>
          rw [hr] at h
          cases a with
          | none => cases h
          | some l' =>
            cases h
            obtain ⟨g1, g2, g3, g4⟩ := rd_prop k _ l' _ hr
            refine ⟨by simp; omega, by simp, fun x hx => ?_, g4⟩
            rcases List.mem_cons.1 hx with rfl | hx
            · omega
            · exact g3 x hx
theorem setAt_same : ∀ (m pre l : List AV), l.length = m.length → setAt (pre ++ l) pre.length m = pre ++ m
  | [], pre, l, h => by
    have : l = [] := List.eq_nil_of_length_eq_zero h
    subst this; rfl
  | x :: m, pre, l, h => by
    cases l with
    | nil => simp at h
    | cons y l =>
      show setAt ((pre ++ y :: l).set pre.length x) (pre.length + 1) m = _
      rw [List.set_append_right _ _ (Nat.le_refl _), Nat.sub_self, List.set_cons_zero]
      have := setAt_same m (pre ++ [x]) l (by simpa using h)
      rw [List.append_assoc, List.length_append, List.length_singleton] at this
      simpa using this
theorem setAt_whole {l m : List AV} (h : l.length = m.length) : setAt l 0 m = m := by simpa using setAt_same m [] l h
theorem seven_ok {c : Cur} {id : Nat} (hid : h.getD id .dead = cur c) (hi : c.inv)
    (h0 : ∀ d ps h1, rd 10 c = (none, d) → ps.length = 10 → h1.getD id .dead = cur d → d.inv → (∀ j, j < h.length → j ≠ id → h1.getD j .dead = h.getD j .dead) → h.length ≤ h1.length → K.K (.t [.g (byt ps), I 0, Bo false]) h1)
    (h2 : ∀ l d h1, rd 10 c = (some l, d) → h1.getD id .dead = cur d → d.inv → (∀ j, j < h.length → j ≠ id → h1.getD j .dead = h.getD j .dead) → h.length ≤ h1.length → K.K (.t [.g (byt (arr l)), I l.length, Bo true]) h1) : ACall X 29 [.p id 0] h K := by
  have hil := hlt hid (cur_ne c)
  apply i29
  (simp +contextual -dsimp only [R29, evA, evB, ↓a_on_t, ↓a_on_f, ↓a_on_und, ↓a_cond_b, ↓reduceIte, Go.Ab.part, List.getD_cons_zero, List.getD_cons_succ, List.set_cons_zero, List.set_cons_succ, List.length_cons, List.length_nil, List.cons_append, List.nil_append, cond_true, cond_false, Bool.cond_true, reduceCtorEq, Option.map_some, Option.map_none, forall_const, ne_eq, implies_true, Nat.reduceAdd, Nat.reduceLeDiff, Nat.reduceLT, Nat.beq, Option.isNone_none, beq_self_eq_true, bne_self_eq_false, Int.reduceBEq, Int.reduceBNe, Int.reduceLT, Int.reduceLE, Int.reduceGT, Int.reduceGE, Int.reduceEq, Int.reduceNe, Int.reduceToNat, List.take_zero, List.drop_zero, List.all_cons, List.all_nil, List.append_nil, List.length_append, List.length_set, List.append_assoc, List.drop_nil, List.take_nil] <;> try simp -dsimp only [if_conj])
  have ez : ([AV.v (.int .u8 0), AV.v (.int .u8 0), AV.v (.int .u8 0), AV.v (.int .u8 0), AV.v (.int .u8 0), AV.v (.int .u8 0), AV.v (.int .u8 0), AV.v (.int .u8 0), AV.v (.int .u8 0), AV.v (.int .u8 0)] : List AV) = byt (arr []) := rfl
  refine aloop (fun f st => ∃ pre d H, f + pre.length = 10 ∧ rd 10 c = comb pre (rd f d) ∧ d.inv ∧ H.getD id .dead = cur d ∧ H.getD h.length .dead = .o 1 (byt (arr pre)) ∧ (∀ j, j < h.length → j ≠ id → H.getD j .dead = h.getD j .dead) ∧ h.length + 1 ≤ H.length ∧
    st = ((.p id 0 :: sl st.1 1 :: .p h.length 0 :: I pre.length :: sl st.1 4 :: sl st.1 5 :: sl st.1 6 :: sl st.1 7 :: sl st.1 8 :: sl st.1 9 :: sl st.1 10 :: sl st.1 11 :: sl st.1 12 :: sl st.1 13 :: sl st.1 14 :: sl st.1 15 :: sl st.1 16 :: sl st.1 17 :: sl st.1 18 :: sl st.1 19 :: sl st.1 20 :: sl st.1 21 :: sl st.1 22 :: sl st.1 23 :: sl st.1 24 :: sl st.1 25 :: sl st.1 26 :: sl st.1 27 :: []), H)) 10 _ (by simp) (Weak.refl _ (by simp)) ⟨[], c, _, rfl, ?_, hi, hget_app hid (cur_ne c), hget_new, fun j hj _ => Adds.mk.at hj, by simp, rfl⟩ ?_
  · cases hr : rd 10 c with
    | mk a d => cases a <;> rfl
  rintro f st ⟨pre, d, H, hf, hrd, hdi, g1, g2, g3, g4, hst⟩
  rw [hst]
  cases f with
  | zero =>
    have d1 : decide ((pre.length : Int) < 10) = false := by simp; omega
    (simp +contextual -dsimp only [R29, evA, evB, ↓a_on_t, ↓a_on_f, ↓a_on_und, ↓a_cond_b, ↓reduceIte, Go.Ab.part, List.getD_cons_zero, List.getD_cons_succ, List.set_cons_zero, List.set_cons_succ, List.length_cons, List.length_nil, List.cons_append, List.nil_append, cond_true, cond_false, Bool.cond_true, reduceCtorEq, Option.map_some, Option.map_none, forall_const, ne_eq, implies_true, Nat.reduceAdd, Nat.reduceLeDiff, Nat.reduceLT, Nat.beq, Option.isNone_none, beq_self_eq_true, bne_self_eq_false, Int.reduceBEq, Int.reduceBNe, Int.reduceLT, Int.reduceLE, Int.reduceGT, Int.reduceGE, Int.reduceEq, Int.reduceNe, Int.reduceToNat, List.take_zero, List.drop_zero, List.all_cons, List.all_nil, List.append_nil, List.length_append, List.length_set, List.append_assoc, List.drop_nil, List.take_nil, d1] <;> try simp -dsimp only [if_conj])
    refine Fail_ok g1 ?_
    have gs : ∀ j, j ≠ id → (H.set id (cur (d.fail 11))).getD j .dead = H.getD j .dead := fun j hj => hget_set_ne (Ne.symm hj)
    have e1 : (H.set id (cur (d.fail 11))).getD h.length .dead = .o 1 (byt (arr pre)) := (gs _ (by omega)).trans g2
    have al : (byt (arr pre)).length = 10 := by rw [byt_length, arr_len (by omega)]
    have at10 : (byt (arr pre)).take 10 = byt (arr pre) := List.take_of_length_le (by rw [al]; exact Nat.le_refl _)
    have sw : setAt (byt (arr pre)) 0 (byt (arr pre)) = byt (arr pre) := setAt_whole rfl
    have e2 : ∀ o, ((H.set id (cur (d.fail 11))).set h.length o).getD h.length .dead = o := fun o => hget_set (by rw [List.length_set]; omega)
    have bo := byt_one (arr pre)
    have e3 : ((H.set id (cur (d.fail 11))).set h.length (.o 1 (byt (arr pre)))).getD id .dead = cur (d.fail 11) := (hget_set_ne (by omega)).trans (hget_set (hlt g1 (cur_ne _)))
    (simp +contextual -dsimp only [R29, evA, evB, ↓a_on_t, ↓a_on_f, ↓a_on_und, ↓a_cond_b, ↓reduceIte, Go.Ab.part, List.getD_cons_zero, List.getD_cons_succ, List.set_cons_zero, List.set_cons_succ, List.length_cons, List.length_nil, List.cons_append, List.nil_append, cond_true, cond_false, Bool.cond_true, reduceCtorEq, Option.map_some, Option.map_none, forall_const, ne_eq, implies_true, Nat.reduceAdd, Nat.reduceLeDiff, Nat.reduceLT, Nat.beq, Option.isNone_none, beq_self_eq_true, bne_self_eq_false, Int.reduceBEq, Int.reduceBNe, Int.reduceLT, Int.reduceLE, Int.reduceGT, Int.reduceGE, Int.reduceEq, Int.reduceNe, Int.reduceToNat, List.take_zero, List.drop_zero, List.all_cons, List.all_nil, List.append_nil, List.length_append, List.length_set, List.append_assoc, List.drop_nil, List.take_nil, e1, al, at10, sw, e2, bo] <;> try simp -dsimp only [if_conj])
    refine h0 (d.fail 11) (arr pre) _ (by rw [hrd]; rfl) (arr_len (by omega)) e3 (hdi.fail _) (fun j hj hj2 => ?_) (by simp only [List.length_set]; omega)
    rw [hget_set_ne (by omega), gs _ hj2]; exact g3 j hj hj2
  | succ f =>
    have d1 : decide ((pre.length : Int) < 10) = true := by simp; omega
    (simp +contextual -dsimp only [R29, evA, evB, ↓a_on_t, ↓a_on_f, ↓a_on_und, ↓a_cond_b, ↓reduceIte, Go.Ab.part, List.getD_cons_zero, List.getD_cons_succ, List.set_cons_zero, List.set_cons_succ, List.length_cons, List.length_nil, List.cons_append, List.nil_append, cond_true, cond_false, Bool.cond_true, reduceCtorEq, Option.map_some, Option.map_none, forall_const, ne_eq, implies_true, Nat.reduceAdd, Nat.reduceLeDiff, Nat.reduceLT, Nat.beq, Option.isNone_none, beq_self_eq_true, bne_self_eq_false, Int.reduceBEq, Int.reduceBNe, Int.reduceLT, Int.reduceLE, Int.reduceGT, Int.reduceGE, Int.reduceEq, Int.reduceNe, Int.reduceToNat, List.take_zero, List.drop_zero, List.all_cons, List.all_nil, List.append_nil, List.length_append, List.length_set, List.append_assoc, List.drop_nil, List.take_nil, d1] <;> try simp -dsimp only [if_conj])
    refine U8_ok g1 hdi ?_
    have gs : ∀ j, j ≠ id → (H.set id (cur (d.skip 1))).getD j .dead = H.getD j .dead := fun j hj => hget_set_ne (Ne.symm hj)
    have e1 : (H.set id (cur (d.skip 1))).getD h.length .dead = .o 1 (byt (arr pre)) := (gs _ (by omega)).trans g2
    have e0 : (H.set id (cur (d.skip 1))).getD id .dead = cur (d.skip 1) := hget_set (hlt g1 (cur_ne _))
    have hl1 : (H.set id (cur (d.skip 1))).length = H.length := by simp
    have e3 : ∀ j, j < h.length → j ≠ id → (H.set id (cur (d.skip 1))).getD j .dead = h.getD j .dead := fun j hj hj2 => (gs j hj2).trans (g3 j hj hj2)
    generalize H.set id (cur (d.skip 1)) = G at *
    (simp +contextual -dsimp only [R29, evA, evB, ↓a_on_t, ↓a_on_f, ↓a_on_und, ↓a_cond_b, ↓reduceIte, Go.Ab.part, List.getD_cons_zero, List.getD_cons_succ, List.set_cons_zero, List.set_cons_succ, List.length_cons, List.length_nil, List.cons_append, List.nil_append, cond_true, cond_false, Bool.cond_true, reduceCtorEq, Option.map_some, Option.map_none, forall_const, ne_eq, implies_true, Nat.reduceAdd, Nat.reduceLeDiff, Nat.reduceLT, Nat.beq, Option.isNone_none, beq_self_eq_true, bne_self_eq_false, Int.reduceBEq, Int.reduceBNe, Int.reduceLT, Int.reduceLE, Int.reduceGT, Int.reduceGE, Int.reduceEq, Int.reduceNe, Int.reduceToNat, List.take_zero, List.drop_zero, List.all_cons, List.all_nil, List.append_nil, List.length_append, List.length_set, List.append_assoc, List.drop_nil, List.take_nil] <;> try simp -dsimp only [if_conj])
    refine Err_ok e0 ?_
    have al : (byt (arr pre)).length = 10 := by rw [byt_length, arr_len (by omega)]
    have at10 : (byt (arr pre)).take 10 = byt (arr pre) := List.take_of_length_le (by rw [al]; exact Nat.le_refl _)
    have sw : setAt (byt (arr pre)) 0 (byt (arr pre)) = byt (arr pre) := setAt_whole rfl
    have bo := byt_one (arr pre)
    have e2 : ∀ o, (G.set h.length o).getD h.length .dead = o := fun o => hget_set (by omega)
    have e4 : ∀ o, (G.set h.length o).getD id .dead = cur (d.skip 1) := fun o => (hget_set_ne (by omega)).trans e0
    have e5 : ∀ o j, j < h.length → j ≠ id → (G.set h.length o).getD j .dead = h.getD j .dead := fun o j hj hj2 => (hget_set_ne (by omega)).trans (e3 j hj hj2)
    by_cases hz : (d.skip 1).e ≠ 0
    · have d2 : ((d.skip 1).e != 0) = true := by simpa using hz
      (simp +contextual -dsimp only [R29, evA, evB, ↓a_on_t, ↓a_on_f, ↓a_on_und, ↓a_cond_b, ↓reduceIte, Go.Ab.part, List.getD_cons_zero, List.getD_cons_succ, List.set_cons_zero, List.set_cons_succ, List.length_cons, List.length_nil, List.cons_append, List.nil_append, cond_true, cond_false, Bool.cond_true, reduceCtorEq, Option.map_some, Option.map_none, forall_const, ne_eq, implies_true, Nat.reduceAdd, Nat.reduceLeDiff, Nat.reduceLT, Nat.beq, Option.isNone_none, beq_self_eq_true, bne_self_eq_false, Int.reduceBEq, Int.reduceBNe, Int.reduceLT, Int.reduceLE, Int.reduceGT, Int.reduceGE, Int.reduceEq, Int.reduceNe, Int.reduceToNat, List.take_zero, List.drop_zero, List.all_cons, List.all_nil, List.append_nil, List.length_append, List.length_set, List.append_assoc, List.drop_nil, List.take_nil, d2, e1, al, at10, sw, e2, bo] <;> try simp -dsimp only [if_conj])
      exact h0 (d.skip 1) (arr pre) _ (by rw [hrd, rd_bad hz]; rfl) (arr_len (by omega)) (e4 _) (hdi.skip _) (e5 _) (by rw [List.length_set]; omega)
    · have hz : (d.skip 1).e = 0 := by simpa using hz
      have d2 : ((d.skip 1).e != 0) = false := by simp [hz]
      have hx := got1_lt (c := d)
      have r1 := and127 (le (d.got 1)) (by omega)
      have r2 : IntKind.u8.wrap ((le (d.got 1) % 128 : Nat) : Int) = ((le (d.got 1) % 128 : Nat) : Int) := by rw [wrap_u8_eq]; omega
      have r3 : IntKind.i64.wrap ((pre.length : Int) + 1) = ((pre.length + 1 : Nat) : Int) := by rw [wrap_i64 (by omega) (by omega)]; rfl
      have r4 : (byt (arr pre)).set pre.length (.v (.int .u8 ((le (d.got 1) % 128 : Nat) : Int))) = byt (arr (pre ++ [le (d.got 1) % 128])) := by
        have e : ((le (d.got 1) % 128 : Nat) : Int) = ((UInt8.ofNat (le (d.got 1) % 128)).toNat : Int) := by rw [UInt8.toNat_ofNat_of_lt' (by rw [show UInt8.size = 256 from rfl]; omega)]
        rw [e, byt_set, arr_set (by omega)]
      have al2 : (byt (arr (pre ++ [le (d.got 1) % 128]))).length = 10 := by rw [byt_length, arr_len (by simp; omega)]
      have at2 : (byt (arr (pre ++ [le (d.got 1) % 128]))).take 10 = byt (arr (pre ++ [le (d.got 1) % 128])) := List.take_of_length_le (by rw [al2]; exact Nat.le_refl _)
      have sw2 : setAt (byt (arr (pre ++ [le (d.got 1) % 128]))) 0 (byt (arr (pre ++ [le (d.got 1) % 128]))) = byt (arr (pre ++ [le (d.got 1) % 128])) := setAt_whole rfl
      have bo2 := byt_one (arr (pre ++ [le (d.got 1) % 128]))
      have hpl : (pre ++ [le (d.got 1) % 128]).length = pre.length + 1 := by simp
      by_cases hc : le (d.got 1) < 128
      · have d3 : decide (((le (d.got 1) : Nat) : Int) < 128) = true := by simp; omega
        (simp +contextual -dsimp only [R29, evA, evB, ↓a_on_t, ↓a_on_f, ↓a_on_und, ↓a_cond_b, ↓reduceIte, Go.Ab.part, List.getD_cons_zero, List.getD_cons_succ, List.set_cons_zero, List.set_cons_succ, List.length_cons, List.length_nil, List.cons_append, List.nil_append, cond_true, cond_false, Bool.cond_true, reduceCtorEq, Option.map_some, Option.map_none, forall_const, ne_eq, implies_true, Nat.reduceAdd, Nat.reduceLeDiff, Nat.reduceLT, Nat.beq, Option.isNone_none, beq_self_eq_true, bne_self_eq_false, Int.reduceBEq, Int.reduceBNe, Int.reduceLT, Int.reduceLE, Int.reduceGT, Int.reduceGE, Int.reduceEq, Int.reduceNe, Int.reduceToNat, List.take_zero, List.drop_zero, List.all_cons, List.all_nil, List.append_nil, List.length_append, List.length_set, List.append_assoc, List.drop_nil, List.take_nil, d2, d3, r1, r2, r3, e1, al, r4, e2, al2, at2, sw2, bo2, List.set_set] <;> try simp -dsimp only [if_conj])
        have := h2 (pre ++ [le (d.got 1) % 128]) (d.skip 1) _ (by rw [hrd, rd_end hz hc]; rfl) (e4 (.o 1 (byt (arr (pre ++ [le (d.got 1) % 128]))))) (hdi.skip _) (e5 _) (by rw [List.length_set]; omega)
        rw [hpl] at this
        exact ⟨⟨by omega, by omega⟩, by omega, this⟩
      · have d3 : decide (((le (d.got 1) : Nat) : Int) < 128) = false := by simp; omega
        (simp +contextual -dsimp only [R29, evA, evB, ↓a_on_t, ↓a_on_f, ↓a_on_und, ↓a_cond_b, ↓reduceIte, Go.Ab.part, List.getD_cons_zero, List.getD_cons_succ, List.set_cons_zero, List.set_cons_succ, List.length_cons, List.length_nil, List.cons_append, List.nil_append, cond_true, cond_false, Bool.cond_true, reduceCtorEq, Option.map_some, Option.map_none, forall_const, ne_eq, implies_true, Nat.reduceAdd, Nat.reduceLeDiff, Nat.reduceLT, Nat.beq, Option.isNone_none, beq_self_eq_true, bne_self_eq_false, Int.reduceBEq, Int.reduceBNe, Int.reduceLT, Int.reduceLE, Int.reduceGT, Int.reduceGE, Int.reduceEq, Int.reduceNe, Int.reduceToNat, List.take_zero, List.drop_zero, List.all_cons, List.all_nil, List.append_nil, List.length_append, List.length_set, List.append_assoc, List.drop_nil, List.take_nil, d2, d3, r1, r2, r3, e1, al, r4, e2, al2, at2, sw2, bo2] <;> try simp -dsimp only [if_conj])
        refine ⟨⟨by omega, by omega⟩, by omega, f, _, by omega, Weak.refl _ (by rw [List.length_set]; omega), pre ++ [le (d.got 1) % 128], d.skip 1, _, by omega, by rw [hrd, rd_more hz hc, comb_comb], hdi.skip _, e4 _, e2 _, e5 _, by rw [List.length_set]; omega, ?_⟩
        rw [hpl]; rfl
/-- the number of parts -/
def vl : List Nat → Nat
  | [] => 0
  | x :: r => x + 128 * vl r
theorem vl_lt : ∀ {l : List Nat}, (∀ x ∈ l, x < 128) → vl l < 128 ^ l.length
  | [], _ => by simp [vl]
  | x :: r, h => by
    have h1 := h x (by simp)
    have h2 := vl_lt (l := r) fun y hy => h y (by simp [hy])
    simp only [vl, List.length_cons, Nat.pow_succ]; omega
theorem vl_append : ∀ l m : List Nat, vl (l ++ m) = vl l + 128 ^ l.length * vl m
  | [], m => by simp [vl]
  | x :: r, m => by
    simp only [List.cons_append, vl, vl_append r m, List.length_cons, Nat.pow_succ]
    rw [Nat.mul_add, ← Nat.mul_assoc, Nat.mul_comm 128 (128 ^ r.length)]; omega
theorem vl_zeros (k : Nat) : vl (List.replicate k 0) = 0 := by
  induction k with
  | zero => rfl
  | succ k ih => rw [List.replicate_succ, vl, ih]
theorem or_part {a x i : Nat} (hi : i < 10) (ha : a < 128 ^ i) (hx : x < 128) :
    abits .or .u64 a (IntKind.u64.wrap ((x : Int) * 2 ^ min (Int.toNat (7 * (i : Int))) IntKind.u64.bits)) = (((a + 128 ^ i * x) % 18446744073709551616 : Nat) : Int) := by
  have e8 : (128 : Nat) ^ i = 2 ^ (7 * i) := by rw [Nat.pow_mul]
  have hb : min (Int.toNat (7 * (i : Int))) IntKind.u64.bits = 7 * i := by
    simp only [IntKind.bits]; omega
  have ha2 : a < 2 ^ (7 * i) := by rw [← e8]; exact ha
  have ha3 : a < 2 ^ 64 := Nat.lt_of_lt_of_le ha2 (Nat.pow_le_pow_right (by omega) (by omega))
  rw [hb, e8]
  have ew : IntKind.u64.wrap ((x : Int) * 2 ^ (7 * i)) = ((x * 2 ^ (7 * i) % 2 ^ 64 : Nat) : Int) := by
    have e0 : ((x : Int) * 2 ^ (7 * i)) = ((x * 2 ^ (7 * i) : Nat) : Int) := by push_cast; rfl
    rw [e0, wrap_u64_eq]
    generalize x * 2 ^ (7 * i) = N
    omega
  -- the shifted part, cut, is a multiple again
  obtain ⟨y, hy⟩ : ∃ y, x * 2 ^ (7 * i) % 2 ^ 64 = y * 2 ^ (7 * i) := by
    refine ⟨x % 2 ^ (64 - 7 * i), ?_⟩
    have : (2 : Nat) ^ 64 = 2 ^ (64 - 7 * i) * 2 ^ (7 * i) := by rw [← Nat.pow_add]; congr 1; omega
    rw [this, Nat.mul_mod_mul_right]
  have hlt : y * 2 ^ (7 * i) < 2 ^ 64 := by rw [← hy]; exact Nat.mod_lt _ (by decide)
  rw [ew, hy]
  change IntKind.u64.wrap (((BitVec.ofInt 64 (a : Int)) ||| (BitVec.ofInt 64 ((y * 2 ^ (7 * i) : Nat) : Int))).toNat : Int) = _
  have e1 : BitVec.ofInt 64 (a : Int) = BitVec.ofNat 64 a := by simp
  have e2 : BitVec.ofInt 64 ((y * 2 ^ (7 * i) : Nat) : Int) = BitVec.ofNat 64 (y * 2 ^ (7 * i)) := BitVec.ofInt_natCast ..
  rw [e1, e2, BitVec.toNat_or, BitVec.toNat_ofNat, BitVec.toNat_ofNat, Nat.mod_eq_of_lt ha3, Nat.mod_eq_of_lt hlt, or_shift ha2]
  have h3 : a + y * 2 ^ (7 * i) < 2 ^ 64 := by
    rw [← or_shift ha2]; exact Nat.or_lt_two_pow ha3 hlt
  rw [wrap_u64 (by omega) (by omega)]
  congr 1
  rw [Nat.mul_comm (2 ^ (7 * i)) x, Nat.add_mod, show (18446744073709551616 : Nat) = 2 ^ 64 from rfl, hy, Nat.mod_eq_of_lt ha3, Nat.mod_eq_of_lt h3]
theorem whole_ok {l : List Nat} (hl : l.length ≤ 10) (hx : ∀ x ∈ l, x < 128) (hK : ∀ h1, Keeps h h1 → K.K (U ((vl l % 18446744073709551616 : Nat) : Int)) h1) : ACall X 31 [.g (byt (arr l))] h K := by
  have al : (byt (arr l)).length = 10 := by rw [byt_length, arr_len hl]
  have at10 : (byt (arr l)).take 10 = byt (arr l) := List.take_of_length_le (by rw [al]; exact Nat.le_refl _)
  have bo := byt_one (arr l)
  apply i31
  (simp +contextual -dsimp only [R31, evA, evB, ↓a_on_t, ↓a_on_f, ↓a_on_und, ↓a_cond_b, ↓reduceIte, Go.Ab.part, List.getD_cons_zero, List.getD_cons_succ, List.set_cons_zero, List.set_cons_succ, List.length_cons, List.length_nil, List.cons_append, List.nil_append, cond_true, cond_false, Bool.cond_true, reduceCtorEq, Option.map_some, Option.map_none, forall_const, ne_eq, implies_true, Nat.reduceAdd, Nat.reduceLeDiff, Nat.reduceLT, Nat.beq, Option.isNone_none, beq_self_eq_true, bne_self_eq_false, Int.reduceBEq, Int.reduceBNe, Int.reduceLT, Int.reduceLE, Int.reduceGT, Int.reduceGE, Int.reduceEq, Int.reduceNe, Int.reduceToNat, List.take_zero, List.drop_zero, List.all_cons, List.all_nil, List.append_nil, List.length_append, List.length_set, List.append_assoc, List.drop_nil, List.take_nil, al, at10, bo, hget_new] <;> try simp -dsimp only [if_conj])
  generalize hps : l ++ List.replicate (10 - l.length) 0 = ps
  have hpl : ps.length = 10 := by rw [← hps]; simp; omega
  have hpx : ∀ x ∈ ps, x < 128 := fun x hx2 => by
    rw [← hps] at hx2
    rcases List.mem_append.1 hx2 with h | h
    · exact hx x h
    · rw [List.eq_of_mem_replicate h]; decide
  have hvl : vl ps = vl l := by rw [← hps, vl_append, vl_zeros]; simp
  have harr : arr l = ps.map UInt8.ofNat := by rw [← hps, arr, List.map_append, List.map_replicate]; rfl
  rw [← hvl] at hK
  refine aloop (fun m st => ∃ i, m + i = 10 ∧ st = ((sl st.1 0 :: sl st.1 1 :: sl st.1 2 :: U ((vl (ps.take i) % 18446744073709551616 : Nat) : Int) :: sl st.1 4 :: sl st.1 5 :: .g (byt (arr l)) :: I i :: sl st.1 8 :: sl st.1 9 :: sl st.1 10 :: sl st.1 11 :: sl st.1 12 :: sl st.1 13 :: sl st.1 14 :: sl st.1 15 :: sl st.1 16 :: sl st.1 17 :: sl st.1 18 :: sl st.1 19 :: sl st.1 20 :: []), h ++ [AO.o 1 (byt (arr l))])) 10 _ (by simp) (Weak.refl _ (by simp)) ⟨0, rfl, rfl⟩ ?_
  rintro m st ⟨i, hm, hst⟩
  rw [hst]
  by_cases hi : i < 10
  · have d1 : decide ((i : Int) < 10) = true := by simp; omega
    have hg : ps.getD i 0 < 128 := by rw [List.getD_eq_getElem?_getD, List.getElem?_eq_getElem (by omega)]; exact hpx _ (List.getElem_mem _)
    have b1 : (byt (arr l)).getD i .bad = .v (.int .u8 ((ps.getD i 0 : Nat) : Int)) := by
      rw [byt_getD (by rw [arr_len hl]; exact hi), harr, List.getD_eq_getElem?_getD, List.getElem?_map, List.getD_eq_getElem?_getD, List.getElem?_eq_getElem (by omega)]
      show AV.v (.int .u8 ((UInt8.ofNat ps[i]).toNat : Int)) = _
      have : ps[i] < 128 := hpx _ (List.getElem_mem _)
      rw [UInt8.toNat_ofNat_of_lt' (by rw [show UInt8.size = 256 from rfl]; omega)]; rfl
    have htk := take_succ (l := ps) (i := i) (by omega)
    have hvt : vl (ps.take i) < 128 ^ i := by
      have := vl_lt (l := ps.take i) fun x hx => hpx x (List.mem_of_mem_take hx)
      rwa [List.length_take, Nat.min_eq_left (by omega)] at this
    have hv63 : vl (ps.take i) < 18446744073709551616 := Nat.lt_of_lt_of_le hvt (Nat.le_trans (Nat.pow_le_pow_right (by decide) (show i ≤ 9 by omega)) (by decide))
    have r0 : vl (ps.take i) % 18446744073709551616 = vl (ps.take i) := Nat.mod_eq_of_lt hv63
    have r1 : IntKind.u64.wrap ((ps.getD i 0 : Nat) : Int) = ((ps.getD i 0 : Nat) : Int) := wrap_u64 (by omega) (by omega)
    have r2 : IntKind.u64.wrap (IntKind.i64.wrap (7 * (i : Int))) = 7 * (i : Int) := by rw [wrap_i64 (by omega) (by omega), wrap_u64 (by omega) (by omega)]
    have r3 := or_part hi hvt hg
    have r4 : IntKind.i64.wrap ((i : Int) + 1) = ((i + 1 : Nat) : Int) := by rw [wrap_i64 (by omega) (by omega)]; rfl
    have hstep : vl (ps.take (i + 1)) = vl (ps.take i) + 128 ^ i * ps.getD i 0 := by
      rw [htk, vl_append, List.length_take, Nat.min_eq_left (by omega)]; simp [vl]
    rw [← hstep] at r3
    rw [r0]
    generalize ps.getD i 0 = x at *
    (simp +contextual -dsimp only [R31, evA, evB, ↓a_on_t, ↓a_on_f, ↓a_on_und, ↓a_cond_b, ↓reduceIte, Go.Ab.part, List.getD_cons_zero, List.getD_cons_succ, List.set_cons_zero, List.set_cons_succ, List.length_cons, List.length_nil, List.cons_append, List.nil_append, cond_true, cond_false, Bool.cond_true, reduceCtorEq, Option.map_some, Option.map_none, forall_const, ne_eq, implies_true, Nat.reduceAdd, Nat.reduceLeDiff, Nat.reduceLT, Nat.beq, Option.isNone_none, beq_self_eq_true, bne_self_eq_false, Int.reduceBEq, Int.reduceBNe, Int.reduceLT, Int.reduceLE, Int.reduceGT, Int.reduceGE, Int.reduceEq, Int.reduceNe, Int.reduceToNat, List.take_zero, List.drop_zero, List.all_cons, List.all_nil, List.append_nil, List.length_append, List.length_set, List.append_assoc, List.drop_nil, List.take_nil, d1, b1, al, r1, r2, r3, r4] <;> try simp -dsimp only [if_conj])
    exact ⟨⟨⟨by omega, by omega⟩, by omega⟩, by omega, m - 1, _, by omega, Weak.refl _ (by simp), i + 1, by omega, rfl⟩
  · have hi : i = 10 := by omega
    subst hi
    have d1 : decide (((10 : Nat) : Int) < 10) = false := rfl
    (simp +contextual -dsimp only [R31, evA, evB, ↓a_on_t, ↓a_on_f, ↓a_on_und, ↓a_cond_b, ↓reduceIte, Go.Ab.part, List.getD_cons_zero, List.getD_cons_succ, List.set_cons_zero, List.set_cons_succ, List.length_cons, List.length_nil, List.cons_append, List.nil_append, cond_true, cond_false, Bool.cond_true, reduceCtorEq, Option.map_some, Option.map_none, forall_const, ne_eq, implies_true, Nat.reduceAdd, Nat.reduceLeDiff, Nat.reduceLT, Nat.beq, Option.isNone_none, beq_self_eq_true, bne_self_eq_false, Int.reduceBEq, Int.reduceBNe, Int.reduceLT, Int.reduceLE, Int.reduceGT, Int.reduceGE, Int.reduceEq, Int.reduceNe, Int.reduceToNat, List.take_zero, List.drop_zero, List.all_cons, List.all_nil, List.append_nil, List.length_append, List.length_set, List.append_assoc, List.drop_nil, List.take_nil, d1] <;> try simp -dsimp only [if_conj])
    rw [show ps.take 10 = ps from List.take_of_length_le (by omega)]
    exact hK _ (Keeps.adds Adds.mk)
end Go.Proofs.Ytlfplmcidfflfaa
