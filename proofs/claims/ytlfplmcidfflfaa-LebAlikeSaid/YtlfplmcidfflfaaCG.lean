import Derived.Test.YtlfplmcidfflfaaCF
set_option linter.unusedVariables false
set_option linter.unusedSimpArgs false
set_option maxRecDepth 100000
namespace Go.Proofs.Ytlfplmcidfflfaa
open Go.Ab
variable {h : Heap} {K : Kt}

theorem rPutS_ok {n : Int} (hn1 : -9223372036854775808 ≤ n) (hn2 : n < 9223372036854775808) (hK : PutsN h (enc (sp 9 n)) K) : ACall X 18 [I n] h K := by
  apply i18
  (simp +contextual -dsimp only [R18, evA, evB, ↓a_on_t, ↓a_on_f, ↓a_on_und, ↓a_cond_b, ↓reduceIte, Go.Ab.part, List.getD_cons_zero, List.getD_cons_succ, List.set_cons_zero, List.set_cons_succ, List.length_cons, List.length_nil, List.cons_append, List.nil_append, cond_true, cond_false, Bool.cond_true, reduceCtorEq, Option.map_some, Option.map_none, forall_const, ne_eq, implies_true, Nat.reduceAdd, Nat.reduceLeDiff, Nat.reduceLT, Nat.beq, Option.isNone_none, beq_self_eq_true, bne_self_eq_false, Int.reduceBEq, Int.reduceBNe, Int.reduceLT, Int.reduceLE, Int.reduceGT, Int.reduceGE, Int.reduceEq, Int.reduceNe, Int.reduceToNat, List.take_zero, List.drop_zero, List.all_cons, List.all_nil, List.append_nil, List.length_append, List.length_set, List.append_assoc, List.drop_nil, List.take_nil] <;> try simp -dsimp only [if_conj])
  have hb : (11 : Nat) ≤ bigRoom := by decide
  refine aloop (fun f st => ∃ i m h1 id1, f + i ≤ 9 ∧ (sp 9 n).drop i = sp f m ∧ i ≤ (sp 9 n).length ∧ (-(64 * 128 ^ f : Int) ≤ m ∧ m < 64 * 128 ^ f) ∧ -9223372036854775808 ≤ m ∧ m < 9223372036854775808 ∧ Grown (h ++ [.o 1 []]) h.length h1 id1 (.o 1 (byt (hi7 ((sp 9 n).take i)))) ∧ st = ((I m :: sl st.1 1 :: sl st.1 2 :: .s id1 0 i :: sl st.1 4 :: sl st.1 5 :: sl st.1 6 :: sl st.1 7 :: sl st.1 8 :: sl st.1 9 :: sl st.1 10 :: sl st.1 11 :: sl st.1 12 :: sl st.1 13 :: sl st.1 14 :: sl st.1 15 :: sl st.1 16 :: sl st.1 17 :: sl st.1 18 :: sl st.1 19 :: sl st.1 20 :: sl st.1 21 :: sl st.1 22 :: sl st.1 23 :: sl st.1 24 :: sl st.1 25 :: sl st.1 26 :: sl st.1 27 :: sl st.1 28 :: sl st.1 29 :: sl st.1 30 :: sl st.1 31 :: sl st.1 32 :: sl st.1 33 :: sl st.1 34 :: sl st.1 35 :: []), h1)) 9 _ (Nat.le_refl _)
    (weak_nils (tm' := (I n :: .bad :: .bad :: .s h.length 0 0 :: .bad :: .bad :: .bad :: .bad :: .bad :: .bad :: .bad :: .bad :: .bad :: .bad :: .bad :: .bad :: .bad :: .bad :: .bad :: .bad :: .bad :: .bad :: .bad :: .bad :: .bad :: .bad :: .bad :: .bad :: .bad :: .bad :: .bad :: .bad :: .bad :: .bad :: .bad :: .bad :: [])) (sz := 1) (Nat.le_refl _) (by simp [NilOk])) ⟨0, n, h ++ [.o 1 []], h.length, by omega, rfl, Nat.zero_le _, by omega, hn1, hn2, Grown.refl hget_new, rfl⟩ ?_
  rintro f st ⟨i, m, h1, id1, hfi, hu1, hu2, hm1, hm2, hm3, g, hst⟩
  rw [hst]
  have hid1 := hlt g.get (by simp)
  obtain ⟨u1, u2, u3, u4⟩ := sp_prop 9 n
  have hne : ¬ h1.length = id1 := by omega
  have et : ∀ x : AV, List.take 1 [x] = [x] := fun _ => rfl
  have hal : (hi7 ((sp 9 n).take i)).length = i := by rw [hi7_len, List.length_take]; omega
  have e2 : List.take i (byt (hi7 ((sp 9 n).take i))) = byt (hi7 ((sp 9 n).take i)) := List.take_of_length_le (by rw [byt_length, hal]; exact Nat.le_refl _)
  have s3 : ∀ y : Int, (h1 ++ [AO.o 1 [.v (.int .u8 y)]]).getD id1 .dead = .o 1 (byt (hi7 ((sp 9 n).take i))) := fun y => hget_app g.get (by simp)
  by_cases hc : -64 ≤ m ∧ m ≤ 63
  · have d1 : decide (m < -64) = false := by simp; omega
    have d2 : decide (m > 63) = false := by simp; omega
    have hxs : (sp 9 n).drop i = [(m % 128).toNat] := by
      rcases sp_case f m hm1 with ⟨a, b⟩ | ⟨f', a, b, c, d⟩
      · rw [hu1, a]
      · exact absurd (by omega) c
    obtain ⟨hk, hg, hd⟩ := drop_cons (d := 0) hxs
    have hlen : i + 1 = (sp 9 n).length := by have := List.drop_eq_nil_iff.1 hd; omega
    have henc : enc (sp 9 n) = hi7 ((sp 9 n).take i) ++ [UInt8.ofNat (m % 128).toNat] := by
      conv => lhs; rw [take_last hlen, hg]
      exact enc_snoc _ _
    have gg := g.step (x := AO.o 1 [.v (.int .u8 (((m % 128).toNat : Nat) : Int))]) (p := AO.o 1 (byt (enc (sp 9 n)))) (by simp)
    have fin := hK _ _ gg.keepsNew (by have := g.len; simp at this; omega) gg.get
    rw [enc_len, ← hlen] at fin
    by_cases hz : m < 0
    · have d3 : decide (m < 0) = true := by simp; omega
      have r1 : IntKind.u8.wrap (IntKind.i64.wrap (m + 128)) = (((m % 128).toNat : Nat) : Int) := by rw [wrap_i64 (by omega) (by omega), wrap_u8_eq]; omega
      (simp +contextual -dsimp only [R18, evA, evB, ↓a_on_t, ↓a_on_f, ↓a_on_und, ↓a_cond_b, ↓reduceIte, Go.Ab.part, List.getD_cons_zero, List.getD_cons_succ, List.set_cons_zero, List.set_cons_succ, List.length_cons, List.length_nil, List.cons_append, List.nil_append, cond_true, cond_false, Bool.cond_true, reduceCtorEq, Option.map_some, Option.map_none, forall_const, ne_eq, implies_true, Nat.reduceAdd, Nat.reduceLeDiff, Nat.reduceLT, Nat.beq, Option.isNone_none, beq_self_eq_true, bne_self_eq_false, Int.reduceBEq, Int.reduceBNe, Int.reduceLT, Int.reduceLE, Int.reduceGT, Int.reduceGE, Int.reduceEq, Int.reduceNe, Int.reduceToNat, List.take_zero, List.drop_zero, List.all_cons, List.all_nil, List.append_nil, List.length_append, List.length_set, List.append_assoc, List.drop_nil, List.take_nil, d1, d2, d3, r1, s3, hget_new, et, e2] <;> try simp -dsimp only [if_conj])
      refine ⟨⟨by omega, by omega, hne⟩, ?_⟩
      rw [byt_snoc8 _ _ (by omega), ← henc]
      exact fin
    · have d3 : decide (m < 0) = false := by simp; omega
      have r1 : IntKind.u8.wrap m = (((m % 128).toNat : Nat) : Int) := by rw [wrap_u8_eq]; omega
      (simp +contextual -dsimp only [R18, evA, evB, ↓a_on_t, ↓a_on_f, ↓a_on_und, ↓a_cond_b, ↓reduceIte, Go.Ab.part, List.getD_cons_zero, List.getD_cons_succ, List.set_cons_zero, List.set_cons_succ, List.length_cons, List.length_nil, List.cons_append, List.nil_append, cond_true, cond_false, Bool.cond_true, reduceCtorEq, Option.map_some, Option.map_none, forall_const, ne_eq, implies_true, Nat.reduceAdd, Nat.reduceLeDiff, Nat.reduceLT, Nat.beq, Option.isNone_none, beq_self_eq_true, bne_self_eq_false, Int.reduceBEq, Int.reduceBNe, Int.reduceLT, Int.reduceLE, Int.reduceGT, Int.reduceGE, Int.reduceEq, Int.reduceNe, Int.reduceToNat, List.take_zero, List.drop_zero, List.all_cons, List.all_nil, List.append_nil, List.length_append, List.length_set, List.append_assoc, List.drop_nil, List.take_nil, d1, d2, d3, r1, s3, hget_new, et, e2] <;> try simp -dsimp only [if_conj])
      refine ⟨⟨by omega, by omega, hne⟩, ?_⟩
      rw [byt_snoc8 _ _ (by omega), ← henc]
      exact fin
  · obtain ⟨f', hf, hxs, hm4⟩ : ∃ f', f = f' + 1 ∧ (sp 9 n).drop i = (m % 128).toNat :: sp f' (m / 128) ∧ (-(64 * 128 ^ f' : Int) ≤ m / 128 ∧ m / 128 < 64 * 128 ^ f') := by
      rcases sp_case f m hm1 with ⟨_, b⟩ | ⟨f', a, b, c, d⟩
      · omega
      · exact ⟨f', a, hu1.trans b, d⟩
    obtain ⟨hk, hg, hd⟩ := drop_cons (d := 0) hxs
    have gg := g.step (x := AO.o 1 [.v (.int .u8 (((m % 128).toNat + 128 : Nat) : Int))]) (p := AO.o 1 (byt (hi7 ((sp 9 n).take i) ++ [UInt8.ofNat ((m % 128).toNat + 128)]))) (by simp)
    rw [← hi7_snoc, ← hg, ← take_succ hk, hg] at gg
    have hsn : byt (hi7 ((sp 9 n).take i)) ++ [.v (.int .u8 (((m % 128).toNat + 128 : Nat) : Int))] = byt (hi7 ((sp 9 n).take (i + 1))) := by
      rw [byt_snoc8 _ _ (by omega), ← hi7_snoc, ← hg, ← take_succ hk]
    have hr : ∃ b : Bool, decide (m < -64) = b ∧ (b = true ∨ decide (m > 63) = true) := ⟨_, rfl, by simp; omega⟩
    obtain ⟨b, hb1, hb2⟩ := hr
    have r2 : IntKind.u8.wrap (((m % 128 + 128 : Int))) = (((m % 128).toNat + 128 : Nat) : Int) := by rw [wrap_u8_eq]; omega
    have r3 : IntKind.i64.wrap (m % 128 + 128) = m % 128 + 128 := wrap_i64 (by omega) (by omega)
    have r4 : IntKind.i64.wrap (m - m % 128) = m - m % 128 := wrap_i64 (by omega) (by omega)
    have r5 : (m - m % 128).tdiv 128 = m / 128 := by
      rw [show m - m % 128 = 128 * (m / 128) by omega, Int.mul_tdiv_cancel_left _ (by decide)]
    have r6 : IntKind.i64.wrap (m / 128) = m / 128 := wrap_i64 (by omega) (by omega)
    by_cases hz : m.tmod 128 < 0
    · have d3 : decide (m.tmod 128 < 0) = true := by simpa using hz
      have r1 : IntKind.i64.wrap (m.tmod 128 + 128) = m % 128 := by
        have : m.tmod 128 + 128 = m % 128 := by have := Int.tmod_eq_emod (a := m) (b := 128); split at this <;> simp at this <;> omega
        rw [this, wrap_i64 (by omega) (by omega)]
      cases b with
      | true =>
        (simp +contextual -dsimp only [R18, evA, evB, ↓a_on_t, ↓a_on_f, ↓a_on_und, ↓a_cond_b, ↓reduceIte, Go.Ab.part, List.getD_cons_zero, List.getD_cons_succ, List.set_cons_zero, List.set_cons_succ, List.length_cons, List.length_nil, List.cons_append, List.nil_append, cond_true, cond_false, Bool.cond_true, reduceCtorEq, Option.map_some, Option.map_none, forall_const, ne_eq, implies_true, Nat.reduceAdd, Nat.reduceLeDiff, Nat.reduceLT, Nat.beq, Option.isNone_none, beq_self_eq_true, bne_self_eq_false, Int.reduceBEq, Int.reduceBNe, Int.reduceLT, Int.reduceLE, Int.reduceGT, Int.reduceGE, Int.reduceEq, Int.reduceNe, Int.reduceToNat, List.take_zero, List.drop_zero, List.all_cons, List.all_nil, List.append_nil, List.length_append, List.length_set, List.append_assoc, List.drop_nil, List.take_nil, hb1, d3, r1, r2, r3, r4, r5, r6, s3, hget_new, et, e2, hsn] <;> try simp -dsimp only [if_conj])
        exact ⟨⟨by omega, by omega, hne⟩, f', _, by omega, Weak.refl _ (by have := gg.len; simp at this ⊢; omega), i + 1, m / 128, _, _, by omega, hd, by omega, hm4, by omega, by omega, gg, rfl⟩
      | false =>
        have hb2 := hb2.resolve_left (by simp)
        (simp +contextual -dsimp only [R18, evA, evB, ↓a_on_t, ↓a_on_f, ↓a_on_und, ↓a_cond_b, ↓reduceIte, Go.Ab.part, List.getD_cons_zero, List.getD_cons_succ, List.set_cons_zero, List.set_cons_succ, List.length_cons, List.length_nil, List.cons_append, List.nil_append, cond_true, cond_false, Bool.cond_true, reduceCtorEq, Option.map_some, Option.map_none, forall_const, ne_eq, implies_true, Nat.reduceAdd, Nat.reduceLeDiff, Nat.reduceLT, Nat.beq, Option.isNone_none, beq_self_eq_true, bne_self_eq_false, Int.reduceBEq, Int.reduceBNe, Int.reduceLT, Int.reduceLE, Int.reduceGT, Int.reduceGE, Int.reduceEq, Int.reduceNe, Int.reduceToNat, List.take_zero, List.drop_zero, List.all_cons, List.all_nil, List.append_nil, List.length_append, List.length_set, List.append_assoc, List.drop_nil, List.take_nil, hb1, hb2, d3, r1, r2, r3, r4, r5, r6, s3, hget_new, et, e2, hsn] <;> try simp -dsimp only [if_conj])
        exact ⟨⟨by omega, by omega, hne⟩, f', _, by omega, Weak.refl _ (by have := gg.len; simp at this ⊢; omega), i + 1, m / 128, _, _, by omega, hd, by omega, hm4, by omega, by omega, gg, rfl⟩
    · have d3 : decide (m.tmod 128 < 0) = false := by simp; omega
      have r1 : m.tmod 128 = m % 128 := by have := Int.tmod_eq_emod (a := m) (b := 128); split at this <;> simp at this <;> omega
      rw [r1] at d3
      cases b with
      | true =>
        (simp +contextual -dsimp only [R18, evA, evB, ↓a_on_t, ↓a_on_f, ↓a_on_und, ↓a_cond_b, ↓reduceIte, Go.Ab.part, List.getD_cons_zero, List.getD_cons_succ, List.set_cons_zero, List.set_cons_succ, List.length_cons, List.length_nil, List.cons_append, List.nil_append, cond_true, cond_false, Bool.cond_true, reduceCtorEq, Option.map_some, Option.map_none, forall_const, ne_eq, implies_true, Nat.reduceAdd, Nat.reduceLeDiff, Nat.reduceLT, Nat.beq, Option.isNone_none, beq_self_eq_true, bne_self_eq_false, Int.reduceBEq, Int.reduceBNe, Int.reduceLT, Int.reduceLE, Int.reduceGT, Int.reduceGE, Int.reduceEq, Int.reduceNe, Int.reduceToNat, List.take_zero, List.drop_zero, List.all_cons, List.all_nil, List.append_nil, List.length_append, List.length_set, List.append_assoc, List.drop_nil, List.take_nil, hb1, r1, d3, r2, r3, r4, r5, r6, s3, hget_new, et, e2, hsn] <;> try simp -dsimp only [if_conj])
        exact ⟨⟨by omega, by omega, hne⟩, f', _, by omega, Weak.refl _ (by have := gg.len; simp at this ⊢; omega), i + 1, m / 128, _, _, by omega, hd, by omega, hm4, by omega, by omega, gg, rfl⟩
      | false =>
        have hb2 := hb2.resolve_left (by simp)
        (simp +contextual -dsimp only [R18, evA, evB, ↓a_on_t, ↓a_on_f, ↓a_on_und, ↓a_cond_b, ↓reduceIte, Go.Ab.part, List.getD_cons_zero, List.getD_cons_succ, List.set_cons_zero, List.set_cons_succ, List.length_cons, List.length_nil, List.cons_append, List.nil_append, cond_true, cond_false, Bool.cond_true, reduceCtorEq, Option.map_some, Option.map_none, forall_const, ne_eq, implies_true, Nat.reduceAdd, Nat.reduceLeDiff, Nat.reduceLT, Nat.beq, Option.isNone_none, beq_self_eq_true, bne_self_eq_false, Int.reduceBEq, Int.reduceBNe, Int.reduceLT, Int.reduceLE, Int.reduceGT, Int.reduceGE, Int.reduceEq, Int.reduceNe, Int.reduceToNat, List.take_zero, List.drop_zero, List.all_cons, List.all_nil, List.append_nil, List.length_append, List.length_set, List.append_assoc, List.drop_nil, List.take_nil, hb1, hb2, r1, d3, r2, r3, r4, r5, r6, s3, hget_new, et, e2, hsn] <;> try simp -dsimp only [if_conj])
        exact ⟨⟨by omega, by omega, hne⟩, f', _, by omega, Weak.refl _ (by have := gg.len; simp at this ⊢; omega), i + 1, m / 128, _, _, by omega, hd, by omega, hm4, by omega, by omega, gg, rfl⟩
theorem rPutWide_ok {n : Nat} {size : Int} (hn : n < 18446744073709551616) (hK : PutsN h (enc (wd (wsz n size) n)) K) : ACall X 19 [U n, I size] h K := by
  obtain ⟨u1, u2, u3, u4⟩ := up_prop 9 n
  have hn70 : n < 128 ^ (9 + 1) := Nat.lt_trans hn (by decide)
  have hs1 : (up 9 n).length ≤ wsz n size ∧ wsz n size ≤ 10 := by unfold wsz; omega
  have hs2 : ∀ j : Nat, ((((up 9 n).length + j : Nat) : Int) < size ∧ (((up 9 n).length + j : Nat) : Int) < 10) ↔ (up 9 n).length + j < wsz n size := by intro j; unfold wsz; omega
  obtain ⟨hwd, _⟩ := up_wd 9 n (wsz n size) hn70 hs1.1
  generalize hS : wsz n size = S at *
  generalize hL : up 9 n = xs at *
  have hbig : (20 : Nat) ≤ bigRoom := by decide
  apply i19
  (simp +contextual -dsimp only [R19, evA, evB, ↓a_on_t, ↓a_on_f, ↓a_on_und, ↓a_cond_b, ↓reduceIte, Go.Ab.part, List.getD_cons_zero, List.getD_cons_succ, List.set_cons_zero, List.set_cons_succ, List.length_cons, List.length_nil, List.cons_append, List.nil_append, cond_true, cond_false, Bool.cond_true, reduceCtorEq, Option.map_some, Option.map_none, forall_const, ne_eq, implies_true, Nat.reduceAdd, Nat.reduceLeDiff, Nat.reduceLT, Nat.beq, Option.isNone_none, beq_self_eq_true, bne_self_eq_false, Int.reduceBEq, Int.reduceBNe, Int.reduceLT, Int.reduceLE, Int.reduceGT, Int.reduceGE, Int.reduceEq, Int.reduceNe, Int.reduceToNat, List.take_zero, List.drop_zero, List.all_cons, List.all_nil, List.append_nil, List.length_append, List.length_set, List.append_assoc, List.drop_nil, List.take_nil] <;> try simp -dsimp only [if_conj])
  refine rPutU_ok hn fun h1 id1 k1 l1 g1 => ?_
  rw [hL] at g1 ⊢
  (simp +contextual -dsimp only [R19, evA, evB, ↓a_on_t, ↓a_on_f, ↓a_on_und, ↓a_cond_b, ↓reduceIte, Go.Ab.part, List.getD_cons_zero, List.getD_cons_succ, List.set_cons_zero, List.set_cons_succ, List.length_cons, List.length_nil, List.cons_append, List.nil_append, cond_true, cond_false, Bool.cond_true, reduceCtorEq, Option.map_some, Option.map_none, forall_const, ne_eq, implies_true, Nat.reduceAdd, Nat.reduceLeDiff, Nat.reduceLT, Nat.beq, Option.isNone_none, beq_self_eq_true, bne_self_eq_false, Int.reduceBEq, Int.reduceBNe, Int.reduceLT, Int.reduceLE, Int.reduceGT, Int.reduceGE, Int.reduceEq, Int.reduceNe, Int.reduceToNat, List.take_zero, List.drop_zero, List.all_cons, List.all_nil, List.append_nil, List.length_append, List.length_set, List.append_assoc, List.drop_nil, List.take_nil] <;> try simp -dsimp only [if_conj])
  refine aloop (fun m st => ∃ j H id, m + j = S - xs.length ∧ Keeps h H ∧ h.length ≤ id ∧ H.getD id .dead = .o 1 (byt (enc (xs ++ List.replicate j 0))) ∧ st = ((sl st.1 0 :: I size :: sl st.1 2 :: sl st.1 3 :: sl st.1 4 :: .s id 0 (xs.length + j) :: sl st.1 6 :: sl st.1 7 :: sl st.1 8 :: sl st.1 9 :: sl st.1 10 :: sl st.1 11 :: sl st.1 12 :: sl st.1 13 :: sl st.1 14 :: sl st.1 15 :: sl st.1 16 :: sl st.1 17 :: sl st.1 18 :: sl st.1 19 :: sl st.1 20 :: sl st.1 21 :: sl st.1 22 :: sl st.1 23 :: sl st.1 24 :: sl st.1 25 :: sl st.1 26 :: sl st.1 27 :: sl st.1 28 :: sl st.1 29 :: sl st.1 30 :: sl st.1 31 :: sl st.1 32 :: []), H)) (S - xs.length) _ k1.len (Weak.refl _ k1.len) ⟨0, h1, id1, by omega, k1, l1, by simpa using g1, ?_⟩ ?_
  · rw [enc_len]; rfl
  rintro m st ⟨j, H, id, hm, kk, hid, g, hst⟩
  rw [hst]
  have hyl : (xs ++ List.replicate j 0).length = xs.length + j := by rw [List.length_append, List.length_replicate]
  have hyx : ∀ x ∈ xs ++ List.replicate j 0, x < 128 := fun x hx => by
    rcases List.mem_append.1 hx with h | h
    · exact u2 x h
    · rw [List.eq_of_mem_replicate h]; decide
  have hy1 : xs ++ List.replicate (j + 1) 0 = (xs ++ List.replicate j 0) ++ [0] := by rw [List.replicate_succ', List.append_assoc]
  generalize hys : xs ++ List.replicate j 0 = ys at *
  have il := hlt g (by simp)
  have klen := kk.len
  have hfin : ¬ (xs.length + j < S) → K.K (.s id 0 (xs.length + j)) H := fun hlt => by
    have e : S - xs.length = j := by omega
    rw [e, hys] at hwd
    have := hK H id kk hid (by rw [← hwd]; exact g)
    rw [enc_len, ← hwd, hyl] at this
    exact this
  by_cases c1 : (((xs.length + j : Nat) : Int) < size)
  · have d1 : decide (((xs.length + j : Nat) : Int) < size) = true := by simpa using c1
    by_cases c2 : (((xs.length + j : Nat) : Int) < 10)
    · have d2 : decide (((xs.length + j : Nat) : Int) < 10) = true := by simp; omega
      have hlt := (hs2 j).1 ⟨c1, c2⟩
      obtain ⟨i, hi⟩ : ∃ i, xs.length + j = i + 1 := ⟨xs.length + j - 1, by omega⟩
      have hsp := take_last (l := ys) (i := i) (by omega)
      have hx : ys.getD i 0 < 128 := by
        rw [List.getD_eq_getElem?_getD, List.getElem?_eq_getElem (by omega)]; exact hyx _ (List.getElem_mem _)
      have henc : enc ys = hi7 (ys.take i) ++ [UInt8.ofNat (ys.getD i 0)] := by
        conv => lhs; rw [hsp]
        exact enc_snoc _ _
      have hhi : hi7 ys = hi7 (ys.take i) ++ [UInt8.ofNat (ys.getD i 0 + 128)] := by
        conv => lhs; rw [hsp]
        exact hi7_snoc _ _
      have hal : (hi7 (ys.take i)).length = i := by rw [hi7_len, List.length_take]; omega
      generalize ys.getD i 0 = x at *
      have w1 : IntKind.i64.wrap (((i + 1 : Nat) : Int) - 1) = ((i : Nat) : Int) := by rw [wrap_i64 (by omega) (by omega)]; omega
      have w2 : IntKind.u8.wrap ((x : Int) + 128) = ((x + 128 : Nat) : Int) := by rw [wrap_u8_eq]; omega
      have b1 : (byt (enc ys)).getD i .bad = .v (.int .u8 (x : Int)) := by
        rw [byt_getD (by rw [enc_len]; omega), henc, List.getD_eq_getElem?_getD, List.getElem?_append_right (by omega), hal, Nat.sub_self]
        show AV.v (.int .u8 ((UInt8.ofNat x).toNat : Int)) = _
        rw [UInt8.toNat_ofNat_of_lt' (by rw [show UInt8.size = 256 from rfl]; omega)]
      have b2 : (byt (enc ys)).set i (.v (.int .u8 ((x + 128 : Nat) : Int))) = byt (hi7 ys) := by
        have e : (((x + 128 : Nat) : Int)) = ((UInt8.ofNat (x + 128)).toNat : Int) := by rw [UInt8.toNat_ofNat_of_lt' (by rw [show UInt8.size = 256 from rfl]; omega)]
        rw [e, byt_set, henc, hhi, List.set_append_right _ _ (by omega), hal, Nat.sub_self]; rfl
      have b3 : (byt (enc ys)).length = i + 1 := by rw [byt_length, enc_len]; omega
      have b4 : (byt (hi7 ys)).length = i + 1 := by rw [byt_length, hi7_len]; omega
      have b5 : (byt (hi7 ys)).take (i + 1) = byt (hi7 ys) := List.take_of_length_le (by rw [b4]; exact Nat.le_refl _)
      have gs : ∀ o, (H.set id o).getD id .dead = o := fun o => hget_set il
      have gs2 : ∀ o, (H.set id (.o 1 (byt (hi7 ys))) ++ [o]).getD id .dead = .o 1 (byt (hi7 ys)) := fun o => hget_app (hget_set il) (by simp)
      have gn : ∀ o, (H.set id (.o 1 (byt (hi7 ys))) ++ [o]).getD H.length .dead = o := fun o => by
        rw [show H.length = (H.set id (.o 1 (byt (hi7 ys)))).length by simp]; exact hget_new
      have hne : ¬ H.length = id := by omega
      have et : List.take 1 [AV.v (.int .u8 0)] = [AV.v (.int .u8 0)] := rfl
      have hz : byt (hi7 ys) ++ [AV.v (.int .u8 0)] = byt (enc (ys ++ [0])) := by rw [enc_snoc, ← byt_append]; rfl
      rw [hi] at d1 d2 ⊢
      (simp +contextual -dsimp only [R19, evA, evB, ↓a_on_t, ↓a_on_f, ↓a_on_und, ↓a_cond_b, ↓reduceIte, Go.Ab.part, List.getD_cons_zero, List.getD_cons_succ, List.set_cons_zero, List.set_cons_succ, List.length_cons, List.length_nil, List.cons_append, List.nil_append, cond_true, cond_false, Bool.cond_true, reduceCtorEq, Option.map_some, Option.map_none, forall_const, ne_eq, implies_true, Nat.reduceAdd, Nat.reduceLeDiff, Nat.reduceLT, Nat.beq, Option.isNone_none, beq_self_eq_true, bne_self_eq_false, Int.reduceBEq, Int.reduceBNe, Int.reduceLT, Int.reduceLE, Int.reduceGT, Int.reduceGE, Int.reduceEq, Int.reduceNe, Int.reduceToNat, List.take_zero, List.drop_zero, List.all_cons, List.all_nil, List.append_nil, List.length_append, List.length_set, List.append_assoc, List.drop_nil, List.take_nil, d1, d2, w1, w2, g, b1, b2, b3, b4, b5, gs, gs2, gn, et, hz] <;> try simp -dsimp only [if_conj])
      have kA : Keeps h (H.set id (.o 1 (byt (hi7 ys)))) := ⟨by rw [List.length_set]; exact klen, fun hj => (hget_set_ne (by omega)).trans (kk.get hj)⟩
      have kB : Keeps h (H.set id (.o 1 (byt (hi7 ys))) ++ [AO.o 1 [AV.v (.int .u8 0)]]) := kA.trans (Keeps.adds Adds.mk)
      have kC := kB.push (p := AO.o 1 (byt (enc (ys ++ [0])))) hid
      have gC : ((H.set id (.o 1 (byt (hi7 ys))) ++ [AO.o 1 [AV.v (.int .u8 0)]]).set id .dead ++ [AO.o 1 (byt (enc (ys ++ [0])))]).getD (H.length + 1) .dead = .o 1 (byt (enc (ys ++ [0]))) := by
        rw [show H.length + 1 = ((H.set id (.o 1 (byt (hi7 ys))) ++ [AO.o 1 [AV.v (.int .u8 0)]]).set id .dead).length by simp]; exact hget_new
      refine ⟨⟨by omega, by omega⟩, ⟨by omega, by omega⟩, ⟨by omega, hne⟩, m - 1, _, by omega, Weak.refl _ kC.len, j + 1, _, H.length + 1, by omega, kC, by omega, ?_, ?_⟩
      · rw [hy1]; exact gC
      · rw [show xs.length + (j + 1) = i + 1 + 1 by omega]; rfl
    · have d2 : decide (((xs.length + j : Nat) : Int) < 10) = false := by simp; omega
      (simp +contextual -dsimp only [R19, evA, evB, ↓a_on_t, ↓a_on_f, ↓a_on_und, ↓a_cond_b, ↓reduceIte, Go.Ab.part, List.getD_cons_zero, List.getD_cons_succ, List.set_cons_zero, List.set_cons_succ, List.length_cons, List.length_nil, List.cons_append, List.nil_append, cond_true, cond_false, Bool.cond_true, reduceCtorEq, Option.map_some, Option.map_none, forall_const, ne_eq, implies_true, Nat.reduceAdd, Nat.reduceLeDiff, Nat.reduceLT, Nat.beq, Option.isNone_none, beq_self_eq_true, bne_self_eq_false, Int.reduceBEq, Int.reduceBNe, Int.reduceLT, Int.reduceLE, Int.reduceGT, Int.reduceGE, Int.reduceEq, Int.reduceNe, Int.reduceToNat, List.take_zero, List.drop_zero, List.all_cons, List.all_nil, List.append_nil, List.length_append, List.length_set, List.append_assoc, List.drop_nil, List.take_nil, d1, d2] <;> try simp -dsimp only [if_conj])
      exact hfin fun h => c2 ((hs2 j).2 h).2
  · have d1 : decide (((xs.length + j : Nat) : Int) < size) = false := by simp; omega
    (simp +contextual -dsimp only [R19, evA, evB, ↓a_on_t, ↓a_on_f, ↓a_on_und, ↓a_cond_b, ↓reduceIte, Go.Ab.part, List.getD_cons_zero, List.getD_cons_succ, List.set_cons_zero, List.set_cons_succ, List.length_cons, List.length_nil, List.cons_append, List.nil_append, cond_true, cond_false, Bool.cond_true, reduceCtorEq, Option.map_some, Option.map_none, forall_const, ne_eq, implies_true, Nat.reduceAdd, Nat.reduceLeDiff, Nat.reduceLT, Nat.beq, Option.isNone_none, beq_self_eq_true, bne_self_eq_false, Int.reduceBEq, Int.reduceBNe, Int.reduceLT, Int.reduceLE, Int.reduceGT, Int.reduceGE, Int.reduceEq, Int.reduceNe, Int.reduceToNat, List.take_zero, List.drop_zero, List.all_cons, List.all_nil, List.append_nil, List.length_append, List.length_set, List.append_assoc, List.drop_nil, List.take_nil, d1] <;> try simp -dsimp only [if_conj])
    exact hfin fun h => c1 ((hs2 j).2 h).1
end Go.Proofs.Ytlfplmcidfflfaa
