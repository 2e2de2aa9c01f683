import Derived.Test.YtlfplmcidfflfaaLB
set_option linter.unusedVariables false
set_option linter.unusedSimpArgs false
set_option maxRecDepth 100000
namespace Go.Proofs.Ytlfplmcidfflfaa
open Go.Ab
variable {h : Heap} {K : Kt}

theorem lalike_ok {n : Nat} (hn : n < 18446744073709551616) : ACall X 6 [U n] [] (.c (fun r _ => r = Bo true) ()) := by
  have hbig : (5020 : Nat) ≤ bigRoom := by decide
  apply i6
  (simp +contextual -dsimp only [R6, evA, evB, ↓a_on_t, ↓a_on_f, ↓a_on_und, ↓a_cond_b, ↓reduceIte, Go.Ab.part, List.getD_cons_zero, List.getD_cons_succ, List.set_cons_zero, List.set_cons_succ, List.length_cons, List.length_nil, List.cons_append, List.nil_append, cond_true, cond_false, Bool.cond_true, reduceCtorEq, Option.map_some, Option.map_none, forall_const, ne_eq, implies_true, Nat.reduceAdd, Nat.reduceLeDiff, Nat.reduceLT, Nat.beq, Option.isNone_none, beq_self_eq_true, bne_self_eq_false, Int.reduceBEq, Int.reduceBNe, Int.reduceLT, Int.reduceLE, Int.reduceGT, Int.reduceGE, Int.reduceEq, Int.reduceNe, Int.reduceToNat, List.take_zero, List.drop_zero, List.all_cons, List.all_nil, List.append_nil, List.length_append, List.length_set, List.append_assoc, List.drop_nil, List.take_nil] <;> try simp -dsimp only [if_conj])
  refine works02_ok fun h0 _ => ?_
  have hsh : (n : Int).fdiv (2 ^ min 1 IntKind.u64.bits) = ((n / 2 : Nat) : Int) := by
    rw [show (2 : Int) ^ min 1 IntKind.u64.bits = 2 from rfl, Int.fdiv_eq_ediv_of_nonneg _ (by omega)]; rfl
  obtain ⟨m, hm⟩ : ∃ m, n / 2 = m := ⟨_, rfl⟩
  rw [hm] at hsh
  have w1 : IntKind.i64.wrap (m : Int) = (m : Int) := wrap_i64 (by omega) (by omega)
  (simp +contextual -dsimp only [R6, evA, evB, ↓a_on_t, ↓a_on_f, ↓a_on_und, ↓a_cond_b, ↓reduceIte, Go.Ab.part, List.getD_cons_zero, List.getD_cons_succ, List.set_cons_zero, List.set_cons_succ, List.length_cons, List.length_nil, List.cons_append, List.nil_append, cond_true, cond_false, Bool.cond_true, reduceCtorEq, Option.map_some, Option.map_none, forall_const, ne_eq, implies_true, Nat.reduceAdd, Nat.reduceLeDiff, Nat.reduceLT, Nat.beq, Option.isNone_none, beq_self_eq_true, bne_self_eq_false, Int.reduceBEq, Int.reduceBNe, Int.reduceLT, Int.reduceLE, Int.reduceGT, Int.reduceGE, Int.reduceEq, Int.reduceNe, Int.reduceToNat, List.take_zero, List.drop_zero, List.all_cons, List.all_nil, List.append_nil, List.length_append, List.length_set, List.append_assoc, List.drop_nil, List.take_nil, hsh, w1] <;> try simp -dsimp only [if_conj])
  refine PutS_nil (by omega) (by omega) fun h1 id1 k1 l1 g1 => ?_
  (simp +contextual -dsimp only [R6, evA, evB, ↓a_on_t, ↓a_on_f, ↓a_on_und, ↓a_cond_b, ↓reduceIte, Go.Ab.part, List.getD_cons_zero, List.getD_cons_succ, List.set_cons_zero, List.set_cons_succ, List.length_cons, List.length_nil, List.cons_append, List.nil_append, cond_true, cond_false, Bool.cond_true, reduceCtorEq, Option.map_some, Option.map_none, forall_const, ne_eq, implies_true, Nat.reduceAdd, Nat.reduceLeDiff, Nat.reduceLT, Nat.beq, Option.isNone_none, beq_self_eq_true, bne_self_eq_false, Int.reduceBEq, Int.reduceBNe, Int.reduceLT, Int.reduceLE, Int.reduceGT, Int.reduceGE, Int.reduceEq, Int.reduceNe, Int.reduceToNat, List.take_zero, List.drop_zero, List.all_cons, List.all_nil, List.append_nil, List.length_append, List.length_set, List.append_assoc, List.drop_nil, List.take_nil] <;> try simp -dsimp only [if_conj])
  obtain ⟨u1, u2, u3, u4⟩ := sp_prop 9 (m : Int)
  have ls := enc_len (sp 9 (m : Int))
  refine New_ok (l := enc (sp 9 (m : Int))) (srcs g1) (by have := hlt g1 (by simp); simp [otherId]; omega) (by omega) ?_
  (simp +contextual -dsimp only [R6, evA, evB, ↓a_on_t, ↓a_on_f, ↓a_on_und, ↓a_cond_b, ↓reduceIte, Go.Ab.part, List.getD_cons_zero, List.getD_cons_succ, List.set_cons_zero, List.set_cons_succ, List.length_cons, List.length_nil, List.cons_append, List.nil_append, cond_true, cond_false, Bool.cond_true, reduceCtorEq, Option.map_some, Option.map_none, forall_const, ne_eq, implies_true, Nat.reduceAdd, Nat.reduceLeDiff, Nat.reduceLT, Nat.beq, Option.isNone_none, beq_self_eq_true, bne_self_eq_false, Int.reduceBEq, Int.reduceBNe, Int.reduceLT, Int.reduceLE, Int.reduceGT, Int.reduceGE, Int.reduceEq, Int.reduceNe, Int.reduceToNat, List.take_zero, List.drop_zero, List.all_cons, List.all_nil, List.append_nil, List.length_append, List.length_set, List.append_assoc, List.drop_nil, List.take_nil] <;> try simp -dsimp only [if_conj])
  have hr := rd_enc (sp 9 (m : Int)) 10 [] [] (enc (sp 9 (m : Int))) u1 u3 u2 (by simp)
  have hvs := vs_sp 9 (m : Int) (by omega) (by omega)
  have hvl : vl (sp 9 (m : Int)) = m := by
    have hlt := vl_lt u2
    have e : ((128 : Int) ^ (sp 9 (m : Int)).length) = ((128 ^ (sp 9 (m : Int)).length : Nat) : Int) := by push_cast; rfl
    unfold vs at hvs
    split at hvs <;> omega
  have hu := uR_of hr (by omega)
  rw [hvl, List.length_nil, Nat.zero_add] at hu
  have hi : (⟨enc (sp 9 (m : Int)), 0, 0⟩ : Cur).inv := Cur.mki (Nat.zero_le _) (by omega)
  refine U_ok (hgets _ 2 rfl) hi fun h2 g2 i2 k2 l2 => ?_
  rw [hu] at g2 i2 ⊢
  have hfin : (⟨enc (sp 9 (m : Int)), (sp 9 (m : Int)).length, 0⟩ : Cur).fin = 0 := by
    unfold Cur.fin Cur.left; simp [ls]
  (simp +contextual -dsimp only [R6, evA, evB, ↓a_on_t, ↓a_on_f, ↓a_on_und, ↓a_cond_b, ↓reduceIte, Go.Ab.part, List.getD_cons_zero, List.getD_cons_succ, List.set_cons_zero, List.set_cons_succ, List.length_cons, List.length_nil, List.cons_append, List.nil_append, cond_true, cond_false, Bool.cond_true, reduceCtorEq, Option.map_some, Option.map_none, forall_const, ne_eq, implies_true, Nat.reduceAdd, Nat.reduceLeDiff, Nat.reduceLT, Nat.beq, Option.isNone_none, beq_self_eq_true, bne_self_eq_false, Int.reduceBEq, Int.reduceBNe, Int.reduceLT, Int.reduceLE, Int.reduceGT, Int.reduceGE, Int.reduceEq, Int.reduceNe, Int.reduceToNat, List.take_zero, List.drop_zero, List.all_cons, List.all_nil, List.append_nil, List.length_append, List.length_set, List.append_assoc, List.drop_nil, List.take_nil] <;> try simp -dsimp only [if_conj])
  refine End_ok g2 i2 ?_
  rw [hfin]
  (simp +contextual -dsimp only [R6, evA, evB, ↓a_on_t, ↓a_on_f, ↓a_on_und, ↓a_cond_b, ↓reduceIte, Go.Ab.part, List.getD_cons_zero, List.getD_cons_succ, List.set_cons_zero, List.set_cons_succ, List.length_cons, List.length_nil, List.cons_append, List.nil_append, cond_true, cond_false, Bool.cond_true, reduceCtorEq, Option.map_some, Option.map_none, forall_const, ne_eq, implies_true, Nat.reduceAdd, Nat.reduceLeDiff, Nat.reduceLT, Nat.beq, Option.isNone_none, beq_self_eq_true, bne_self_eq_false, Int.reduceBEq, Int.reduceBNe, Int.reduceLT, Int.reduceLE, Int.reduceGT, Int.reduceGE, Int.reduceEq, Int.reduceNe, Int.reduceToNat, List.take_zero, List.drop_zero, List.all_cons, List.all_nil, List.append_nil, List.length_append, List.length_set, List.append_assoc, List.drop_nil, List.take_nil] <;> try simp -dsimp only [if_conj])
  refine PutU_nil (by omega) fun h3 id3 k3 l3 g3 => ?_
  obtain ⟨v1, v2, v3, v4⟩ := up_prop 9 m
  have lu := enc_len (up 9 m)
  have w2 : IntKind.i64.wrap ((up 9 m).length - 1 : Int) = (((up 9 m).length - 1 : Nat) : Int) := by rw [wrap_i64 (by omega) (by omega)]; omega
  have hlast : (enc (up 9 m)).getD ((up 9 m).length - 1) 0 = UInt8.ofNat ((up 9 m).getLastD 0) := by
    obtain ⟨l, x, hx⟩ : ∃ l x, up 9 m = l ++ [x] := ⟨_, _, (List.dropLast_concat_getLast v1).symm⟩
    rw [hx, enc_snoc, List.getLastD_concat, List.getD_eq_getElem?_getD, List.length_append, List.length_singleton, Nat.add_sub_cancel, List.getElem?_append_right (by simp [hi7])]
    simp [hi7]
  have hlt2 : (up 9 m).getLastD 0 < 128 := by
    rw [List.getLastD_eq_getLast?, List.getLast?_eq_some_getLast v1]; exact v2 _ (List.getLast_mem v1)
  have b1 : (byt (enc (up 9 m))).getD ((up 9 m).length - 1) .bad = .v (.int .u8 (((up 9 m).getLastD 0 : Nat) : Int)) := by
    rw [byt_getD (by omega), hlast, UInt8.toNat_ofNat_of_lt' (by rw [show UInt8.size = 256 from rfl]; omega)]
  rw [lu]
  obtain ⟨xl, hxl⟩ : ∃ x, (up 9 m).getLastD 0 = x := ⟨_, rfl⟩
  rw [hxl] at hlt2 b1
  by_cases hc : 64 ≤ xl
  · have d1 : decide ((xl : Int) ≥ 64) = true := by simp; omega
    (simp +contextual -dsimp only [R6, evA, evB, ↓a_on_t, ↓a_on_f, ↓a_on_und, ↓a_cond_b, ↓reduceIte, Go.Ab.part, List.getD_cons_zero, List.getD_cons_succ, List.set_cons_zero, List.set_cons_succ, List.length_cons, List.length_nil, List.cons_append, List.nil_append, cond_true, cond_false, Bool.cond_true, reduceCtorEq, Option.map_some, Option.map_none, forall_const, ne_eq, implies_true, Nat.reduceAdd, Nat.reduceLeDiff, Nat.reduceLT, Nat.beq, Option.isNone_none, beq_self_eq_true, bne_self_eq_false, Int.reduceBEq, Int.reduceBNe, Int.reduceLT, Int.reduceLE, Int.reduceGT, Int.reduceGE, Int.reduceEq, Int.reduceNe, Int.reduceToNat, List.take_zero, List.drop_zero, List.all_cons, List.all_nil, List.append_nil, List.length_append, List.length_set, List.append_assoc, List.drop_nil, List.take_nil, w2, g3, b1, d1] <;> try simp -dsimp only [if_conj])
    exact ⟨⟨by omega, by omega⟩, by omega⟩
  · have d1 : decide ((xl : Int) ≥ 64) = false := by simp; omega
    (simp +contextual -dsimp only [R6, evA, evB, ↓a_on_t, ↓a_on_f, ↓a_on_und, ↓a_cond_b, ↓reduceIte, Go.Ab.part, List.getD_cons_zero, List.getD_cons_succ, List.set_cons_zero, List.set_cons_succ, List.length_cons, List.length_nil, List.cons_append, List.nil_append, cond_true, cond_false, Bool.cond_true, reduceCtorEq, Option.map_some, Option.map_none, forall_const, ne_eq, implies_true, Nat.reduceAdd, Nat.reduceLeDiff, Nat.reduceLT, Nat.beq, Option.isNone_none, beq_self_eq_true, bne_self_eq_false, Int.reduceBEq, Int.reduceBNe, Int.reduceLT, Int.reduceLE, Int.reduceGT, Int.reduceGE, Int.reduceEq, Int.reduceNe, Int.reduceToNat, List.take_zero, List.drop_zero, List.all_cons, List.all_nil, List.append_nil, List.length_append, List.length_set, List.append_assoc, List.drop_nil, List.take_nil, w2, g3, b1, d1, w1] <;> try simp -dsimp only [if_conj])
    refine ⟨⟨by omega, by omega⟩, by omega, ?_⟩
    rw [← lu]
    refine New_ok (l := enc (up 9 m)) (srcs g3) (by have := hlt g3 (by simp); simp [otherId]; omega) (by omega) ?_
    (simp +contextual -dsimp only [R6, evA, evB, ↓a_on_t, ↓a_on_f, ↓a_on_und, ↓a_cond_b, ↓reduceIte, Go.Ab.part, List.getD_cons_zero, List.getD_cons_succ, List.set_cons_zero, List.set_cons_succ, List.length_cons, List.length_nil, List.cons_append, List.nil_append, cond_true, cond_false, Bool.cond_true, reduceCtorEq, Option.map_some, Option.map_none, forall_const, ne_eq, implies_true, Nat.reduceAdd, Nat.reduceLeDiff, Nat.reduceLT, Nat.beq, Option.isNone_none, beq_self_eq_true, bne_self_eq_false, Int.reduceBEq, Int.reduceBNe, Int.reduceLT, Int.reduceLE, Int.reduceGT, Int.reduceGE, Int.reduceEq, Int.reduceNe, Int.reduceToNat, List.take_zero, List.drop_zero, List.all_cons, List.all_nil, List.append_nil, List.length_append, List.length_set, List.append_assoc, List.drop_nil, List.take_nil] <;> try simp -dsimp only [if_conj])
    have hr2 := rd_enc (up 9 m) 10 [] [] (enc (up 9 m)) v1 v3 v2 (by simp)
    have hv2 : vs (up 9 m) = m := by
      unfold vs
      rw [hxl, if_neg hc, vl_up 9 m (by omega)]
    have hs := sR_of hr2 (by omega) (by omega)
    rw [hv2, List.length_nil, Nat.zero_add] at hs
    have hi2 : (⟨enc (up 9 m), 0, 0⟩ : Cur).inv := Cur.mki (Nat.zero_le _) (by omega)
    refine S_ok (hgets _ 2 rfl) hi2 fun h4 g4 i4 k4 l4 => ?_
    rw [hs] at g4 i4 ⊢
    have hfin2 : (⟨enc (up 9 m), (up 9 m).length, 0⟩ : Cur).fin = 0 := by
      unfold Cur.fin Cur.left; simp [lu]
    (simp +contextual -dsimp only [R6, evA, evB, ↓a_on_t, ↓a_on_f, ↓a_on_und, ↓a_cond_b, ↓reduceIte, Go.Ab.part, List.getD_cons_zero, List.getD_cons_succ, List.set_cons_zero, List.set_cons_succ, List.length_cons, List.length_nil, List.cons_append, List.nil_append, cond_true, cond_false, Bool.cond_true, reduceCtorEq, Option.map_some, Option.map_none, forall_const, ne_eq, implies_true, Nat.reduceAdd, Nat.reduceLeDiff, Nat.reduceLT, Nat.beq, Option.isNone_none, beq_self_eq_true, bne_self_eq_false, Int.reduceBEq, Int.reduceBNe, Int.reduceLT, Int.reduceLE, Int.reduceGT, Int.reduceGE, Int.reduceEq, Int.reduceNe, Int.reduceToNat, List.take_zero, List.drop_zero, List.all_cons, List.all_nil, List.append_nil, List.length_append, List.length_set, List.append_assoc, List.drop_nil, List.take_nil, w1] <;> try simp -dsimp only [if_conj])
    refine End_ok g4 i4 ?_
    rw [hfin2]
    (simp +contextual -dsimp only [R6, evA, evB, ↓a_on_t, ↓a_on_f, ↓a_on_und, ↓a_cond_b, ↓reduceIte, Go.Ab.part, List.getD_cons_zero, List.getD_cons_succ, List.set_cons_zero, List.set_cons_succ, List.length_cons, List.length_nil, List.cons_append, List.nil_append, cond_true, cond_false, Bool.cond_true, reduceCtorEq, Option.map_some, Option.map_none, forall_const, ne_eq, implies_true, Nat.reduceAdd, Nat.reduceLeDiff, Nat.reduceLT, Nat.beq, Option.isNone_none, beq_self_eq_true, bne_self_eq_false, Int.reduceBEq, Int.reduceBNe, Int.reduceLT, Int.reduceLE, Int.reduceGT, Int.reduceGE, Int.reduceEq, Int.reduceNe, Int.reduceToNat, List.take_zero, List.drop_zero, List.all_cons, List.all_nil, List.append_nil, List.length_append, List.length_set, List.append_assoc, List.drop_nil, List.take_nil] <;> try simp -dsimp only [if_conj])
theorem lback_ok {n : Nat} {s size : Int} {t : List UInt8} (hn : n < 18446744073709551616) (s1 : -9223372036854775808 ≤ s) (s2 : s < 9223372036854775808) : ACall X 3 [U n, I s, I size, .z (byt t) t.length] [] (.c (fun r _ => r = Bo true) ()) := by
  have hbig : (5020 : Nat) ≤ bigRoom := by decide
  apply i3
  (simp +contextual -dsimp only [R3, evA, evB, ↓a_on_t, ↓a_on_f, ↓a_on_und, ↓a_cond_b, ↓reduceIte, Go.Ab.part, List.getD_cons_zero, List.getD_cons_succ, List.set_cons_zero, List.set_cons_succ, List.length_cons, List.length_nil, List.cons_append, List.nil_append, cond_true, cond_false, Bool.cond_true, reduceCtorEq, Option.map_some, Option.map_none, forall_const, ne_eq, implies_true, Nat.reduceAdd, Nat.reduceLeDiff, Nat.reduceLT, Nat.beq, Option.isNone_none, beq_self_eq_true, bne_self_eq_false, Int.reduceBEq, Int.reduceBNe, Int.reduceLT, Int.reduceLE, Int.reduceGT, Int.reduceGE, Int.reduceEq, Int.reduceNe, Int.reduceToNat, List.take_zero, List.drop_zero, List.all_cons, List.all_nil, List.append_nil, List.length_append, List.length_set, List.append_assoc, List.drop_nil, List.take_nil] <;> try simp -dsimp only [if_conj])
  refine works02_ok fun h0 _ => ?_
  (simp +contextual -dsimp only [R3, evA, evB, ↓a_on_t, ↓a_on_f, ↓a_on_und, ↓a_cond_b, ↓reduceIte, Go.Ab.part, List.getD_cons_zero, List.getD_cons_succ, List.set_cons_zero, List.set_cons_succ, List.length_cons, List.length_nil, List.cons_append, List.nil_append, cond_true, cond_false, Bool.cond_true, reduceCtorEq, Option.map_some, Option.map_none, forall_const, ne_eq, implies_true, Nat.reduceAdd, Nat.reduceLeDiff, Nat.reduceLT, Nat.beq, Option.isNone_none, beq_self_eq_true, bne_self_eq_false, Int.reduceBEq, Int.reduceBNe, Int.reduceLT, Int.reduceLE, Int.reduceGT, Int.reduceGE, Int.reduceEq, Int.reduceNe, Int.reduceToNat, List.take_zero, List.drop_zero, List.all_cons, List.all_nil, List.append_nil, List.length_append, List.length_set, List.append_assoc, List.drop_nil, List.take_nil] <;> try simp -dsimp only [if_conj])
  refine ⟨fun _ => trivial, fun hb => ?_⟩
  have hb : t.length ≤ 2000 := by simp at hb; omega
  obtain ⟨u1, u2, u3, u4⟩ := up_prop 9 n
  obtain ⟨v1, v2, v3, v4⟩ := sp_prop 9 s
  have lu := enc_len (up 9 n)
  have ls := enc_len (sp 9 s)
  have lw := enc_len (wd (wsz n size) n)
  have hsz : (up 9 n).length ≤ wsz n size ∧ wsz n size ≤ 10 := by unfold wsz; omega
  have lw2 := wd_len (wsz n size) n
  refine PutU_nil hn fun h1 id1 k1 l1 g1 => ?_
  (simp +contextual -dsimp only [R3, evA, evB, ↓a_on_t, ↓a_on_f, ↓a_on_und, ↓a_cond_b, ↓reduceIte, Go.Ab.part, List.getD_cons_zero, List.getD_cons_succ, List.set_cons_zero, List.set_cons_succ, List.length_cons, List.length_nil, List.cons_append, List.nil_append, cond_true, cond_false, Bool.cond_true, reduceCtorEq, Option.map_some, Option.map_none, forall_const, ne_eq, implies_true, Nat.reduceAdd, Nat.reduceLeDiff, Nat.reduceLT, Nat.beq, Option.isNone_none, beq_self_eq_true, bne_self_eq_false, Int.reduceBEq, Int.reduceBNe, Int.reduceLT, Int.reduceLE, Int.reduceGT, Int.reduceGE, Int.reduceEq, Int.reduceNe, Int.reduceToNat, List.take_zero, List.drop_zero, List.all_cons, List.all_nil, List.append_nil, List.length_append, List.length_set, List.append_assoc, List.drop_nil, List.take_nil] <;> try simp -dsimp only [if_conj])
  refine PutS_ok (a := enc (up 9 n)) (r := []) (by rw [List.append_nil]; exact g1) (by omega) s1 s2 fun h2 id2 g2 _ _ _ _ => ?_
  rw [show (enc (up 9 n)).length + (sp 9 s).length = (enc (up 9 n) ++ enc (sp 9 s)).length by rw [List.length_append, ls]]
  (simp +contextual -dsimp only [R3, evA, evB, ↓a_on_t, ↓a_on_f, ↓a_on_und, ↓a_cond_b, ↓reduceIte, Go.Ab.part, List.getD_cons_zero, List.getD_cons_succ, List.set_cons_zero, List.set_cons_succ, List.length_cons, List.length_nil, List.cons_append, List.nil_append, cond_true, cond_false, Bool.cond_true, reduceCtorEq, Option.map_some, Option.map_none, forall_const, ne_eq, implies_true, Nat.reduceAdd, Nat.reduceLeDiff, Nat.reduceLT, Nat.beq, Option.isNone_none, beq_self_eq_true, bne_self_eq_false, Int.reduceBEq, Int.reduceBNe, Int.reduceLT, Int.reduceLE, Int.reduceGT, Int.reduceGE, Int.reduceEq, Int.reduceNe, Int.reduceToNat, List.take_zero, List.drop_zero, List.all_cons, List.all_nil, List.append_nil, List.length_append, List.length_set, List.append_assoc, List.drop_nil, List.take_nil] <;> try simp -dsimp only [if_conj])
  rw [← List.length_append]
  refine PutWide_ok (a := enc (up 9 n) ++ enc (sp 9 s)) (r := []) (by rw [List.append_nil]; exact g2) (by rw [List.length_append]; omega) hn fun h3 id3 g3 _ _ _ _ => ?_
  rw [show (enc (up 9 n) ++ enc (sp 9 s)).length + (wd (wsz n size) n).length = (enc (up 9 n) ++ enc (sp 9 s) ++ enc (wd (wsz n size) n)).length by simp only [List.length_append, lw]]
  obtain ⟨A, hA⟩ : ∃ A, enc (up 9 n) ++ enc (sp 9 s) ++ enc (wd (wsz n size) n) = A := ⟨_, rfl⟩
  have hAl : A.length ≤ 30 := by rw [← hA]; simp only [List.length_append]; omega
  rw [hA] at g3 ⊢
  (simp +contextual -dsimp only [R3, evA, evB, ↓a_on_t, ↓a_on_f, ↓a_on_und, ↓a_cond_b, ↓reduceIte, Go.Ab.part, List.getD_cons_zero, List.getD_cons_succ, List.set_cons_zero, List.set_cons_succ, List.length_cons, List.length_nil, List.cons_append, List.nil_append, cond_true, cond_false, Bool.cond_true, reduceCtorEq, Option.map_some, Option.map_none, forall_const, ne_eq, implies_true, Nat.reduceAdd, Nat.reduceLeDiff, Nat.reduceLT, Nat.beq, Option.isNone_none, beq_self_eq_true, bne_self_eq_false, Int.reduceBEq, Int.reduceBNe, Int.reduceLT, Int.reduceLE, Int.reduceGT, Int.reduceGE, Int.reduceEq, Int.reduceNe, Int.reduceToNat, List.take_zero, List.drop_zero, List.all_cons, List.all_nil, List.append_nil, List.length_append, List.length_set, List.append_assoc, List.drop_nil, List.take_nil, g3] <;> try simp -dsimp only [if_conj])
  refine ⟨⟨by omega, trivial⟩, ?_⟩
  have gT : (h3.set id3 .dead ++ [AO.o 1 (byt A ++ byt t)]).getD h3.length .dead = .o 1 (byt (A ++ t)) := by
    rw [byt_append, show h3.length = (h3.set id3 .dead).length by simp]; exact hget_new
  have lT : h3.length < (h3.set id3 .dead ++ [AO.o 1 (byt A ++ byt t)]).length := by simp
  generalize h3.set id3 .dead ++ [AO.o 1 (byt A ++ byt t)] = H at *
  generalize h3.length = iT at *
  obtain ⟨L, hL⟩ : ∃ L, A ++ t = L := ⟨_, rfl⟩
  have hLl : L.length = A.length + t.length := by rw [← hL, List.length_append]
  rw [hL] at gT
  rw [← hLl]
  refine New_ok (l := L) (srcs gT) (by simp [otherId]; omega) (by omega) ?_
  (simp +contextual -dsimp only [R3, evA, evB, ↓a_on_t, ↓a_on_f, ↓a_on_und, ↓a_cond_b, ↓reduceIte, Go.Ab.part, List.getD_cons_zero, List.getD_cons_succ, List.set_cons_zero, List.set_cons_succ, List.length_cons, List.length_nil, List.cons_append, List.nil_append, cond_true, cond_false, Bool.cond_true, reduceCtorEq, Option.map_some, Option.map_none, forall_const, ne_eq, implies_true, Nat.reduceAdd, Nat.reduceLeDiff, Nat.reduceLT, Nat.beq, Option.isNone_none, beq_self_eq_true, bne_self_eq_false, Int.reduceBEq, Int.reduceBNe, Int.reduceLT, Int.reduceLE, Int.reduceGT, Int.reduceGE, Int.reduceEq, Int.reduceNe, Int.reduceToNat, List.take_zero, List.drop_zero, List.all_cons, List.all_nil, List.append_nil, List.length_append, List.length_set, List.append_assoc, List.drop_nil, List.take_nil] <;> try simp -dsimp only [if_conj])
  have hLL : L = enc (up 9 n) ++ (enc (sp 9 s) ++ enc (wd (wsz n size) n) ++ t) := by rw [← hL, ← hA]; simp
  have r1 := rd_enc (up 9 n) 10 [] (enc (sp 9 s) ++ enc (wd (wsz n size) n) ++ t) L u1 u3 u2 (by rw [hLL]; simp)
  have q1 := uR_of r1 (by rw [vl_up 9 n (by omega)]; exact hn)
  rw [vl_up 9 n (by omega), List.length_nil, Nat.zero_add] at q1
  have r2 := rd_enc (sp 9 s) 10 (enc (up 9 n)) (enc (wd (wsz n size) n) ++ t) L v1 v3 v2 (by rw [hLL]; simp)
  have hvs := vs_sp 9 s (by omega) (by omega)
  have q2 := sR_of r2 (by omega) (by omega)
  rw [hvs, lu] at q2
  have hwn : wd (wsz n size) n ≠ [] := by intro h; rw [h] at lw2; simp at lw2; omega
  have hvw := vl_wd hn hsz.1
  have r3 := rd_enc (wd (wsz n size) n) 10 (enc (up 9 n) ++ enc (sp 9 s)) t L hwn (by omega) (wd_lt _ _) (by rw [hLL]; simp)
  have q3 := uR_of r3 (by omega)
  rw [hvw, List.length_append, lu, ls] at q3
  have hAl2 : A.length = (up 9 n).length + (sp 9 s).length + (wd (wsz n size) n).length := by rw [← hA, List.length_append, List.length_append, lu, ls, lw]
  have hi : ∀ p, p ≤ L.length → (⟨L, p, 0⟩ : Cur).inv := fun p hp => Cur.mki hp (by omega)
  refine U_ok (hgets _ 2 rfl) (hi 0 (by omega)) fun G1 g1 i1 _ _ => ?_
  rw [q1] at g1 i1 ⊢
  (simp +contextual -dsimp only [R3, evA, evB, ↓a_on_t, ↓a_on_f, ↓a_on_und, ↓a_cond_b, ↓reduceIte, Go.Ab.part, List.getD_cons_zero, List.getD_cons_succ, List.set_cons_zero, List.set_cons_succ, List.length_cons, List.length_nil, List.cons_append, List.nil_append, cond_true, cond_false, Bool.cond_true, reduceCtorEq, Option.map_some, Option.map_none, forall_const, ne_eq, implies_true, Nat.reduceAdd, Nat.reduceLeDiff, Nat.reduceLT, Nat.beq, Option.isNone_none, beq_self_eq_true, bne_self_eq_false, Int.reduceBEq, Int.reduceBNe, Int.reduceLT, Int.reduceLE, Int.reduceGT, Int.reduceGE, Int.reduceEq, Int.reduceNe, Int.reduceToNat, List.take_zero, List.drop_zero, List.all_cons, List.all_nil, List.append_nil, List.length_append, List.length_set, List.append_assoc, List.drop_nil, List.take_nil] <;> try simp -dsimp only [if_conj])
  refine S_ok g1 i1 fun G2 g2 i2 _ _ => ?_
  rw [q2] at g2 i2 ⊢
  (simp +contextual -dsimp only [R3, evA, evB, ↓a_on_t, ↓a_on_f, ↓a_on_und, ↓a_cond_b, ↓reduceIte, Go.Ab.part, List.getD_cons_zero, List.getD_cons_succ, List.set_cons_zero, List.set_cons_succ, List.length_cons, List.length_nil, List.cons_append, List.nil_append, cond_true, cond_false, Bool.cond_true, reduceCtorEq, Option.map_some, Option.map_none, forall_const, ne_eq, implies_true, Nat.reduceAdd, Nat.reduceLeDiff, Nat.reduceLT, Nat.beq, Option.isNone_none, beq_self_eq_true, bne_self_eq_false, Int.reduceBEq, Int.reduceBNe, Int.reduceLT, Int.reduceLE, Int.reduceGT, Int.reduceGE, Int.reduceEq, Int.reduceNe, Int.reduceToNat, List.take_zero, List.drop_zero, List.all_cons, List.all_nil, List.append_nil, List.length_append, List.length_set, List.append_assoc, List.drop_nil, List.take_nil] <;> try simp -dsimp only [if_conj])
  refine U_ok g2 i2 fun G3 g3 i3 _ _ => ?_
  rw [q3] at g3 i3 ⊢
  (simp +contextual -dsimp only [R3, evA, evB, ↓a_on_t, ↓a_on_f, ↓a_on_und, ↓a_cond_b, ↓reduceIte, Go.Ab.part, List.getD_cons_zero, List.getD_cons_succ, List.set_cons_zero, List.set_cons_succ, List.length_cons, List.length_nil, List.cons_append, List.nil_append, cond_true, cond_false, Bool.cond_true, reduceCtorEq, Option.map_some, Option.map_none, forall_const, ne_eq, implies_true, Nat.reduceAdd, Nat.reduceLeDiff, Nat.reduceLT, Nat.beq, Option.isNone_none, beq_self_eq_true, bne_self_eq_false, Int.reduceBEq, Int.reduceBNe, Int.reduceLT, Int.reduceLE, Int.reduceGT, Int.reduceGE, Int.reduceEq, Int.reduceNe, Int.reduceToNat, List.take_zero, List.drop_zero, List.all_cons, List.all_nil, List.append_nil, List.length_append, List.length_set, List.append_assoc, List.drop_nil, List.take_nil] <;> try simp -dsimp only [if_conj])
  refine Err_ok g3 ?_
  (simp +contextual -dsimp only [R3, evA, evB, ↓a_on_t, ↓a_on_f, ↓a_on_und, ↓a_cond_b, ↓reduceIte, Go.Ab.part, List.getD_cons_zero, List.getD_cons_succ, List.set_cons_zero, List.set_cons_succ, List.length_cons, List.length_nil, List.cons_append, List.nil_append, cond_true, cond_false, Bool.cond_true, reduceCtorEq, Option.map_some, Option.map_none, forall_const, ne_eq, implies_true, Nat.reduceAdd, Nat.reduceLeDiff, Nat.reduceLT, Nat.beq, Option.isNone_none, beq_self_eq_true, bne_self_eq_false, Int.reduceBEq, Int.reduceBNe, Int.reduceLT, Int.reduceLE, Int.reduceGT, Int.reduceGE, Int.reduceEq, Int.reduceNe, Int.reduceToNat, List.take_zero, List.drop_zero, List.all_cons, List.all_nil, List.append_nil, List.length_append, List.length_set, List.append_assoc, List.drop_nil, List.take_nil] <;> try simp -dsimp only [if_conj])
  refine Left_ok g3 i3 ?_
  have hleft : (⟨L, (up 9 n).length + (sp 9 s).length + (wd (wsz n size) n).length, 0⟩ : Cur).left = t.length := by
    unfold Cur.left; rw [if_pos rfl]; show L.length - ((up 9 n).length + (sp 9 s).length + (wd (wsz n size) n).length) = t.length; rw [← hAl2, hLl]; omega
  rw [hleft]
  (simp +contextual -dsimp only [R3, evA, evB, ↓a_on_t, ↓a_on_f, ↓a_on_und, ↓a_cond_b, ↓reduceIte, Go.Ab.part, List.getD_cons_zero, List.getD_cons_succ, List.set_cons_zero, List.set_cons_succ, List.length_cons, List.length_nil, List.cons_append, List.nil_append, cond_true, cond_false, Bool.cond_true, reduceCtorEq, Option.map_some, Option.map_none, forall_const, ne_eq, implies_true, Nat.reduceAdd, Nat.reduceLeDiff, Nat.reduceLT, Nat.beq, Option.isNone_none, beq_self_eq_true, bne_self_eq_false, Int.reduceBEq, Int.reduceBNe, Int.reduceLT, Int.reduceLE, Int.reduceGT, Int.reduceGE, Int.reduceEq, Int.reduceNe, Int.reduceToNat, List.take_zero, List.drop_zero, List.all_cons, List.all_nil, List.append_nil, List.length_append, List.length_set, List.append_assoc, List.drop_nil, List.take_nil] <;> try simp -dsimp only [if_conj])
end Go.Proofs.Ytlfplmcidfflfaa
