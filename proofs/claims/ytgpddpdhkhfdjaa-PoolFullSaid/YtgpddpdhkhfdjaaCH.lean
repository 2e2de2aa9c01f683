import Derived.Test.YtgpddpdhkhfdjaaCG
set_option linter.unusedVariables false
set_option linter.unusedSimpArgs false
set_option maxRecDepth 100000
namespace Go.Proofs.Ytgpddpdhkhfdjaa
open Go.Ab
variable {h : Heap} {K : Kt}

/-- the document's pool -/
structure IsP (L : List (List UInt8)) (id : Nat) (ls : AV) (h : Heap) : Prop where
  p : h.getD id .dead = .o 1 [ls]
  s : IsS L ls h
theorem IsP.keeps {L : List (List UInt8)} {id : Nat} {ls : AV} {h' : Heap} (i : IsP L id ls h) (k : Keeps h h') : IsP L id ls h' := ⟨k.at i.p (by simp), i.s.keeps k⟩
theorem isS_len {L : List (List UInt8)} {r : AV} {h : Heap} (i : IsS L r h) (K : Kt) : a_len r h K = K.K (I L.length) h := by
  rcases i with ⟨rfl, rfl⟩ | ⟨id, rfl, e⟩ <;> rfl
theorem isS_obj {L : List (List UInt8)} {r : AV} {h : Heap} (i : IsS L r h) (hL : 0 < L.length) : ∃ id, r = .s id 0 L.length ∧ h.getD id .dead = .o 1 (strs L) := by
  rcases i with ⟨rfl, rfl⟩ | e
  · simp at hL
  · exact e
theorem cat_take {L : List (List UInt8)} {n : Nat} (h : n < L.length) : cat (L.take (n + 1)) = cat (L.take n) ++ L.getD n [] ++ [0] := by
  rw [List.take_add_one, List.getElem?_eq_getElem h, List.getD_eq_getElem?_getD, List.getElem?_eq_getElem h]; exact cat_snoc _ _
theorem place_drop {L : List (List UInt8)} {n o : Nat} {s : List UInt8} (h : n < L.length) : placeOf o (L.drop n) s = if L.getD n [] = s then some o else placeOf (o + (L.getD n []).length + 1) (L.drop (n + 1)) s := by
  rw [List.drop_eq_getElem_cons h, List.getD_eq_getElem?_getD, List.getElem?_eq_getElem h]; rfl
theorem cat_take_le {L : List (List UInt8)} (n : Nat) : (cat (L.take n)).length ≤ (cat L).length := by
  conv => rhs; rw [← List.take_append_drop n L, cat_app, List.length_append]
  omega
theorem rpFind_ok {L : List (List UInt8)} {id : Nat} {ls : AV} {s : List UInt8} (i : IsP L id ls h) (hl : (cat L).length ≤ 1000000) (hK : K.K (.t [U ((placeOf 0 L s).getD 0 : Nat), Bo (placeOf 0 L s).isSome]) h) : ACall X 12 [.p id 0, .v (.string (mkStr s))] h K := by
  have hcl := cat_le L
  apply i12
  (simp +contextual -dsimp only [R12, evA, evB, ↓a_on_t, ↓a_on_f, ↓a_on_und, ↓a_cond_b, ↓reduceIte, Go.Ab.part, List.getD_cons_zero, List.getD_cons_succ, List.set_cons_zero, List.set_cons_succ, List.length_cons, List.length_nil, List.cons_append, List.nil_append, cond_true, cond_false, Bool.cond_true, reduceCtorEq, Option.map_some, Option.map_none, forall_const, ne_eq, implies_true, Nat.reduceAdd, Nat.reduceLeDiff, Nat.reduceLT, Nat.beq, Option.isNone_none, beq_self_eq_true, bne_self_eq_false, Int.reduceBEq, Int.reduceBNe, Int.reduceLT, Int.reduceLE, Int.reduceGT, Int.reduceGE, Int.reduceEq, Int.reduceNe, Int.reduceToNat, List.take_zero, List.drop_zero, List.all_cons, List.all_nil, List.append_nil, List.length_append, List.length_set, List.append_assoc, List.drop_nil, List.take_nil] <;> try simp -dsimp only [if_conj])
  refine aloop (fun m st => ∃ n, m + n = L.length ∧ placeOf 0 L s = placeOf (cat (L.take n)).length (L.drop n) s ∧ st = ((.p id 0 :: .v (.string (mkStr s)) :: sl st.1 2 :: sl st.1 3 :: sl st.1 4 :: sl st.1 5 :: U (cat (L.take n)).length :: I n :: sl st.1 8 :: sl st.1 9 :: sl st.1 10 :: sl st.1 11 :: sl st.1 12 :: sl st.1 13 :: sl st.1 14 :: sl st.1 15 :: sl st.1 16 :: sl st.1 17 :: sl st.1 18 :: sl st.1 19 :: sl st.1 20 :: sl st.1 21 :: sl st.1 22 :: sl st.1 23 :: sl st.1 24 :: sl st.1 25 :: sl st.1 26 :: sl st.1 27 :: sl st.1 28 :: sl st.1 29 :: sl st.1 30 :: sl st.1 31 :: sl st.1 32 :: sl st.1 33 :: sl st.1 34 :: sl st.1 35 :: sl st.1 36 :: sl st.1 37 :: sl st.1 38 :: []), h)) L.length
    _ (Nat.le_refl _) (Weak.refl _ (Nat.le_refl _)) ⟨0, by omega, rfl, rfl⟩ ?_
  rintro m st ⟨n, hm, hp, hst⟩
  rw [hst]
  have hlen := isS_len i.s
  by_cases hz : n < L.length
  · have hz' : decide ((n : Int) < L.length) = true := by simp; omega
    have hn1 : IntKind.i64.wrap ((n : Int) + 1) = ((n + 1 : Nat) : Int) := by rw [wrap_i64 (by omega) (by omega)]; rfl
    obtain ⟨lid, rfl, gl⟩ := isS_obj i.s (by omega)
    have hct := cat_take hz
    have hcl2 := cat_take_le (L := L) (n + 1)
    have hcl3 := congrArg List.length hct
    rw [List.length_append, List.length_append, List.length_singleton] at hcl3
    have sa := strs_at hz
    rw [place_drop hz] at hp
    generalize L.getD n [] = x at *
    by_cases e : x = s
    · subst e
      rw [if_pos rfl] at hp
      rw [hp] at hK
      (simp +contextual -dsimp only [R12, evA, evB, ↓a_on_t, ↓a_on_f, ↓a_on_und, ↓a_cond_b, ↓reduceIte, Go.Ab.part, List.getD_cons_zero, List.getD_cons_succ, List.set_cons_zero, List.set_cons_succ, List.length_cons, List.length_nil, List.cons_append, List.nil_append, cond_true, cond_false, Bool.cond_true, reduceCtorEq, Option.map_some, Option.map_none, forall_const, ne_eq, implies_true, Nat.reduceAdd, Nat.reduceLeDiff, Nat.reduceLT, Nat.beq, Option.isNone_none, beq_self_eq_true, bne_self_eq_false, Int.reduceBEq, Int.reduceBNe, Int.reduceLT, Int.reduceLE, Int.reduceGT, Int.reduceGE, Int.reduceEq, Int.reduceNe, Int.reduceToNat, List.take_zero, List.drop_zero, List.all_cons, List.all_nil, List.append_nil, List.length_append, List.length_set, List.append_assoc, List.drop_nil, List.take_nil, i.p, hz', gl, sa, strs_len] <;> try simp -dsimp only [if_conj])
      exact ⟨⟨by omega, by omega⟩, by omega, hK⟩
    · rw [if_neg e] at hp
      have hd : decide (mkStr x = mkStr s) = false := by
        simp only [decide_eq_false_iff_not]; intro h; exact e (mkStr_inj.1 h)
      have hw1 : IntKind.u64.wrap ((x.length : Nat) : Int) = (x.length : Nat) := wrap_u64 (by omega) (by omega)
      have hw2 : IntKind.u64.wrap (((cat (L.take n)).length : Int) + (x.length : Nat)) = (((cat (L.take n)).length + x.length : Nat) : Int) := by rw [wrap_u64 (by omega) (by omega)]; omega
      have hw3 : IntKind.u64.wrap ((((cat (L.take n)).length + x.length : Nat) : Int) + 1) = ((cat (L.take (n + 1))).length : Nat) := by rw [wrap_u64 (by omega) (by omega)]; omega
      (simp +contextual -dsimp only [R12, evA, evB, ↓a_on_t, ↓a_on_f, ↓a_on_und, ↓a_cond_b, ↓reduceIte, Go.Ab.part, List.getD_cons_zero, List.getD_cons_succ, List.set_cons_zero, List.set_cons_succ, List.length_cons, List.length_nil, List.cons_append, List.nil_append, cond_true, cond_false, Bool.cond_true, reduceCtorEq, Option.map_some, Option.map_none, forall_const, ne_eq, implies_true, Nat.reduceAdd, Nat.reduceLeDiff, Nat.reduceLT, Nat.beq, Option.isNone_none, beq_self_eq_true, bne_self_eq_false, Int.reduceBEq, Int.reduceBNe, Int.reduceLT, Int.reduceLE, Int.reduceGT, Int.reduceGE, Int.reduceEq, Int.reduceNe, Int.reduceToNat, List.take_zero, List.drop_zero, List.all_cons, List.all_nil, List.append_nil, List.length_append, List.length_set, List.append_assoc, List.drop_nil, List.take_nil, i.p, hz', gl, sa, strs_len, hd, hn1, mkStr_size, hw1, hw2, hw3] <;> try simp -dsimp only [if_conj])
      exact ⟨⟨by omega, by omega⟩, by omega, ⟨by omega, by omega⟩, by omega, m - 1, _, by omega, Weak.refl _ (Nat.le_refl _), n + 1, by omega, by rw [hp, hcl3], rfl⟩
  · have hz' : decide ((n : Int) < L.length) = false := by simp; omega
    rw [List.drop_eq_nil_of_le (by omega)] at hp
    rw [hp] at hK
    (simp +contextual -dsimp only [R12, evA, evB, ↓a_on_t, ↓a_on_f, ↓a_on_und, ↓a_cond_b, ↓reduceIte, Go.Ab.part, List.getD_cons_zero, List.getD_cons_succ, List.set_cons_zero, List.set_cons_succ, List.length_cons, List.length_nil, List.cons_append, List.nil_append, cond_true, cond_false, Bool.cond_true, reduceCtorEq, Option.map_some, Option.map_none, forall_const, ne_eq, implies_true, Nat.reduceAdd, Nat.reduceLeDiff, Nat.reduceLT, Nat.beq, Option.isNone_none, beq_self_eq_true, bne_self_eq_false, Int.reduceBEq, Int.reduceBNe, Int.reduceLT, Int.reduceLE, Int.reduceGT, Int.reduceGE, Int.reduceEq, Int.reduceNe, Int.reduceToNat, List.take_zero, List.drop_zero, List.all_cons, List.all_nil, List.append_nil, List.length_append, List.length_set, List.append_assoc, List.drop_nil, List.take_nil, i.p, hz', hlen] <;> try simp -dsimp only [if_conj])
    exact hK
theorem rpBytes_ok {L : List (List UInt8)} {id : Nat} {ls : AV} (i : IsP L id ls h) (hr : ∀ s ∈ L, right s) (hl : (cat L).length ≤ 1000000) (hK : ∀ h' r, Keeps h h' → IsB (cat L) r h' → K.K r h') : ACall X 14 [.p id 0] h K := by
  have hbig : (6000000 : Nat) ≤ bigRoom := by decide
  have hcl := cat_le L
  apply i14
  (simp +contextual -dsimp only [R14, evA, evB, ↓a_on_t, ↓a_on_f, ↓a_on_und, ↓a_cond_b, ↓reduceIte, Go.Ab.part, List.getD_cons_zero, List.getD_cons_succ, List.set_cons_zero, List.set_cons_succ, List.length_cons, List.length_nil, List.cons_append, List.nil_append, cond_true, cond_false, Bool.cond_true, reduceCtorEq, Option.map_some, Option.map_none, forall_const, ne_eq, implies_true, Nat.reduceAdd, Nat.reduceLeDiff, Nat.reduceLT, Nat.beq, Option.isNone_none, beq_self_eq_true, bne_self_eq_false, Int.reduceBEq, Int.reduceBNe, Int.reduceLT, Int.reduceLE, Int.reduceGT, Int.reduceGE, Int.reduceEq, Int.reduceNe, Int.reduceToNat, List.take_zero, List.drop_zero, List.all_cons, List.all_nil, List.append_nil, List.length_append, List.length_set, List.append_assoc, List.drop_nil, List.take_nil] <;> try simp -dsimp only [if_conj])
  refine aloop (fun m st => ∃ n h1 b, m + n = L.length ∧ Keeps h h1 ∧ h.length ≤ b ∧ h1.getD b .dead = .o 1 (byt (cat (L.take n))) ∧ st = ((.p id 0 :: sl st.1 1 :: sl st.1 2 :: .s b 0 (cat (L.take n)).length :: I n :: sl st.1 5 :: sl st.1 6 :: sl st.1 7 :: sl st.1 8 :: sl st.1 9 :: sl st.1 10 :: sl st.1 11 :: sl st.1 12 :: sl st.1 13 :: sl st.1 14 :: sl st.1 15 :: sl st.1 16 :: sl st.1 17 :: sl st.1 18 :: sl st.1 19 :: sl st.1 20 :: sl st.1 21 :: sl st.1 22 :: sl st.1 23 :: sl st.1 24 :: []), h1)) L.length
    ((.p id 0 :: .bad :: .bad :: .s h.length 0 0 :: I 0 :: .bad :: .bad :: .bad :: .bad :: .bad :: .bad :: .bad :: .bad :: .bad :: .bad :: .bad :: .bad :: .bad :: .bad :: .bad :: .bad :: .bad :: .bad :: .bad :: .bad :: []), h ++ [.o 1 []]) (Nat.le_refl _) (weak_nils (Nat.le_refl _) (by simp [NilOk])) ⟨0, _, _, by omega, Keeps.adds Adds.mk, Nat.le_refl _, hget_new, rfl⟩ ?_
  rintro m st ⟨n, h1, b, hm, k1, hb, gb, hst⟩
  rw [hst]
  have i1 := i.keeps k1
  have hlen := isS_len i1.s
  have kl := k1.len
  have lb := hlt gb (by simp)
  by_cases hz : n < L.length
  · have hz' : decide ((n : Int) < L.length) = true := by simp; omega
    have hn1 : IntKind.i64.wrap ((n : Int) + 1) = ((n + 1 : Nat) : Int) := by rw [wrap_i64 (by omega) (by omega)]; rfl
    have hmem : L.getD n [] ∈ L := by rw [List.getD_eq_getElem?_getD, List.getElem?_eq_getElem hz]; exact List.getElem_mem hz
    obtain ⟨lid, rfl, gl⟩ := isS_obj i1.s (by omega)
    have hct := cat_take hz
    have hcl2 := cat_take_le (L := L) (n + 1)
    have hcl3 := congrArg List.length hct
    rw [List.length_append, List.length_append, List.length_singleton] at hcl3
    have sa := strs_at hz
    have hrx := hr _ hmem
    have txx := right_txt hrx
    generalize L.getD n [] = x at *
    (simp +contextual -dsimp only [R14, evA, evB, ↓a_on_t, ↓a_on_f, ↓a_on_und, ↓a_cond_b, ↓reduceIte, Go.Ab.part, List.getD_cons_zero, List.getD_cons_succ, List.set_cons_zero, List.set_cons_succ, List.length_cons, List.length_nil, List.cons_append, List.nil_append, cond_true, cond_false, Bool.cond_true, reduceCtorEq, Option.map_some, Option.map_none, forall_const, ne_eq, implies_true, Nat.reduceAdd, Nat.reduceLeDiff, Nat.reduceLT, Nat.beq, Option.isNone_none, beq_self_eq_true, bne_self_eq_false, Int.reduceBEq, Int.reduceBNe, Int.reduceLT, Int.reduceLE, Int.reduceGT, Int.reduceGE, Int.reduceEq, Int.reduceNe, Int.reduceToNat, List.take_zero, List.drop_zero, List.all_cons, List.all_nil, List.append_nil, List.length_append, List.length_set, List.append_assoc, List.drop_nil, List.take_nil, i1.p, hz', gl, sa, strs_len] <;> try simp -dsimp only [if_conj])
    refine ⟨⟨by omega, by omega⟩, by omega, ?_⟩
    refine rSPut_ok (by have := hrx.2; omega) fun h2 id2 g2 => ?_
    rw [txx] at g2 ⊢
    have k2 := g2.keepsNew
    have gb2 := k2.at gb (by simp)
    have n12 : ¬ id2 = b := by
      rcases g2.is with e | e
      · omega
      · simp at e; omega
    have l2 := k2.len
    have eT : List.take (x.length + 1) (byt (x ++ [0])) = byt (x ++ [0]) := take_b (by simp)
    (simp +contextual -dsimp only [R14, evA, evB, ↓a_on_t, ↓a_on_f, ↓a_on_und, ↓a_cond_b, ↓reduceIte, Go.Ab.part, List.getD_cons_zero, List.getD_cons_succ, List.set_cons_zero, List.set_cons_succ, List.length_cons, List.length_nil, List.cons_append, List.nil_append, cond_true, cond_false, Bool.cond_true, reduceCtorEq, Option.map_some, Option.map_none, forall_const, ne_eq, implies_true, Nat.reduceAdd, Nat.reduceLeDiff, Nat.reduceLT, Nat.beq, Option.isNone_none, beq_self_eq_true, bne_self_eq_false, Int.reduceBEq, Int.reduceBNe, Int.reduceLT, Int.reduceLE, Int.reduceGT, Int.reduceGE, Int.reduceEq, Int.reduceNe, Int.reduceToNat, List.take_zero, List.drop_zero, List.all_cons, List.all_nil, List.append_nil, List.length_append, List.length_set, List.append_assoc, List.drop_nil, List.take_nil, gb2, g2.get, hn1, eT] <;> try simp -dsimp only [if_conj])
    rw [byt_append, ← List.append_assoc, ← hct, ← Nat.add_assoc, ← hcl3]
    refine ⟨⟨by omega, n12⟩, m - 1, _, by omega, Weak.refl _ (by simp; omega), n + 1, _, h2.length, by omega, (k1.trans k2).push hb, by omega, ?_, rfl⟩
    rw [show h2.length = (h2.set b .dead).length by simp]; exact hget_new
  · have hz' : decide ((n : Int) < L.length) = false := by simp; omega
    rw [List.take_of_length_le (by omega)] at gb ⊢
    (simp +contextual -dsimp only [R14, evA, evB, ↓a_on_t, ↓a_on_f, ↓a_on_und, ↓a_cond_b, ↓reduceIte, Go.Ab.part, List.getD_cons_zero, List.getD_cons_succ, List.set_cons_zero, List.set_cons_succ, List.length_cons, List.length_nil, List.cons_append, List.nil_append, cond_true, cond_false, Bool.cond_true, reduceCtorEq, Option.map_some, Option.map_none, forall_const, ne_eq, implies_true, Nat.reduceAdd, Nat.reduceLeDiff, Nat.reduceLT, Nat.beq, Option.isNone_none, beq_self_eq_true, bne_self_eq_false, Int.reduceBEq, Int.reduceBNe, Int.reduceLT, Int.reduceLE, Int.reduceGT, Int.reduceGE, Int.reduceEq, Int.reduceNe, Int.reduceToNat, List.take_zero, List.drop_zero, List.all_cons, List.all_nil, List.append_nil, List.length_append, List.length_set, List.append_assoc, List.drop_nil, List.take_nil, i1.p, hz', hlen] <;> try simp -dsimp only [if_conj])
    exact hK _ _ k1 (IsB.s gb)
end Go.Proofs.Ytgpddpdhkhfdjaa
