import Derived.Test.YtgpddpdhkhfdjaaCI
set_option linter.unusedVariables false
set_option linter.unusedSimpArgs false
set_option maxRecDepth 100000
namespace Go.Proofs.Ytgpddpdhkhfdjaa
open Go.Ab
variable {h : Heap} {K : Kt}

def kb (l : List (List UInt8)) : List (AV × AV) := l.map fun s => (.v (.string (mkStr s)), .v (.bool true))
theorem kb_get : ∀ (l : List (List UInt8)) (s : List UInt8), mget true (kb l) (.v (.string (mkStr s))) = some (if s ∈ l then some (.v (.bool true)) else none)
  | [], s => by simp [kb, mget, keq]
  | x :: l, s => by
    unfold kb
    rw [List.map_cons]
    unfold mget
    by_cases e : s = x
    · subst e; simp [keq]
    · have : decide (mkStr s = mkStr x) = false := by
        simp only [decide_eq_false_iff_not]; intro h; exact e (mkStr_inj.1 h)
      simp only [keq, cond_true, this]
      rw [show (l.map fun s => ((.v (.string (mkStr s)) : AV), (.v (.bool true) : AV))) = kb l from rfl, kb_get l s]
      simp [e]
theorem kb_put : ∀ (l : List (List UInt8)) (s : List UInt8), s ∉ l → mput true (kb l) (.v (.string (mkStr s))) (.v (.bool true)) = some (kb (l ++ [s]))
  | [], s, _ => by simp [kb, mput, keq]
  | x :: l, s, h => by
    have e : ¬ s = x := fun e => h (by simp [e])
    have this : decide (mkStr s = mkStr x) = false := by
      simp only [decide_eq_false_iff_not]; intro h; exact e (mkStr_inj.1 h)
    unfold kb
    rw [List.map_cons]
    unfold mput
    simp only [keq, cond_true, this]
    rw [show (l.map fun s => ((.v (.string (mkStr s)) : AV), (.v (.bool true) : AV))) = kb l from rfl, kb_put l s (fun h2 => h (List.mem_cons_of_mem _ h2))]
    rfl
def onceR (t : List UInt8) : Bool × Int := if (allS t).2 = 0 then (decide (allS t).1.Nodup, 0) else (false, (allS t).2)
theorem take_nodup {L : List (List UInt8)} {n : Nat} (h : n < L.length) (h1 : (L.take n).Nodup) (h2 : L.getD n [] ∉ L.take n) : (L.take (n + 1)).Nodup := by
  have e : L.take (n + 1) = L.take n ++ [L.getD n []] := by rw [List.take_add_one, List.getElem?_eq_getElem h, List.getD_eq_getElem?_getD, List.getElem?_eq_getElem h]; rfl
  rw [e, List.nodup_append]
  exact ⟨h1, by simp, fun a ha b hb => by simp only [List.mem_singleton] at hb; subst hb; exact fun e => h2 (e ▸ ha)⟩
theorem not_nodup {L : List (List UInt8)} {n : Nat} (h : n < L.length) (h2 : L.getD n [] ∈ L.take n) : ¬ L.Nodup := fun hn => by
  have e : L = L.take n ++ (L.getD n [] :: L.drop (n + 1)) := by
    conv => lhs; rw [← List.take_append_drop n L, List.drop_eq_getElem_cons h]
    rw [List.getD_eq_getElem?_getD, List.getElem?_eq_getElem h]; rfl
  rw [e, List.nodup_append] at hn
  exact hn.2.2 _ h2 _ (List.mem_cons_self ..) rfl
theorem pOnce_ok {t : List UInt8} (ht : t.length ≤ 30000) (hK : ∀ h', Keeps h h' → K.K (.t [Bo (onceR t).1, I (onceR t).2]) h') : ACall X 16 [.z (byt t) t.length] h K := by
  apply i16
  (simp +contextual -dsimp only [R16, evA, evB, ↓a_on_t, ↓a_on_f, ↓a_on_und, ↓a_cond_b, ↓reduceIte, Go.Ab.part, List.getD_cons_zero, List.getD_cons_succ, List.set_cons_zero, List.set_cons_succ, List.length_cons, List.length_nil, List.cons_append, List.nil_append, cond_true, cond_false, Bool.cond_true, reduceCtorEq, Option.map_some, Option.map_none, forall_const, ne_eq, implies_true, Nat.reduceAdd, Nat.reduceLeDiff, Nat.reduceLT, Nat.beq, Option.isNone_none, beq_self_eq_true, bne_self_eq_false, Int.reduceBEq, Int.reduceBNe, Int.reduceLT, Int.reduceLE, Int.reduceGT, Int.reduceGE, Int.reduceEq, Int.reduceNe, Int.reduceToNat, List.take_zero, List.drop_zero, List.all_cons, List.all_nil, List.append_nil, List.length_append, List.length_set, List.append_assoc, List.drop_nil, List.take_nil] <;> try simp -dsimp only [if_conj])
  refine All_ok ht fun h1 r k1 i1 => ?_
  unfold allR at i1
  unfold onceR at hK
  by_cases e0 : (allS t).2 = 0
  · rw [if_pos e0] at hK i1
    have e0' : ((allS t).2 != 0) = false := by simp [e0]
    have hal := allS_len t.length t (Nat.le_refl _)
    generalize (allS t).1 = L at *
    have hlen := isS_len (i1.keeps (Keeps.adds (Adds.mk (l := [.m []]))))
    have hle : h.length ≤ (h1 ++ [AO.m []]).length := by have := k1.len; simp; omega
    (simp +contextual -dsimp only [R16, evA, evB, ↓a_on_t, ↓a_on_f, ↓a_on_und, ↓a_cond_b, ↓reduceIte, Go.Ab.part, List.getD_cons_zero, List.getD_cons_succ, List.set_cons_zero, List.set_cons_succ, List.length_cons, List.length_nil, List.cons_append, List.nil_append, cond_true, cond_false, Bool.cond_true, reduceCtorEq, Option.map_some, Option.map_none, forall_const, ne_eq, implies_true, Nat.reduceAdd, Nat.reduceLeDiff, Nat.reduceLT, Nat.beq, Option.isNone_none, beq_self_eq_true, bne_self_eq_false, Int.reduceBEq, Int.reduceBNe, Int.reduceLT, Int.reduceLE, Int.reduceGT, Int.reduceGE, Int.reduceEq, Int.reduceNe, Int.reduceToNat, List.take_zero, List.drop_zero, List.all_cons, List.all_nil, List.append_nil, List.length_append, List.length_set, List.append_assoc, List.drop_nil, List.take_nil, e0', hlen] <;> try simp -dsimp only [if_conj])
    refine aloop (fun m st => ∃ n h2, m + n = L.length ∧ Keeps h1 h2 ∧ h2.getD h1.length .dead = .m (kb (L.take n)) ∧ (L.take n).Nodup ∧ st = ((sl st.1 0 :: sl st.1 1 :: sl st.1 2 :: sl st.1 3 :: sl st.1 4 :: sl st.1 5 :: .m h1.length :: sl st.1 7 :: sl st.1 8 :: sl st.1 9 :: sl st.1 10 :: sl st.1 11 :: sl st.1 12 :: sl st.1 13 :: sl st.1 14 :: sl st.1 15 :: sl st.1 16 :: sl st.1 17 :: r :: I L.length :: I n :: sl st.1 21 :: sl st.1 22 :: sl st.1 23 :: sl st.1 24 :: sl st.1 25 :: sl st.1 26 :: sl st.1 27 :: sl st.1 28 :: sl st.1 29 :: []), h2)) L.length
      _ hle (Weak.refl _ hle) ⟨0, h1 ++ [.m []], by omega, Keeps.adds Adds.mk, hget_new, by simp, rfl⟩ ?_
    rintro m st ⟨n, h2, hm, k2, gm, hnd, hst⟩
    rw [hst]
    by_cases hz : n < L.length
    · have hz' : decide ((n : Int) < L.length) = true := by simp; omega
      have hn1 : IntKind.i64.wrap ((n : Int) + 1) = ((n + 1 : Nat) : Int) := by rw [wrap_i64 (by omega) (by omega)]; rfl
      obtain ⟨lid, rfl, gl⟩ := isS_obj (i1.keeps k2) (by omega)
      have sa := strs_at hz
      have hg := kb_get (L.take n) (L.getD n [])
      have hp := kb_put (L.take n) (L.getD n [])
      have hts : L.take (n + 1) = L.take n ++ [L.getD n []] := by rw [List.take_add_one, List.getElem?_eq_getElem hz, List.getD_eq_getElem?_getD, List.getElem?_eq_getElem hz]; rfl
      have tn := take_nodup hz hnd
      have nn := not_nodup hz
      have lm := hlt gm (by simp)
      by_cases hin : L.getD n [] ∈ L.take n
      · rw [if_pos hin] at hg
        rw [decide_eq_false (nn hin)] at hK
        generalize L.getD n [] = x at *
        (simp +contextual -dsimp only [R16, evA, evB, ↓a_on_t, ↓a_on_f, ↓a_on_und, ↓a_cond_b, ↓reduceIte, Go.Ab.part, List.getD_cons_zero, List.getD_cons_succ, List.set_cons_zero, List.set_cons_succ, List.length_cons, List.length_nil, List.cons_append, List.nil_append, cond_true, cond_false, Bool.cond_true, reduceCtorEq, Option.map_some, Option.map_none, forall_const, ne_eq, implies_true, Nat.reduceAdd, Nat.reduceLeDiff, Nat.reduceLT, Nat.beq, Option.isNone_none, beq_self_eq_true, bne_self_eq_false, Int.reduceBEq, Int.reduceBNe, Int.reduceLT, Int.reduceLE, Int.reduceGT, Int.reduceGE, Int.reduceEq, Int.reduceNe, Int.reduceToNat, List.take_zero, List.drop_zero, List.all_cons, List.all_nil, List.append_nil, List.length_append, List.length_set, List.append_assoc, List.drop_nil, List.take_nil, hz', gl, sa, strs_len, gm, hg] <;> try simp -dsimp only [if_conj])
        exact ⟨⟨by omega, by omega⟩, by omega, hK _ (k1.trans k2)⟩
      · rw [if_neg hin] at hg
        have hp := hp hin
        have tn2 := tn hin
        rw [← hts] at hp
        generalize L.getD n [] = x at *
        (simp +contextual -dsimp only [R16, evA, evB, ↓a_on_t, ↓a_on_f, ↓a_on_und, ↓a_cond_b, ↓reduceIte, Go.Ab.part, List.getD_cons_zero, List.getD_cons_succ, List.set_cons_zero, List.set_cons_succ, List.length_cons, List.length_nil, List.cons_append, List.nil_append, cond_true, cond_false, Bool.cond_true, reduceCtorEq, Option.map_some, Option.map_none, forall_const, ne_eq, implies_true, Nat.reduceAdd, Nat.reduceLeDiff, Nat.reduceLT, Nat.beq, Option.isNone_none, beq_self_eq_true, bne_self_eq_false, Int.reduceBEq, Int.reduceBNe, Int.reduceLT, Int.reduceLE, Int.reduceGT, Int.reduceGE, Int.reduceEq, Int.reduceNe, Int.reduceToNat, List.take_zero, List.drop_zero, List.all_cons, List.all_nil, List.append_nil, List.length_append, List.length_set, List.append_assoc, List.drop_nil, List.take_nil, hz', gl, sa, strs_len, gm, hg, hp, hn1] <;> try simp -dsimp only [if_conj])
        have kl := k2.len
        exact ⟨⟨by omega, by omega⟩, by omega, m - 1, _, by omega, Weak.refl _ (by have := k1.len; simp; omega), n + 1, _, by omega, ⟨by simpa using kl, fun hj => by rw [hget_set_ne (by omega)]; exact k2.get hj⟩, hget_set lm, tn2, rfl⟩
    · have hz' : decide ((n : Int) < L.length) = false := by simp; omega
      rw [List.take_of_length_le (by omega)] at hnd
      rw [decide_eq_true hnd] at hK
      (simp +contextual -dsimp only [R16, evA, evB, ↓a_on_t, ↓a_on_f, ↓a_on_und, ↓a_cond_b, ↓reduceIte, Go.Ab.part, List.getD_cons_zero, List.getD_cons_succ, List.set_cons_zero, List.set_cons_succ, List.length_cons, List.length_nil, List.cons_append, List.nil_append, cond_true, cond_false, Bool.cond_true, reduceCtorEq, Option.map_some, Option.map_none, forall_const, ne_eq, implies_true, Nat.reduceAdd, Nat.reduceLeDiff, Nat.reduceLT, Nat.beq, Option.isNone_none, beq_self_eq_true, bne_self_eq_false, Int.reduceBEq, Int.reduceBNe, Int.reduceLT, Int.reduceLE, Int.reduceGT, Int.reduceGE, Int.reduceEq, Int.reduceNe, Int.reduceToNat, List.take_zero, List.drop_zero, List.all_cons, List.all_nil, List.append_nil, List.length_append, List.length_set, List.append_assoc, List.drop_nil, List.take_nil, hz'] <;> try simp -dsimp only [if_conj])
      exact hK _ (k1.trans k2)
  · rw [if_neg e0] at hK
    have e0' : ((allS t).2 != 0) = true := by simp [e0]
    (simp +contextual -dsimp only [R16, evA, evB, ↓a_on_t, ↓a_on_f, ↓a_on_und, ↓a_cond_b, ↓reduceIte, Go.Ab.part, List.getD_cons_zero, List.getD_cons_succ, List.set_cons_zero, List.set_cons_succ, List.length_cons, List.length_nil, List.cons_append, List.nil_append, cond_true, cond_false, Bool.cond_true, reduceCtorEq, Option.map_some, Option.map_none, forall_const, ne_eq, implies_true, Nat.reduceAdd, Nat.reduceLeDiff, Nat.reduceLT, Nat.beq, Option.isNone_none, beq_self_eq_true, bne_self_eq_false, Int.reduceBEq, Int.reduceBNe, Int.reduceLT, Int.reduceLE, Int.reduceGT, Int.reduceGE, Int.reduceEq, Int.reduceNe, Int.reduceToNat, List.take_zero, List.drop_zero, List.all_cons, List.all_nil, List.append_nil, List.length_append, List.length_set, List.append_assoc, List.drop_nil, List.take_nil, e0'] <;> try simp -dsimp only [if_conj])
    exact hK _ k1
theorem rpOnce_ok {t : List UInt8} (ht : t.length ≤ 30000) (hK : ∀ h', Keeps h h' → K.K (.t [Bo (onceR t).1, I (onceR t).2]) h') : ACall X 17 [.z (byt t) t.length] h K := by
  apply i17
  (simp +contextual -dsimp only [R17, evA, evB, ↓a_on_t, ↓a_on_f, ↓a_on_und, ↓a_cond_b, ↓reduceIte, Go.Ab.part, List.getD_cons_zero, List.getD_cons_succ, List.set_cons_zero, List.set_cons_succ, List.length_cons, List.length_nil, List.cons_append, List.nil_append, cond_true, cond_false, Bool.cond_true, reduceCtorEq, Option.map_some, Option.map_none, forall_const, ne_eq, implies_true, Nat.reduceAdd, Nat.reduceLeDiff, Nat.reduceLT, Nat.beq, Option.isNone_none, beq_self_eq_true, bne_self_eq_false, Int.reduceBEq, Int.reduceBNe, Int.reduceLT, Int.reduceLE, Int.reduceGT, Int.reduceGE, Int.reduceEq, Int.reduceNe, Int.reduceToNat, List.take_zero, List.drop_zero, List.all_cons, List.all_nil, List.append_nil, List.length_append, List.length_set, List.append_assoc, List.drop_nil, List.take_nil] <;> try simp -dsimp only [if_conj])
  refine rAll_ok ht fun h1 r k1 i1 => ?_
  unfold allR at i1
  unfold onceR at hK
  by_cases e0 : (allS t).2 = 0
  · rw [if_pos e0] at hK i1
    have e0' : ((allS t).2 != 0) = false := by simp [e0]
    have hal := allS_len t.length t (Nat.le_refl _)
    generalize (allS t).1 = L at *
    have hlen := isS_len i1
    have kl := k1.len
    (simp +contextual -dsimp only [R17, evA, evB, ↓a_on_t, ↓a_on_f, ↓a_on_und, ↓a_cond_b, ↓reduceIte, Go.Ab.part, List.getD_cons_zero, List.getD_cons_succ, List.set_cons_zero, List.set_cons_succ, List.length_cons, List.length_nil, List.cons_append, List.nil_append, cond_true, cond_false, Bool.cond_true, reduceCtorEq, Option.map_some, Option.map_none, forall_const, ne_eq, implies_true, Nat.reduceAdd, Nat.reduceLeDiff, Nat.reduceLT, Nat.beq, Option.isNone_none, beq_self_eq_true, bne_self_eq_false, Int.reduceBEq, Int.reduceBNe, Int.reduceLT, Int.reduceLE, Int.reduceGT, Int.reduceGE, Int.reduceEq, Int.reduceNe, Int.reduceToNat, List.take_zero, List.drop_zero, List.all_cons, List.all_nil, List.append_nil, List.length_append, List.length_set, List.append_assoc, List.drop_nil, List.take_nil, e0'] <;> try simp -dsimp only [if_conj])
    refine aloop (fun m st => ∃ n, m + n = L.length ∧ (L.take n).Nodup ∧ st = ((sl st.1 0 :: sl st.1 1 :: sl st.1 2 :: sl st.1 3 :: r :: sl st.1 5 :: I n :: sl st.1 7 :: sl st.1 8 :: sl st.1 9 :: sl st.1 10 :: sl st.1 11 :: sl st.1 12 :: sl st.1 13 :: sl st.1 14 :: sl st.1 15 :: sl st.1 16 :: sl st.1 17 :: sl st.1 18 :: sl st.1 19 :: sl st.1 20 :: sl st.1 21 :: sl st.1 22 :: sl st.1 23 :: sl st.1 24 :: sl st.1 25 :: sl st.1 26 :: sl st.1 27 :: sl st.1 28 :: sl st.1 29 :: sl st.1 30 :: sl st.1 31 :: sl st.1 32 :: sl st.1 33 :: sl st.1 34 :: sl st.1 35 :: []), h1)) L.length
      _ kl (Weak.refl _ kl) ⟨0, by omega, by simp, rfl⟩ ?_
    rintro m st ⟨n, hm, hnd, hst⟩
    rw [hst]
    by_cases hz : n < L.length
    · have hz' : decide ((n : Int) < L.length) = true := by simp; omega
      have hn1 : IntKind.i64.wrap ((n : Int) + 1) = ((n + 1 : Nat) : Int) := by rw [wrap_i64 (by omega) (by omega)]; rfl
      obtain ⟨lid, rfl, gl⟩ := isS_obj i1 (by omega)
      have sa := strs_at hz
      have tn := take_nodup hz hnd
      have nn := not_nodup hz
      generalize hxx : L.getD n [] = x at *
      (simp +contextual -dsimp only [R17, evA, evB, ↓a_on_t, ↓a_on_f, ↓a_on_und, ↓a_cond_b, ↓reduceIte, Go.Ab.part, List.getD_cons_zero, List.getD_cons_succ, List.set_cons_zero, List.set_cons_succ, List.length_cons, List.length_nil, List.cons_append, List.nil_append, cond_true, cond_false, Bool.cond_true, reduceCtorEq, Option.map_some, Option.map_none, forall_const, ne_eq, implies_true, Nat.reduceAdd, Nat.reduceLeDiff, Nat.reduceLT, Nat.beq, Option.isNone_none, beq_self_eq_true, bne_self_eq_false, Int.reduceBEq, Int.reduceBNe, Int.reduceLT, Int.reduceLE, Int.reduceGT, Int.reduceGE, Int.reduceEq, Int.reduceNe, Int.reduceToNat, List.take_zero, List.drop_zero, List.all_cons, List.all_nil, List.append_nil, List.length_append, List.length_set, List.append_assoc, List.drop_nil, List.take_nil, hz'] <;> try simp -dsimp only [if_conj])
      refine aloop (fun m2 st => ∃ k, m2 + k = n ∧ x ∉ L.take k ∧ st = ((sl st.1 0 :: sl st.1 1 :: sl st.1 2 :: sl st.1 3 :: .s lid 0 L.length :: sl st.1 5 :: I n :: I k :: sl st.1 8 :: sl st.1 9 :: sl st.1 10 :: sl st.1 11 :: sl st.1 12 :: sl st.1 13 :: sl st.1 14 :: sl st.1 15 :: sl st.1 16 :: sl st.1 17 :: sl st.1 18 :: sl st.1 19 :: sl st.1 20 :: sl st.1 21 :: sl st.1 22 :: sl st.1 23 :: sl st.1 24 :: sl st.1 25 :: sl st.1 26 :: sl st.1 27 :: sl st.1 28 :: sl st.1 29 :: sl st.1 30 :: sl st.1 31 :: sl st.1 32 :: sl st.1 33 :: sl st.1 34 :: sl st.1 35 :: []), h1)) n _ kl (Weak.refl _ kl) ⟨0, by omega, by simp, rfl⟩ ?_
      rintro m2 st2 ⟨k, hk, hnx, hst2⟩
      rw [hst2]
      by_cases hz2 : k < n
      · have hz2' : decide ((k : Int) < n) = true := by simp; omega
        have hk1 : IntKind.i64.wrap ((k : Int) + 1) = ((k + 1 : Nat) : Int) := by rw [wrap_i64 (by omega) (by omega)]; rfl
        have sb := strs_at (l := L) (i := k) (by omega)
        have htk : L.take (k + 1) = L.take k ++ [L.getD k []] := by rw [List.take_add_one, List.getElem?_eq_getElem (by omega), List.getD_eq_getElem?_getD, List.getElem?_eq_getElem (by omega)]; rfl
        have hmk : L.getD k [] ∈ L.take n := by
          rw [List.getD_eq_getElem?_getD, List.getElem?_eq_getElem (by omega)]
          exact List.mem_take_iff_getElem.2 ⟨k, by omega, rfl⟩
        by_cases e : x = L.getD k []
        · rw [decide_eq_false (nn (e ▸ hmk))] at hK
          have hd : decide (mkStr x = mkStr (L.getD k [])) = true := by rw [← e]; exact decide_eq_true rfl
          (simp +contextual -dsimp only [R17, evA, evB, ↓a_on_t, ↓a_on_f, ↓a_on_und, ↓a_cond_b, ↓reduceIte, Go.Ab.part, List.getD_cons_zero, List.getD_cons_succ, List.set_cons_zero, List.set_cons_succ, List.length_cons, List.length_nil, List.cons_append, List.nil_append, cond_true, cond_false, Bool.cond_true, reduceCtorEq, Option.map_some, Option.map_none, forall_const, ne_eq, implies_true, Nat.reduceAdd, Nat.reduceLeDiff, Nat.reduceLT, Nat.beq, Option.isNone_none, beq_self_eq_true, bne_self_eq_false, Int.reduceBEq, Int.reduceBNe, Int.reduceLT, Int.reduceLE, Int.reduceGT, Int.reduceGE, Int.reduceEq, Int.reduceNe, Int.reduceToNat, List.take_zero, List.drop_zero, List.all_cons, List.all_nil, List.append_nil, List.length_append, List.length_set, List.append_assoc, List.drop_nil, List.take_nil, hz2', gl, sa, sb, strs_len, hd] <;> try simp -dsimp only [if_conj])
          repeat' apply And.intro
          all_goals first | omega | exact hK _ k1
        · have hd : decide (mkStr x = mkStr (L.getD k [])) = false := by
            simp only [decide_eq_false_iff_not]; intro h; exact e (mkStr_inj.1 h)
          (simp +contextual -dsimp only [R17, evA, evB, ↓a_on_t, ↓a_on_f, ↓a_on_und, ↓a_cond_b, ↓reduceIte, Go.Ab.part, List.getD_cons_zero, List.getD_cons_succ, List.set_cons_zero, List.set_cons_succ, List.length_cons, List.length_nil, List.cons_append, List.nil_append, cond_true, cond_false, Bool.cond_true, reduceCtorEq, Option.map_some, Option.map_none, forall_const, ne_eq, implies_true, Nat.reduceAdd, Nat.reduceLeDiff, Nat.reduceLT, Nat.beq, Option.isNone_none, beq_self_eq_true, bne_self_eq_false, Int.reduceBEq, Int.reduceBNe, Int.reduceLT, Int.reduceLE, Int.reduceGT, Int.reduceGE, Int.reduceEq, Int.reduceNe, Int.reduceToNat, List.take_zero, List.drop_zero, List.all_cons, List.all_nil, List.append_nil, List.length_append, List.length_set, List.append_assoc, List.drop_nil, List.take_nil, hz2', gl, sa, sb, strs_len, hd, hk1] <;> try simp -dsimp only [if_conj])
          repeat' apply And.intro
          all_goals first | omega | exact ⟨m2 - 1, _, by omega, Weak.refl _ kl, k + 1, by omega, by rw [htk, List.mem_append, List.mem_singleton]; exact fun h => h.elim hnx e, rfl⟩
      · have hz2' : decide ((k : Int) < n) = false := by simp; omega
        have : k = n := by omega
        subst this
        (simp +contextual -dsimp only [R17, evA, evB, ↓a_on_t, ↓a_on_f, ↓a_on_und, ↓a_cond_b, ↓reduceIte, Go.Ab.part, List.getD_cons_zero, List.getD_cons_succ, List.set_cons_zero, List.set_cons_succ, List.length_cons, List.length_nil, List.cons_append, List.nil_append, cond_true, cond_false, Bool.cond_true, reduceCtorEq, Option.map_some, Option.map_none, forall_const, ne_eq, implies_true, Nat.reduceAdd, Nat.reduceLeDiff, Nat.reduceLT, Nat.beq, Option.isNone_none, beq_self_eq_true, bne_self_eq_false, Int.reduceBEq, Int.reduceBNe, Int.reduceLT, Int.reduceLE, Int.reduceGT, Int.reduceGE, Int.reduceEq, Int.reduceNe, Int.reduceToNat, List.take_zero, List.drop_zero, List.all_cons, List.all_nil, List.append_nil, List.length_append, List.length_set, List.append_assoc, List.drop_nil, List.take_nil, hz2', hn1] <;> try simp -dsimp only [if_conj])
        exact ⟨m - 1, _, by omega, Weak.refl _ kl, k + 1, by omega, tn hnx, rfl⟩
    · have hz' : decide ((n : Int) < L.length) = false := by simp; omega
      rw [List.take_of_length_le (by omega)] at hnd
      rw [decide_eq_true hnd] at hK
      (simp +contextual -dsimp only [R17, evA, evB, ↓a_on_t, ↓a_on_f, ↓a_on_und, ↓a_cond_b, ↓reduceIte, Go.Ab.part, List.getD_cons_zero, List.getD_cons_succ, List.set_cons_zero, List.set_cons_succ, List.length_cons, List.length_nil, List.cons_append, List.nil_append, cond_true, cond_false, Bool.cond_true, reduceCtorEq, Option.map_some, Option.map_none, forall_const, ne_eq, implies_true, Nat.reduceAdd, Nat.reduceLeDiff, Nat.reduceLT, Nat.beq, Option.isNone_none, beq_self_eq_true, bne_self_eq_false, Int.reduceBEq, Int.reduceBNe, Int.reduceLT, Int.reduceLE, Int.reduceGT, Int.reduceGE, Int.reduceEq, Int.reduceNe, Int.reduceToNat, List.take_zero, List.drop_zero, List.all_cons, List.all_nil, List.append_nil, List.length_append, List.length_set, List.append_assoc, List.drop_nil, List.take_nil, hlen, hz'] <;> try simp -dsimp only [if_conj])
      exact hK _ k1
  · rw [if_neg e0] at hK
    have e0' : ((allS t).2 != 0) = true := by simp [e0]
    (simp +contextual -dsimp only [R17, evA, evB, ↓a_on_t, ↓a_on_f, ↓a_on_und, ↓a_cond_b, ↓reduceIte, Go.Ab.part, List.getD_cons_zero, List.getD_cons_succ, List.set_cons_zero, List.set_cons_succ, List.length_cons, List.length_nil, List.cons_append, List.nil_append, cond_true, cond_false, Bool.cond_true, reduceCtorEq, Option.map_some, Option.map_none, forall_const, ne_eq, implies_true, Nat.reduceAdd, Nat.reduceLeDiff, Nat.reduceLT, Nat.beq, Option.isNone_none, beq_self_eq_true, bne_self_eq_false, Int.reduceBEq, Int.reduceBNe, Int.reduceLT, Int.reduceLE, Int.reduceGT, Int.reduceGE, Int.reduceEq, Int.reduceNe, Int.reduceToNat, List.take_zero, List.drop_zero, List.all_cons, List.all_nil, List.append_nil, List.length_append, List.length_set, List.append_assoc, List.drop_nil, List.take_nil, e0'] <;> try simp -dsimp only [if_conj])
    exact hK _ k1
theorem ponce_ok {t : List UInt8} : ACall X 5 [.z (byt t) t.length] [] (.c (fun r _ => r = Bo true) ()) := by
  apply i5
  by_cases ht : t.length ≤ 2000
  · have ht' : decide ((t.length : Int) > 2000) = false := by simp; omega
    (simp +contextual -dsimp only [R5, evA, evB, ↓a_on_t, ↓a_on_f, ↓a_on_und, ↓a_cond_b, ↓reduceIte, Go.Ab.part, List.getD_cons_zero, List.getD_cons_succ, List.set_cons_zero, List.set_cons_succ, List.length_cons, List.length_nil, List.cons_append, List.nil_append, cond_true, cond_false, Bool.cond_true, reduceCtorEq, Option.map_some, Option.map_none, forall_const, ne_eq, implies_true, Nat.reduceAdd, Nat.reduceLeDiff, Nat.reduceLT, Nat.beq, Option.isNone_none, beq_self_eq_true, bne_self_eq_false, Int.reduceBEq, Int.reduceBNe, Int.reduceLT, Int.reduceLE, Int.reduceGT, Int.reduceGE, Int.reduceEq, Int.reduceNe, Int.reduceToNat, List.take_zero, List.drop_zero, List.all_cons, List.all_nil, List.append_nil, List.length_append, List.length_set, List.append_assoc, List.drop_nil, List.take_nil, ht'] <;> try simp -dsimp only [if_conj])
    refine pOnce_ok (by omega) fun h1 k1 => ?_
    (simp +contextual -dsimp only [R5, evA, evB, ↓a_on_t, ↓a_on_f, ↓a_on_und, ↓a_cond_b, ↓reduceIte, Go.Ab.part, List.getD_cons_zero, List.getD_cons_succ, List.set_cons_zero, List.set_cons_succ, List.length_cons, List.length_nil, List.cons_append, List.nil_append, cond_true, cond_false, Bool.cond_true, reduceCtorEq, Option.map_some, Option.map_none, forall_const, ne_eq, implies_true, Nat.reduceAdd, Nat.reduceLeDiff, Nat.reduceLT, Nat.beq, Option.isNone_none, beq_self_eq_true, bne_self_eq_false, Int.reduceBEq, Int.reduceBNe, Int.reduceLT, Int.reduceLE, Int.reduceGT, Int.reduceGE, Int.reduceEq, Int.reduceNe, Int.reduceToNat, List.take_zero, List.drop_zero, List.all_cons, List.all_nil, List.append_nil, List.length_append, List.length_set, List.append_assoc, List.drop_nil, List.take_nil] <;> try simp -dsimp only [if_conj])
    refine rpOnce_ok (by omega) fun h2 k2 => ?_
    (simp +contextual -dsimp only [R5, evA, evB, ↓a_on_t, ↓a_on_f, ↓a_on_und, ↓a_cond_b, ↓reduceIte, Go.Ab.part, List.getD_cons_zero, List.getD_cons_succ, List.set_cons_zero, List.set_cons_succ, List.length_cons, List.length_nil, List.cons_append, List.nil_append, cond_true, cond_false, Bool.cond_true, reduceCtorEq, Option.map_some, Option.map_none, forall_const, ne_eq, implies_true, Nat.reduceAdd, Nat.reduceLeDiff, Nat.reduceLT, Nat.beq, Option.isNone_none, beq_self_eq_true, bne_self_eq_false, Int.reduceBEq, Int.reduceBNe, Int.reduceLT, Int.reduceLE, Int.reduceGT, Int.reduceGE, Int.reduceEq, Int.reduceNe, Int.reduceToNat, List.take_zero, List.drop_zero, List.all_cons, List.all_nil, List.append_nil, List.length_append, List.length_set, List.append_assoc, List.drop_nil, List.take_nil] <;> try simp -dsimp only [if_conj])
    refine works04_ok fun h3 k3 => ?_
    (simp +contextual -dsimp only [R5, evA, evB, ↓a_on_t, ↓a_on_f, ↓a_on_und, ↓a_cond_b, ↓reduceIte, Go.Ab.part, List.getD_cons_zero, List.getD_cons_succ, List.set_cons_zero, List.set_cons_succ, List.length_cons, List.length_nil, List.cons_append, List.nil_append, cond_true, cond_false, Bool.cond_true, reduceCtorEq, Option.map_some, Option.map_none, forall_const, ne_eq, implies_true, Nat.reduceAdd, Nat.reduceLeDiff, Nat.reduceLT, Nat.beq, Option.isNone_none, beq_self_eq_true, bne_self_eq_false, Int.reduceBEq, Int.reduceBNe, Int.reduceLT, Int.reduceLE, Int.reduceGT, Int.reduceGE, Int.reduceEq, Int.reduceNe, Int.reduceToNat, List.take_zero, List.drop_zero, List.all_cons, List.all_nil, List.append_nil, List.length_append, List.length_set, List.append_assoc, List.drop_nil, List.take_nil] <;> try simp -dsimp only [if_conj])
  · have ht' : decide ((t.length : Int) > 2000) = true := by simp; omega
    (simp +contextual -dsimp only [R5, evA, evB, ↓a_on_t, ↓a_on_f, ↓a_on_und, ↓a_cond_b, ↓reduceIte, Go.Ab.part, List.getD_cons_zero, List.getD_cons_succ, List.set_cons_zero, List.set_cons_succ, List.length_cons, List.length_nil, List.cons_append, List.nil_append, cond_true, cond_false, Bool.cond_true, reduceCtorEq, Option.map_some, Option.map_none, forall_const, ne_eq, implies_true, Nat.reduceAdd, Nat.reduceLeDiff, Nat.reduceLT, Nat.beq, Option.isNone_none, beq_self_eq_true, bne_self_eq_false, Int.reduceBEq, Int.reduceBNe, Int.reduceLT, Int.reduceLE, Int.reduceGT, Int.reduceGE, Int.reduceEq, Int.reduceNe, Int.reduceToNat, List.take_zero, List.drop_zero, List.all_cons, List.all_nil, List.append_nil, List.length_append, List.length_set, List.append_assoc, List.drop_nil, List.take_nil, ht'] <;> try simp -dsimp only [if_conj])
    refine works04_ok fun h3 k3 => ?_
    (simp +contextual -dsimp only [R5, evA, evB, ↓a_on_t, ↓a_on_f, ↓a_on_und, ↓a_cond_b, ↓reduceIte, Go.Ab.part, List.getD_cons_zero, List.getD_cons_succ, List.set_cons_zero, List.set_cons_succ, List.length_cons, List.length_nil, List.cons_append, List.nil_append, cond_true, cond_false, Bool.cond_true, reduceCtorEq, Option.map_some, Option.map_none, forall_const, ne_eq, implies_true, Nat.reduceAdd, Nat.reduceLeDiff, Nat.reduceLT, Nat.beq, Option.isNone_none, beq_self_eq_true, bne_self_eq_false, Int.reduceBEq, Int.reduceBNe, Int.reduceLT, Int.reduceLE, Int.reduceGT, Int.reduceGE, Int.reduceEq, Int.reduceNe, Int.reduceToNat, List.take_zero, List.drop_zero, List.all_cons, List.all_nil, List.append_nil, List.length_append, List.length_set, List.append_assoc, List.drop_nil, List.take_nil] <;> try simp -dsimp only [if_conj])
end Go.Proofs.Ytgpddpdhkhfdjaa
