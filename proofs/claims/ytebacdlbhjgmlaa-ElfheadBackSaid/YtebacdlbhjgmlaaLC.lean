import Derived.Test.YtebacdlbhjgmlaaLA
set_option linter.unusedVariables false
set_option linter.unusedSimpArgs false
set_option maxRecDepth 100000
namespace Go.Proofs.Ytebacdlbhjgmlaa
open Go.Ab
variable {h : Heap} {K : Kt}

/-- places that are looked at -/
def Fixed (j : Nat) : Prop := j < 7 ∨ (16 ≤ j ∧ j < 24) ∨ (40 ≤ j ∧ j < 48) ∨ (52 ≤ j ∧ j < 54) ∨ (56 ≤ j ∧ j < 64)
structure Same (b c : List UInt8) : Prop where
  len : b.length = c.length
  at_ : ∀ j, Fixed j → b[j]? = c[j]?
theorem Same.set {b c : List UInt8} (s : Same b c) {k : Nat} (hk : ¬ Fixed k) (v : UInt8) : Same (b.set k v) c :=
  ⟨by rw [List.length_set]; exact s.len, fun j hj => by
    have hne : k ≠ j := fun e => hk (by rw [e]; exact hj)
    rw [List.getElem?_set_ne hne]; exact s.at_ j hj⟩
theorem Same.num {b c : List UInt8} (s : Same b c) {i n : Nat} (h : ∀ j, i ≤ j → j < i + n → Fixed j) : num b i n = num c i n := by
  unfold Go.Proofs.Ytebacdlbhjgmlaa.num
  congr 1
  apply List.ext_getElem?
  intro j
  rw [List.getElem?_take, List.getElem?_take]
  split
  · rw [List.getElem?_drop, List.getElem?_drop]; exact s.at_ _ (h _ (by omega) (by omega))
  · rfl
theorem Same.bad {b c : List UInt8} (s : Same b c) : bad b = bad c ∧ hdOf b = hdOf c := by
  have t7 : b.take 7 = c.take 7 := by
    apply List.ext_getElem?
    intro j
    rw [List.getElem?_take, List.getElem?_take]
    split
    · exact s.at_ _ (.inl (by omega))
    · rfl
  have e1 := s.num (i := 16) (n := 2) (fun j h1 h2 => by unfold Fixed; omega)
  have e2 := s.num (i := 18) (n := 2) (fun j h1 h2 => by unfold Fixed; omega)
  have e3 := s.num (i := 40) (n := 8) (fun j h1 h2 => by unfold Fixed; omega)
  have e4 := s.num (i := 60) (n := 2) (fun j h1 h2 => by unfold Fixed; omega)
  have e5 := s.num (i := 62) (n := 2) (fun j h1 h2 => by unfold Fixed; omega)
  have e6 := s.num (i := 20) (n := 4) (fun j h1 h2 => by unfold Fixed; omega)
  have e7 := s.num (i := 52) (n := 2) (fun j h1 h2 => by unfold Fixed; omega)
  have e8 := s.num (i := 56) (n := 2) (fun j h1 h2 => by unfold Fixed; omega)
  have e9 := s.num (i := 58) (n := 2) (fun j h1 h2 => by unfold Fixed; omega)
  have ha : hdAt b = hdAt c := by unfold hdAt; rw [e1, e2, e3, e4, e5]
  have hb : Go.Proofs.Ytebacdlbhjgmlaa.bad b = Go.Proofs.Ytebacdlbhjgmlaa.bad c := by unfold Go.Proofs.Ytebacdlbhjgmlaa.bad; rw [t7, s.len, e6, e7, e8, e9, ha]
  exact ⟨hb, by unfold hdOf; rw [hb, ha]⟩
theorem put_back {x : Hd} {r : List UInt8} (hf : x.fit) (hr : right x (64 + r.length) = true) : bad (put x ++ r) = 0 ∧ hdOf (put x ++ r) = x := by
  have f3 := hf.o
  obtain ⟨h1, h2, h3, h4, h5, h6, h7⟩ := of_decide_eq_true hr
  have e1 : num (put x ++ r) 16 2 = le (leB 2 (nat64 x.t)) := by rfl
  have e2 : num (put x ++ r) 18 2 = le (leB 2 (nat64 x.m)) := by rfl
  have e3 : num (put x ++ r) 40 8 = le (leB 8 x.o) := by rfl
  have e4 : num (put x ++ r) 60 2 = le (leB 2 (nat64 x.n)) := by rfl
  have e5 : num (put x ++ r) 62 2 = le (leB 2 (nat64 x.s)) := by rfl
  have e6 : num (put x ++ r) 20 4 = 1 := by rfl
  have e7 : num (put x ++ r) 52 2 = 64 := by rfl
  have e8 : num (put x ++ r) 56 2 = 0 := by rfl
  have e9 : num (put x ++ r) 58 2 = 64 := by rfl
  have e10 : (put x ++ r).take 7 = elf := by rfl
  have e11 : (put x ++ r).length = 64 + r.length := by rw [List.length_append, put_len]
  rw [le_leB] at e1 e2 e3 e4 e5
  have ha : hdAt (put x ++ r) = x := by
    obtain ⟨t, m, o, n, s⟩ := x
    unfold hdAt
    rw [e1, e2, e3, e4, e5]
    simp only [nat64, Hd.mk.injEq] at *
    refine ⟨?_, ?_, ?_, ?_, ?_⟩ <;> omega
  have := bad0 (b := put x ++ r) (by omega) e10 ⟨e6, e7, e8, e9, by rw [ha, e11]; exact_mod_cast hr⟩
  rw [ha] at this
  exact this
theorem eback_ok {x : Hd} {r ns : List UInt8} (hf : x.fit) (hns : ns.length < 9223372036854775808) (hrl : r.length < 9223372036854775808) : ACall X 5 [.g x.row, .z (byt r) r.length, .z (byt ns) ns.length] [] (.c (fun r _ => r = Bo true) ()) := by
  have f1 : x.row.all AV.one = true := rfl
  have f2 : setAt [I 0, I 0, U 0, I 0, I 0] 0 x.row = x.row := rfl
  have f3 : x.row.length = 5 := rfl
  have f4 : x.row.take 5 = x.row := rfl
  apply i5
  (simp +contextual -dsimp only [R5, evA, evB, ↓a_on_t, ↓a_on_f, ↓a_on_und, ↓a_cond_b, ↓reduceIte, Go.Ab.part, List.getD_cons_zero, List.getD_cons_succ, List.set_cons_zero, List.set_cons_succ, List.length_cons, List.length_nil, List.cons_append, List.nil_append, cond_true, cond_false, Bool.cond_true, reduceCtorEq, Option.map_some, Option.map_none, forall_const, ne_eq, implies_true, Nat.reduceAdd, Nat.reduceLeDiff, Nat.reduceLT, Nat.beq, Option.isNone_none, beq_self_eq_true, bne_self_eq_false, Int.reduceBEq, Int.reduceBNe, Int.reduceLT, Int.reduceLE, Int.reduceGT, Int.reduceGE, Int.reduceEq, Int.reduceNe, Int.reduceToNat, List.take_zero, List.drop_zero, List.all_cons, List.all_nil, List.append_nil, List.length_append, List.length_set, List.append_assoc, List.drop_nil, List.take_nil, f1, f3, f4] <;> try simp -dsimp only [if_conj])
  refine works06_ok fun h1 k1 => ?_
  have g1 : h1.getD 0 .dead = .o 1 x.row := k1.at rfl (by simp)
  clear k1
  (simp +contextual -dsimp only [R5, evA, evB, ↓a_on_t, ↓a_on_f, ↓a_on_und, ↓a_cond_b, ↓reduceIte, Go.Ab.part, List.getD_cons_zero, List.getD_cons_succ, List.set_cons_zero, List.set_cons_succ, List.length_cons, List.length_nil, List.cons_append, List.nil_append, cond_true, cond_false, Bool.cond_true, reduceCtorEq, Option.map_some, Option.map_none, forall_const, ne_eq, implies_true, Nat.reduceAdd, Nat.reduceLeDiff, Nat.reduceLT, Nat.beq, Option.isNone_none, beq_self_eq_true, bne_self_eq_false, Int.reduceBEq, Int.reduceBNe, Int.reduceLT, Int.reduceLE, Int.reduceGT, Int.reduceGE, Int.reduceEq, Int.reduceNe, Int.reduceToNat, List.take_zero, List.drop_zero, List.all_cons, List.all_nil, List.append_nil, List.length_append, List.length_set, List.append_assoc, List.drop_nil, List.take_nil, f1, f2, f3, f4, g1, hget_new, hset_new] <;> try simp -dsimp only [if_conj])
  have g2 : (h1 ++ [AO.o 1 x.row]).getD h1.length .dead = .o 1 x.row := hget_new
  generalize h1 ++ [AO.o 1 x.row] = H at *
  refine ⟨fun _ => trivial, fun hb => ?_⟩
  have hb' : r.length ≤ 4900 := by simp at hb; omega
  have d1 : decide ((r.length : Int) > 4900) = false := by simp; omega
  rw [wrap_i64 (by omega) (by omega)]
  refine Right_ok hf (by omega) (by omega) fun l => ?_
  have g3 : (H ++ l).getD h1.length .dead = .o 1 x.row := hget_app g2 (by simp)
  generalize H ++ l = H2 at *
  cases hr : right x (64 + r.length) with
  | false => (simp +contextual -dsimp only [R5, evA, evB, ↓a_on_t, ↓a_on_f, ↓a_on_und, ↓a_cond_b, ↓reduceIte, Go.Ab.part, List.getD_cons_zero, List.getD_cons_succ, List.set_cons_zero, List.set_cons_succ, List.length_cons, List.length_nil, List.cons_append, List.nil_append, cond_true, cond_false, Bool.cond_true, reduceCtorEq, Option.map_some, Option.map_none, forall_const, ne_eq, implies_true, Nat.reduceAdd, Nat.reduceLeDiff, Nat.reduceLT, Nat.beq, Option.isNone_none, beq_self_eq_true, bne_self_eq_false, Int.reduceBEq, Int.reduceBNe, Int.reduceLT, Int.reduceLE, Int.reduceGT, Int.reduceGE, Int.reduceEq, Int.reduceNe, Int.reduceToNat, List.take_zero, List.drop_zero, List.all_cons, List.all_nil, List.append_nil, List.length_append, List.length_set, List.append_assoc, List.drop_nil, List.take_nil, d1] <;> try simp -dsimp only [if_conj])
  | true =>
  (simp +contextual -dsimp only [R5, evA, evB, ↓a_on_t, ↓a_on_f, ↓a_on_und, ↓a_cond_b, ↓reduceIte, Go.Ab.part, List.getD_cons_zero, List.getD_cons_succ, List.set_cons_zero, List.set_cons_succ, List.length_cons, List.length_nil, List.cons_append, List.nil_append, cond_true, cond_false, Bool.cond_true, reduceCtorEq, Option.map_some, Option.map_none, forall_const, ne_eq, implies_true, Nat.reduceAdd, Nat.reduceLeDiff, Nat.reduceLT, Nat.beq, Option.isNone_none, beq_self_eq_true, bne_self_eq_false, Int.reduceBEq, Int.reduceBNe, Int.reduceLT, Int.reduceLE, Int.reduceGT, Int.reduceGE, Int.reduceEq, Int.reduceNe, Int.reduceToNat, List.take_zero, List.drop_zero, List.all_cons, List.all_nil, List.append_nil, List.length_append, List.length_set, List.append_assoc, List.drop_nil, List.take_nil, d1, g3, f3, f4] <;> try simp -dsimp only [if_conj])
  refine Put_head hf fun h2 id2 k2 l2 b2 => ?_
  have g4 := k2.at g3 (by simp)
  have hpl := put_len x
  have hbl : (byt (put x)).length = 64 := by rw [byt_length, hpl]
  have ht : (byt (put x)).take 64 = byt (put x) := take_b hpl.symm
  (simp +contextual -dsimp only [R5, evA, evB, ↓a_on_t, ↓a_on_f, ↓a_on_und, ↓a_cond_b, ↓reduceIte, Go.Ab.part, List.getD_cons_zero, List.getD_cons_succ, List.set_cons_zero, List.set_cons_succ, List.length_cons, List.length_nil, List.cons_append, List.nil_append, cond_true, cond_false, Bool.cond_true, reduceCtorEq, Option.map_some, Option.map_none, forall_const, ne_eq, implies_true, Nat.reduceAdd, Nat.reduceLeDiff, Nat.reduceLT, Nat.beq, Option.isNone_none, beq_self_eq_true, bne_self_eq_false, Int.reduceBEq, Int.reduceBNe, Int.reduceLT, Int.reduceLE, Int.reduceGT, Int.reduceGE, Int.reduceEq, Int.reduceNe, Int.reduceToNat, List.take_zero, List.drop_zero, List.all_cons, List.all_nil, List.append_nil, List.length_append, List.length_set, List.append_assoc, List.drop_nil, List.take_nil, b2, hbl, ht, byt_append] <;> try simp -dsimp only [if_conj])
  have n2 := hlt b2 (by simp)
  have n3 := hlt g3 (by simp)
  have hlb : (put x ++ r).length = 64 + r.length := by rw [List.length_append, hpl]
  obtain ⟨p1, p2⟩ := put_back hf hr
  refine ⟨⟨by simp only [bigRoom]; omega, trivial⟩, ?_⟩
  have q1 : (h2.set id2 .dead ++ [AO.o 1 (byt (put x ++ r))]).getD h2.length .dead = .o 1 (byt (put x ++ r)) := by
    rw [show h2.length = (h2.set id2 .dead).length by simp]; exact hget_new
  have q2 : (h2.set id2 .dead ++ [AO.o 1 (byt (put x ++ r))]).getD h1.length .dead = .o 1 x.row := hget_app ((hget_set_ne (by omega)).trans g4) (by simp)
  have n4 := hlt g4 (by simp)
  generalize hbid : h2.length = bid at *
  have hne : h1.length ≠ bid := by omega
  generalize h2.set id2 .dead ++ [AO.o 1 (byt (put x ++ r))] = G at *
  refine aloop (fun m st => ∃ i G' B, m + i = 31 ∧ Same B (put x ++ r) ∧ G'.getD bid .dead = .o 1 (byt B) ∧ G'.getD h1.length .dead = .o 1 x.row ∧ 
    st = ((sl st.1 0 :: sl st.1 1 :: .z (byt ns) ns.length :: sl st.1 3 :: sl st.1 4 :: sl st.1 5 :: sl st.1 6 :: .p h1.length 0 :: .s bid 0 (64 + r.length) :: I i :: sl st.1 10 :: sl st.1 11 :: sl st.1 12 :: sl st.1 13 :: sl st.1 14 :: sl st.1 15 :: sl st.1 16 :: sl st.1 17 :: sl st.1 18 :: sl st.1 19 :: sl st.1 20 :: sl st.1 21 :: sl st.1 22 :: sl st.1 23 :: sl st.1 24 :: sl st.1 25 :: sl st.1 26 :: sl st.1 27 :: sl st.1 28 :: sl st.1 29 :: sl st.1 30 :: sl st.1 31 :: sl st.1 32 :: sl st.1 33 :: sl st.1 34 :: sl st.1 35 :: sl st.1 36 :: sl st.1 37 :: sl st.1 38 :: sl st.1 39 :: sl st.1 40 :: sl st.1 41 :: sl st.1 42 :: sl st.1 43 :: sl st.1 44 :: sl st.1 45 :: sl st.1 46 :: sl st.1 47 :: sl st.1 48 :: sl st.1 49 :: sl st.1 50 :: sl st.1 51 :: sl st.1 52 :: sl st.1 53 :: sl st.1 54 :: sl st.1 55 :: sl st.1 56 :: sl st.1 57 :: sl st.1 58 :: sl st.1 59 :: sl st.1 60 :: sl st.1 61 :: sl st.1 62 :: sl st.1 63 :: sl st.1 64 :: sl st.1 65 :: sl st.1 66 :: sl st.1 67 :: sl st.1 68 :: sl st.1 69 :: sl st.1 70 :: sl st.1 71 :: sl st.1 72 :: sl st.1 73 :: sl st.1 74 :: sl st.1 75 :: sl st.1 76 :: sl st.1 77 :: sl st.1 78 :: sl st.1 79 :: sl st.1 80 :: sl st.1 81 :: sl st.1 82 :: sl st.1 83 :: sl st.1 84 :: sl st.1 85 :: sl st.1 86 :: sl st.1 87 :: sl st.1 88 :: sl st.1 89 :: sl st.1 90 :: sl st.1 91 :: sl st.1 92 :: sl st.1 93 :: sl st.1 94 :: sl st.1 95 :: []), G')) 31 _ (Nat.zero_le _) (Weak.refl _ (Nat.zero_le _)) ⟨0, G, put x ++ r, rfl, ⟨rfl, fun _ _ => rfl⟩, q1, q2, rfl⟩ ?_
  rintro m st ⟨i, G', B, hm, hs, r1, r2, hst⟩
  rw [hst]
  have hBl : B.length = 64 + r.length := hs.len.trans hlb
  by_cases c1 : i < ns.length ∧ i < 31
  · have d2 : decide ((i : Int) < ns.length) = true := by simp; omega
    have d3 : decide ((i : Int) < 31) = true := by simp; omega
    have wi : IntKind.i64.wrap ((i : Int) + 1) = ((i + 1 : Nat) : Int) := by rw [wrap_i64 (by omega) (by omega)]; rfl
    have wr : ∀ k : Nat, ∀ v : UInt8, (byt B).set k (.v (.int .u8 v.toNat)) = byt (B.set k v) := fun k v => byt_set B k v
    have hv : (byt ns).getD i .bad = .v (.int .u8 (ns.getD i 0).toNat) := byt_getD c1.1
    have ti : ((i : Nat) : Int).toNat = i := rfl
    by_cases c2 : i < 9
    · have d4 : decide ((i : Int) < 9) = true := by simp; omega
      have w1 : IntKind.i64.wrap (7 + (i : Int)) = ((7 + i : Nat) : Int) := by rw [wrap_i64 (by omega) (by omega)]; rfl
      (simp +contextual -dsimp only [R5, evA, evB, ↓a_on_t, ↓a_on_f, ↓a_on_und, ↓a_cond_b, ↓reduceIte, Go.Ab.part, List.getD_cons_zero, List.getD_cons_succ, List.set_cons_zero, List.set_cons_succ, List.length_cons, List.length_nil, List.cons_append, List.nil_append, cond_true, cond_false, Bool.cond_true, reduceCtorEq, Option.map_some, Option.map_none, forall_const, ne_eq, implies_true, Nat.reduceAdd, Nat.reduceLeDiff, Nat.reduceLT, Nat.beq, Option.isNone_none, beq_self_eq_true, bne_self_eq_false, Int.reduceBEq, Int.reduceBNe, Int.reduceLT, Int.reduceLE, Int.reduceGT, Int.reduceGE, Int.reduceEq, Int.reduceNe, Int.reduceToNat, List.take_zero, List.drop_zero, List.all_cons, List.all_nil, List.append_nil, List.length_append, List.length_set, List.append_assoc, List.drop_nil, List.take_nil, d2, d3, d4, w1, r1, hv, wr, wi] <;> try simp -dsimp only [if_conj])
      exact ⟨⟨by omega, by omega, by omega⟩, by omega, ⟨by omega, by omega⟩, by omega, m - 1, _, by omega, Weak.refl _ (Nat.zero_le _), i + 1, _, _, by omega, hs.set (by unfold Fixed; omega) _, hget_set (hlt r1 (by simp)), (hget_set_ne (by omega)).trans r2, rfl⟩
    have d4 : decide ((i : Int) < 9) = false := by simp; omega
    by_cases c3 : i < 25
    · have d5 : decide ((i : Int) < 25) = true := by simp; omega
      have w1 : IntKind.i64.wrap (IntKind.i64.wrap (24 + (i : Int)) - 9) = ((15 + i : Nat) : Int) := by rw [wrap_i64 (n := 24 + (i : Int)) (by omega) (by omega), wrap_i64 (by omega) (by omega)]; omega
      (simp +contextual -dsimp only [R5, evA, evB, ↓a_on_t, ↓a_on_f, ↓a_on_und, ↓a_cond_b, ↓reduceIte, Go.Ab.part, List.getD_cons_zero, List.getD_cons_succ, List.set_cons_zero, List.set_cons_succ, List.length_cons, List.length_nil, List.cons_append, List.nil_append, cond_true, cond_false, Bool.cond_true, reduceCtorEq, Option.map_some, Option.map_none, forall_const, ne_eq, implies_true, Nat.reduceAdd, Nat.reduceLeDiff, Nat.reduceLT, Nat.beq, Option.isNone_none, beq_self_eq_true, bne_self_eq_false, Int.reduceBEq, Int.reduceBNe, Int.reduceLT, Int.reduceLE, Int.reduceGT, Int.reduceGE, Int.reduceEq, Int.reduceNe, Int.reduceToNat, List.take_zero, List.drop_zero, List.all_cons, List.all_nil, List.append_nil, List.length_append, List.length_set, List.append_assoc, List.drop_nil, List.take_nil, d2, d3, d4, d5, w1, r1, hv, wr, wi] <;> try simp -dsimp only [if_conj])
      exact ⟨⟨by omega, by omega, by omega⟩, by omega, ⟨by omega, by omega⟩, by omega, m - 1, _, by omega, Weak.refl _ (Nat.zero_le _), i + 1, _, _, by omega, hs.set (by unfold Fixed; omega) _, hget_set (hlt r1 (by simp)), (hget_set_ne (by omega)).trans r2, rfl⟩
    have d5 : decide ((i : Int) < 25) = false := by simp; omega
    by_cases c4 : i < 29
    · have d6 : decide ((i : Int) < 29) = true := by simp; omega
      have w1 : IntKind.i64.wrap (IntKind.i64.wrap (48 + (i : Int)) - 25) = ((23 + i : Nat) : Int) := by rw [wrap_i64 (n := 48 + (i : Int)) (by omega) (by omega), wrap_i64 (by omega) (by omega)]; omega
      (simp +contextual -dsimp only [R5, evA, evB, ↓a_on_t, ↓a_on_f, ↓a_on_und, ↓a_cond_b, ↓reduceIte, Go.Ab.part, List.getD_cons_zero, List.getD_cons_succ, List.set_cons_zero, List.set_cons_succ, List.length_cons, List.length_nil, List.cons_append, List.nil_append, cond_true, cond_false, Bool.cond_true, reduceCtorEq, Option.map_some, Option.map_none, forall_const, ne_eq, implies_true, Nat.reduceAdd, Nat.reduceLeDiff, Nat.reduceLT, Nat.beq, Option.isNone_none, beq_self_eq_true, bne_self_eq_false, Int.reduceBEq, Int.reduceBNe, Int.reduceLT, Int.reduceLE, Int.reduceGT, Int.reduceGE, Int.reduceEq, Int.reduceNe, Int.reduceToNat, List.take_zero, List.drop_zero, List.all_cons, List.all_nil, List.append_nil, List.length_append, List.length_set, List.append_assoc, List.drop_nil, List.take_nil, d2, d3, d4, d5, d6, w1, r1, hv, wr, wi] <;> try simp -dsimp only [if_conj])
      exact ⟨⟨by omega, by omega, by omega⟩, by omega, ⟨by omega, by omega⟩, by omega, m - 1, _, by omega, Weak.refl _ (Nat.zero_le _), i + 1, _, _, by omega, hs.set (by unfold Fixed; omega) _, hget_set (hlt r1 (by simp)), (hget_set_ne (by omega)).trans r2, rfl⟩
    · have d6 : decide ((i : Int) < 29) = false := by simp; omega
      have w1 : IntKind.i64.wrap (IntKind.i64.wrap (54 + (i : Int)) - 29) = ((25 + i : Nat) : Int) := by rw [wrap_i64 (n := 54 + (i : Int)) (by omega) (by omega), wrap_i64 (by omega) (by omega)]; omega
      (simp +contextual -dsimp only [R5, evA, evB, ↓a_on_t, ↓a_on_f, ↓a_on_und, ↓a_cond_b, ↓reduceIte, Go.Ab.part, List.getD_cons_zero, List.getD_cons_succ, List.set_cons_zero, List.set_cons_succ, List.length_cons, List.length_nil, List.cons_append, List.nil_append, cond_true, cond_false, Bool.cond_true, reduceCtorEq, Option.map_some, Option.map_none, forall_const, ne_eq, implies_true, Nat.reduceAdd, Nat.reduceLeDiff, Nat.reduceLT, Nat.beq, Option.isNone_none, beq_self_eq_true, bne_self_eq_false, Int.reduceBEq, Int.reduceBNe, Int.reduceLT, Int.reduceLE, Int.reduceGT, Int.reduceGE, Int.reduceEq, Int.reduceNe, Int.reduceToNat, List.take_zero, List.drop_zero, List.all_cons, List.all_nil, List.append_nil, List.length_append, List.length_set, List.append_assoc, List.drop_nil, List.take_nil, d2, d3, d4, d5, d6, w1, r1, hv, wr, wi] <;> try simp -dsimp only [if_conj])
      exact ⟨⟨by omega, by omega, by omega⟩, by omega, ⟨by omega, by omega⟩, by omega, m - 1, _, by omega, Weak.refl _ (Nat.zero_le _), i + 1, _, _, by omega, hs.set (by unfold Fixed; omega) _, hget_set (hlt r1 (by simp)), (hget_set_ne (by omega)).trans r2, rfl⟩
  · obtain ⟨e1, e2⟩ := hs.bad
    have b3 : ∀ y, (G' ++ [AO.o 1 y]).getD h1.length .dead = .o 1 x.row := fun y => hget_app r2 (by simp)
    have fin : ∀ {KK : Kt}, (∀ G2, G2.getD h1.length .dead = .o 1 x.row → KK.K (.t [.g x.row, I 0]) G2) → ACall X 6 [.s bid 0 (64 + r.length)] G' KK := fun hK => by
      refine Take_n (b := B) (r := []) hBl.symm (by rw [List.append_nil]; exact r1) (by rw [hBl]; simp only [bigRoom]; omega) fun G2 k => ?_
      rw [e1, e2, p1, p2]
      exact hK G2 (k.at r2 (by simp))
    have hx : ∀ (hh : Heap) (KK : Kt), a_eql false [TK.int .i64, TK.int .i64, TK.int .u64, TK.int .i64, TK.int .i64] x.row x.row true hh KK = KK.K (Bo true) hh := fun hh KK => by rw [eq_hd]; simp
    by_cases c2 : i < ns.length
    · have d2 : decide ((i : Int) < ns.length) = true := by simp; omega
      have d3 : decide ((i : Int) < 31) = false := by simp; omega
      (simp +contextual -dsimp only [R5, evA, evB, ↓a_on_t, ↓a_on_f, ↓a_on_und, ↓a_cond_b, ↓reduceIte, Go.Ab.part, List.getD_cons_zero, List.getD_cons_succ, List.set_cons_zero, List.set_cons_succ, List.length_cons, List.length_nil, List.cons_append, List.nil_append, cond_true, cond_false, Bool.cond_true, reduceCtorEq, Option.map_some, Option.map_none, forall_const, ne_eq, implies_true, Nat.reduceAdd, Nat.reduceLeDiff, Nat.reduceLT, Nat.beq, Option.isNone_none, beq_self_eq_true, bne_self_eq_false, Int.reduceBEq, Int.reduceBNe, Int.reduceLT, Int.reduceLE, Int.reduceGT, Int.reduceGE, Int.reduceEq, Int.reduceNe, Int.reduceToNat, List.take_zero, List.drop_zero, List.all_cons, List.all_nil, List.append_nil, List.length_append, List.length_set, List.append_assoc, List.drop_nil, List.take_nil, d2, d3] <;> try simp -dsimp only [if_conj])
      refine fin fun G2 q => ?_
      have q' : (G2 ++ [AO.o 1 x.row]).getD h1.length .dead = .o 1 x.row := hget_app q (by simp)
      (simp +contextual -dsimp only [R5, evA, evB, ↓a_on_t, ↓a_on_f, ↓a_on_und, ↓a_cond_b, ↓reduceIte, Go.Ab.part, List.getD_cons_zero, List.getD_cons_succ, List.set_cons_zero, List.set_cons_succ, List.length_cons, List.length_nil, List.cons_append, List.nil_append, cond_true, cond_false, Bool.cond_true, reduceCtorEq, Option.map_some, Option.map_none, forall_const, ne_eq, implies_true, Nat.reduceAdd, Nat.reduceLeDiff, Nat.reduceLT, Nat.beq, Option.isNone_none, beq_self_eq_true, bne_self_eq_false, Int.reduceBEq, Int.reduceBNe, Int.reduceLT, Int.reduceLE, Int.reduceGT, Int.reduceGE, Int.reduceEq, Int.reduceNe, Int.reduceToNat, List.take_zero, List.drop_zero, List.all_cons, List.all_nil, List.append_nil, List.length_append, List.length_set, List.append_assoc, List.drop_nil, List.take_nil, f1, f2, f3, f4, hget_new, hset_new, q', hx] <;> try simp -dsimp only [if_conj])
    · have d2 : decide ((i : Int) < ns.length) = false := by simp; omega
      (simp +contextual -dsimp only [R5, evA, evB, ↓a_on_t, ↓a_on_f, ↓a_on_und, ↓a_cond_b, ↓reduceIte, Go.Ab.part, List.getD_cons_zero, List.getD_cons_succ, List.set_cons_zero, List.set_cons_succ, List.length_cons, List.length_nil, List.cons_append, List.nil_append, cond_true, cond_false, Bool.cond_true, reduceCtorEq, Option.map_some, Option.map_none, forall_const, ne_eq, implies_true, Nat.reduceAdd, Nat.reduceLeDiff, Nat.reduceLT, Nat.beq, Option.isNone_none, beq_self_eq_true, bne_self_eq_false, Int.reduceBEq, Int.reduceBNe, Int.reduceLT, Int.reduceLE, Int.reduceGT, Int.reduceGE, Int.reduceEq, Int.reduceNe, Int.reduceToNat, List.take_zero, List.drop_zero, List.all_cons, List.all_nil, List.append_nil, List.length_append, List.length_set, List.append_assoc, List.drop_nil, List.take_nil, d2] <;> try simp -dsimp only [if_conj])
      refine fin fun G2 q => ?_
      have q' : (G2 ++ [AO.o 1 x.row]).getD h1.length .dead = .o 1 x.row := hget_app q (by simp)
      (simp +contextual -dsimp only [R5, evA, evB, ↓a_on_t, ↓a_on_f, ↓a_on_und, ↓a_cond_b, ↓reduceIte, Go.Ab.part, List.getD_cons_zero, List.getD_cons_succ, List.set_cons_zero, List.set_cons_succ, List.length_cons, List.length_nil, List.cons_append, List.nil_append, cond_true, cond_false, Bool.cond_true, reduceCtorEq, Option.map_some, Option.map_none, forall_const, ne_eq, implies_true, Nat.reduceAdd, Nat.reduceLeDiff, Nat.reduceLT, Nat.beq, Option.isNone_none, beq_self_eq_true, bne_self_eq_false, Int.reduceBEq, Int.reduceBNe, Int.reduceLT, Int.reduceLE, Int.reduceGT, Int.reduceGE, Int.reduceEq, Int.reduceNe, Int.reduceToNat, List.take_zero, List.drop_zero, List.all_cons, List.all_nil, List.append_nil, List.length_append, List.length_set, List.append_assoc, List.drop_nil, List.take_nil, f1, f2, f3, f4, hget_new, hset_new, q', hx] <;> try simp -dsimp only [if_conj])
end Go.Proofs.Ytebacdlbhjgmlaa
