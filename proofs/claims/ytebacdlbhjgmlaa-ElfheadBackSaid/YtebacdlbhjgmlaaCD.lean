import Derived.Test.YtebacdlbhjgmlaaCC
import Derived.Test.YtebacdlbhjgmlaaCB
set_option linter.unusedVariables false
set_option linter.unusedSimpArgs false
set_option maxRecDepth 100000
namespace Go.Proofs.Ytebacdlbhjgmlaa
open Go.Ab
variable {h : Heap} {K : Kt}

/-- the number of n bytes at a place -/
def num (b : List UInt8) (i n : Nat) : Nat := le ((b.drop i).take n)
theorem num_lt (b : List UInt8) (i n : Nat) : num b i n < 256 ^ n := by
  have := le_lt ((b.drop i).take n)
  have hl : ((b.drop i).take n).length ≤ n := by rw [List.length_take]; omega
  exact Nat.lt_of_lt_of_le this (Nat.pow_le_pow_right (by omega) hl)
theorem at_ok {b : List UInt8} {i n : Nat} (hb : b.length < 9223372036854775808) (hi : i + n ≤ b.length) (hn : n ≤ 8) (hK : K.K (U (num b i n)) h) : ACall X 19 [.z (byt b) b.length, I i, I n] h K := by
  apply i19
  (simp +contextual -dsimp only [R19, evA, evB, ↓a_on_t, ↓a_on_f, ↓a_on_und, ↓a_cond_b, ↓reduceIte, Go.Ab.part, List.getD_cons_zero, List.getD_cons_succ, List.set_cons_zero, List.set_cons_succ, List.length_cons, List.length_nil, List.cons_append, List.nil_append, cond_true, cond_false, Bool.cond_true, reduceCtorEq, Option.map_some, Option.map_none, forall_const, ne_eq, implies_true, Nat.reduceAdd, Nat.reduceLeDiff, Nat.reduceLT, Nat.beq, Option.isNone_none, beq_self_eq_true, bne_self_eq_false, Int.reduceBEq, Int.reduceBNe, Int.reduceLT, Int.reduceLE, Int.reduceGT, Int.reduceGE, Int.reduceEq, Int.reduceNe, Int.reduceToNat, List.take_zero, List.drop_zero, List.all_cons, List.all_nil, List.append_nil, List.length_append, List.length_set, List.append_assoc, List.drop_nil, List.take_nil] <;> try simp -dsimp only [if_conj])
  have hL : ((b.drop i).take n).length = n := by rw [List.length_take, List.length_drop]; omega
  have hLg : ∀ j, j < n → ((b.drop i).take n).getD j 0 = b.getD (i + j) 0 := fun j hj => by
    rw [List.getD_eq_getElem?_getD, List.getD_eq_getElem?_getD, List.getElem?_take_of_lt hj, List.getElem?_drop]
  unfold num at hK
  generalize (b.drop i).take n = L at *
  rw [wrap_i64 (n := (n : Int) - 1) (by omega) (by omega)]
  refine aloop (fun m st => ∃ q, m ≤ n ∧ q = le (L.drop m) ∧ st = ((.z (byt b) b.length :: I i :: sl st.1 2 :: sl st.1 3 :: sl st.1 4 :: sl st.1 5 :: sl st.1 6 :: U (q : Nat) :: I ((m : Int) - 1) :: sl st.1 9 :: sl st.1 10 :: sl st.1 11 :: sl st.1 12 :: sl st.1 13 :: sl st.1 14 :: sl st.1 15 :: sl st.1 16 :: sl st.1 17 :: sl st.1 18 :: sl st.1 19 :: sl st.1 20 :: sl st.1 21 :: sl st.1 22 :: sl st.1 23 :: sl st.1 24 :: sl st.1 25 :: []), h)) n _ (Nat.le_refl _) (Weak.refl _ (Nat.le_refl _)) ⟨0, Nat.le_refl _, by rw [← hL, List.drop_length]; rfl, rfl⟩ ?_
  rintro m st ⟨q, hm, hq, hst⟩
  rw [hst]
  (simp +contextual -dsimp only [R19, evA, evB, ↓a_on_t, ↓a_on_f, ↓a_on_und, ↓a_cond_b, ↓reduceIte, Go.Ab.part, List.getD_cons_zero, List.getD_cons_succ, List.set_cons_zero, List.set_cons_succ, List.length_cons, List.length_nil, List.cons_append, List.nil_append, cond_true, cond_false, Bool.cond_true, reduceCtorEq, Option.map_some, Option.map_none, forall_const, ne_eq, implies_true, Nat.reduceAdd, Nat.reduceLeDiff, Nat.reduceLT, Nat.beq, Option.isNone_none, beq_self_eq_true, bne_self_eq_false, Int.reduceBEq, Int.reduceBNe, Int.reduceLT, Int.reduceLE, Int.reduceGT, Int.reduceGE, Int.reduceEq, Int.reduceNe, Int.reduceToNat, List.take_zero, List.drop_zero, List.all_cons, List.all_nil, List.append_nil, List.length_append, List.length_set, List.append_assoc, List.drop_nil, List.take_nil] <;> try simp -dsimp only [if_conj])
  refine ⟨fun hg2 => ?_, fun hg2 => ?_⟩
  · obtain ⟨k, rfl⟩ : ∃ k, m = k + 1 := ⟨m - 1, by simp at hg2; omega⟩
    have ek : ((k + 1 : Nat) : Int) - 1 = k := by omega
    rw [ek, wrap_i64 (n := (i : Int) + k) (by omega) (by omega)]
    have hkw : IntKind.i64.wrap ((k : Int) - 1) = (k : Int) - 1 := wrap_i64 (by omega) (by omega)
    have hb : (byt b).getD ((i : Int) + k).toNat .bad = .v (.int .u8 (L.getD k 0).toNat) := by
      rw [show ((i : Int) + k).toNat = i + k by omega, byt_getD (by omega), hLg k (by omega)]
    have hx := (L.getD k 0).toNat_lt
    have hq2 : q < 256 ^ (n - (k + 1)) := by
      have := le_lt (L.drop (k + 1)); rw [List.length_drop, hL] at this; rw [hq]; exact this
    have hp : (256 : Nat) ^ (n - (k + 1)) ≤ 256 ^ 7 := Nat.pow_le_pow_right (by omega) (by omega)
    have hv : IntKind.u64.wrap (IntKind.u64.wrap ((q : Int) * 256) + IntKind.u64.wrap ((L.getD k 0).toNat : Int)) = ((le (L.drop k) : Nat) : Int) := by
      rw [le_drop (by omega), ← hq, wrap_u64 (n := (q : Int) * 256) (by omega) (by omega), wrap_u64 (n := ((L.getD k 0).toNat : Int)) (by omega) (by omega), wrap_u64 (by omega) (by omega)]
      omega
    rw [hb]
    (simp +contextual -dsimp only [R19, evA, evB, ↓a_on_t, ↓a_on_f, ↓a_on_und, ↓a_cond_b, ↓reduceIte, Go.Ab.part, List.getD_cons_zero, List.getD_cons_succ, List.set_cons_zero, List.set_cons_succ, List.length_cons, List.length_nil, List.cons_append, List.nil_append, cond_true, cond_false, Bool.cond_true, reduceCtorEq, Option.map_some, Option.map_none, forall_const, ne_eq, implies_true, Nat.reduceAdd, Nat.reduceLeDiff, Nat.reduceLT, Nat.beq, Option.isNone_none, beq_self_eq_true, bne_self_eq_false, Int.reduceBEq, Int.reduceBNe, Int.reduceLT, Int.reduceLE, Int.reduceGT, Int.reduceGE, Int.reduceEq, Int.reduceNe, Int.reduceToNat, List.take_zero, List.drop_zero, List.all_cons, List.all_nil, List.append_nil, List.length_append, List.length_set, List.append_assoc, List.drop_nil, List.take_nil, hv, hkw] <;> try simp -dsimp only [if_conj])
    exact ⟨⟨by omega, by omega, by omega⟩, by omega, k, _, by omega, Weak.refl _ (Nat.le_refl _), _, by omega, rfl, rfl⟩
  · have hm0 : m = 0 := by simp at hg2; omega
    subst hm0
    rw [List.drop_zero] at hq
    rw [← hq] at hK
    exact hK
abbrev B8 (n : Int) : AV := .v (.int .u8 n)
def elf : List UInt8 := [127, 69, 76, 70, 2, 1, 1]
theorem magic_ok (hK : ∀ l, K.K (.g (byt elf)) (h ++ l)) : ACall X 13 [] h K := by
  apply i13
  (simp +contextual -dsimp only [R13, evA, evB, ↓a_on_t, ↓a_on_f, ↓a_on_und, ↓a_cond_b, ↓reduceIte, Go.Ab.part, List.getD_cons_zero, List.getD_cons_succ, List.set_cons_zero, List.set_cons_succ, List.length_cons, List.length_nil, List.cons_append, List.nil_append, cond_true, cond_false, Bool.cond_true, reduceCtorEq, Option.map_some, Option.map_none, forall_const, ne_eq, implies_true, Nat.reduceAdd, Nat.reduceLeDiff, Nat.reduceLT, Nat.beq, Option.isNone_none, beq_self_eq_true, bne_self_eq_false, Int.reduceBEq, Int.reduceBNe, Int.reduceLT, Int.reduceLE, Int.reduceGT, Int.reduceGE, Int.reduceEq, Int.reduceNe, Int.reduceToNat, List.take_zero, List.drop_zero, List.all_cons, List.all_nil, List.append_nil, List.length_append, List.length_set, List.append_assoc, List.drop_nil, List.take_nil, hget_new, hset_new] <;> try simp -dsimp only [if_conj])
  exact hK _

/-- what a header is put as -/
def nat64 (n : Int) : Nat := (n % 18446744073709551616).toNat
def pairs (x : Hd) : List (Nat × Nat) := [(nat64 x.t, 2), (nat64 x.m, 2), (1, 4), (0, 8), (0, 8), (x.o, 8), (0, 4), (64, 2), (0, 2), (0, 2), (64, 2), (nat64 x.n, 2), (nat64 x.s, 2)]
def front : List UInt8 := elf ++ List.replicate 9 0
def lay (l : List (Nat × Nat)) : List UInt8 := l.flatMap fun p => leB p.2 p.1
def put (x : Hd) : List UInt8 := front ++ lay (pairs x)
theorem lay_snoc (l : List (Nat × Nat)) (p : Nat × Nat) : lay (l ++ [p]) = lay l ++ leB p.2 p.1 := by simp [lay]
def pRow (p : Nat × Nat) : List AV := [U (p.1 : Nat), U (p.2 : Nat)]
theorem nat64_eq (n : Int) : IntKind.u64.wrap n = (nat64 n : Int) := by unfold nat64; rw [wrap_u64_eq]; omega
theorem pairs_len (x : Hd) : (pairs x).length = 13 := rfl
theorem pRow_len (p : Nat × Nat) : (pRow p).length = 2 := rfl
theorem lay_len (l : List (Nat × Nat)) : (lay l).length = (l.map (·.2)).sum := by
  induction l with
  | nil => rfl
  | cons p l ih => show (leB p.2 p.1 ++ lay l).length = _; rw [List.length_append, ih, leB_length]; rfl
theorem sum_take_le : ∀ (l : List Nat) (i : Nat), (l.take i).sum ≤ l.sum
  | [], i => by simp
  | x :: l, 0 => by simp
  | x :: l, i + 1 => by simp only [List.take_succ_cons, List.sum_cons]; have := sum_take_le l i; omega
theorem put_len (x : Hd) : (put x).length = 64 := by
  unfold put; rw [List.length_append, lay_len]; rfl
theorem Put_head {x : Hd} (hf : x.fit) (hK : ∀ h1 id1, Keeps h h1 → h.length ≤ id1 → h1.getD id1 .dead = .o 1 (byt (put x)) → K.K (.s id1 0 64) h1) : ACall X 11 [.g x.row] h K := by
  have f3 := hf.o
  apply i11
  (simp +contextual -dsimp only [R11, evA, evB, ↓a_on_t, ↓a_on_f, ↓a_on_und, ↓a_cond_b, ↓reduceIte, Go.Ab.part, List.getD_cons_zero, List.getD_cons_succ, List.set_cons_zero, List.set_cons_succ, List.length_cons, List.length_nil, List.cons_append, List.nil_append, cond_true, cond_false, Bool.cond_true, reduceCtorEq, Option.map_some, Option.map_none, forall_const, ne_eq, implies_true, Nat.reduceAdd, Nat.reduceLeDiff, Nat.reduceLT, Nat.beq, Option.isNone_none, beq_self_eq_true, bne_self_eq_false, Int.reduceBEq, Int.reduceBNe, Int.reduceLT, Int.reduceLE, Int.reduceGT, Int.reduceGE, Int.reduceEq, Int.reduceNe, Int.reduceToNat, List.take_zero, List.drop_zero, List.all_cons, List.all_nil, List.append_nil, List.length_append, List.length_set, List.append_assoc, List.drop_nil, List.take_nil, Hd.row] <;> try simp -dsimp only [if_conj])
  refine magic_ok fun l => ?_
  have hx : (h ++ [AO.o 1 [I x.t, I x.m, U x.o, I x.n, I x.s]] ++ l).getD h.length .dead = .o 1 [I x.t, I x.m, U x.o, I x.n, I x.s] := hget_app hget_new (by simp)
  have kh : Keeps h (h ++ [AO.o 1 [I x.t, I x.m, U x.o, I x.n, I x.s]] ++ l) := by rw [List.append_assoc]; exact Keeps.adds Adds.mk
  generalize h ++ [AO.o 1 [I x.t, I x.m, U x.o, I x.n, I x.s]] ++ l = H at *
  have hHl := hlt hx (by simp)
  (simp +contextual -dsimp only [R11, evA, evB, ↓a_on_t, ↓a_on_f, ↓a_on_und, ↓a_cond_b, ↓reduceIte, Go.Ab.part, List.getD_cons_zero, List.getD_cons_succ, List.set_cons_zero, List.set_cons_succ, List.length_cons, List.length_nil, List.cons_append, List.nil_append, cond_true, cond_false, Bool.cond_true, reduceCtorEq, Option.map_some, Option.map_none, forall_const, ne_eq, implies_true, Nat.reduceAdd, Nat.reduceLeDiff, Nat.reduceLT, Nat.beq, Option.isNone_none, beq_self_eq_true, bne_self_eq_false, Int.reduceBEq, Int.reduceBNe, Int.reduceLT, Int.reduceLE, Int.reduceGT, Int.reduceGE, Int.reduceEq, Int.reduceNe, Int.reduceToNat, List.take_zero, List.drop_zero, List.all_cons, List.all_nil, List.append_nil, List.length_append, List.length_set, List.append_assoc, List.drop_nil, List.take_nil, hget_new, hset_new, byt, elf, List.map] <;> try simp -dsimp only [if_conj])
  refine ⟨by decide, fun id' off' h' ha => ?_⟩
  obtain ⟨rfl, hb⟩ := apz_b (a := elf) ha rfl rfl hget_new
  obtain ⟨k1, k2⟩ := hb.fresh
  have g1 := hb.get
  have hx1 := k1.at hx (by simp)
  have kh1 := kh.trans k1
  clear ha hb
  have hl1 := hlt g1 (by simp)
  have et : IntKind.u64.wrap x.t = (nat64 x.t : Int) := nat64_eq _
  have em : IntKind.u64.wrap x.m = (nat64 x.m : Int) := nat64_eq _
  have en : IntKind.u64.wrap x.n = (nat64 x.n : Int) := nat64_eq _
  have es : IntKind.u64.wrap x.s = (nat64 x.s : Int) := nat64_eq _
  have hid' : h.length ≤ id' := Nat.le_trans (by have := kh.len; omega) k2
  clear hx k1
  (simp +contextual -dsimp only [R11, evA, evB, ↓a_on_t, ↓a_on_f, ↓a_on_und, ↓a_cond_b, ↓reduceIte, Go.Ab.part, List.getD_cons_zero, List.getD_cons_succ, List.set_cons_zero, List.set_cons_succ, List.length_cons, List.length_nil, List.cons_append, List.nil_append, cond_true, cond_false, Bool.cond_true, reduceCtorEq, Option.map_some, Option.map_none, forall_const, ne_eq, implies_true, Nat.reduceAdd, Nat.reduceLeDiff, Nat.reduceLT, Nat.beq, Option.isNone_none, beq_self_eq_true, bne_self_eq_false, Int.reduceBEq, Int.reduceBNe, Int.reduceLT, Int.reduceLE, Int.reduceGT, Int.reduceGE, Int.reduceEq, Int.reduceNe, Int.reduceToNat, List.take_zero, List.drop_zero, List.all_cons, List.all_nil, List.append_nil, List.length_append, List.length_set, List.append_assoc, List.drop_nil, List.take_nil, hx1, et, em, en, es] <;> try simp -dsimp only [if_conj])
  refine ⟨by decide, ?_⟩
  refine aloop (fun m st => ∃ i h1 id1 b, m + i = 13 ∧ b = front ++ lay ((pairs x).take i) ∧ h1.getD id1 .dead = .o 1 (byt b) ∧ h1.getD h'.length .dead = .o 2 (rows pRow (pairs x)) ∧ Keeps h h1 ∧ h.length ≤ id1 ∧ h'.length ≠ id1 ∧
    st = ((sl st.1 0 :: sl st.1 1 :: sl st.1 2 :: sl st.1 3 :: .s id1 0 b.length :: sl st.1 5 :: sl st.1 6 :: sl st.1 7 :: sl st.1 8 :: sl st.1 9 :: sl st.1 10 :: sl st.1 11 :: sl st.1 12 :: sl st.1 13 :: sl st.1 14 :: sl st.1 15 :: sl st.1 16 :: sl st.1 17 :: sl st.1 18 :: sl st.1 19 :: sl st.1 20 :: sl st.1 21 :: sl st.1 22 :: sl st.1 23 :: sl st.1 24 :: sl st.1 25 :: sl st.1 26 :: sl st.1 27 :: sl st.1 28 :: sl st.1 29 :: sl st.1 30 :: sl st.1 31 :: sl st.1 32 :: sl st.1 33 :: sl st.1 34 :: sl st.1 35 :: sl st.1 36 :: .s h'.length 0 13 :: I 13 :: I i :: sl st.1 40 :: sl st.1 41 :: sl st.1 42 :: sl st.1 43 :: sl st.1 44 :: sl st.1 45 :: sl st.1 46 :: sl st.1 47 :: sl st.1 48 :: sl st.1 49 :: sl st.1 50 :: sl st.1 51 :: []), h1)) 13 _ (by simp; have := kh1.len; omega) (Weak.refl _ (by simp; have := kh1.len; omega))
    ⟨0, _, id', front, rfl, by simp [lay], hget_app g1 (by simp), hget_new, kh1.trans (Keeps.adds Adds.mk), hid', by omega, rfl⟩ ?_
  rintro m st ⟨i, h1, id1, b, hm, hb, q1, q2, q3, q4, q5, hst⟩
  rw [hst]
  have q3l := q3.len
  (simp +contextual -dsimp only [R11, evA, evB, ↓a_on_t, ↓a_on_f, ↓a_on_und, ↓a_cond_b, ↓reduceIte, Go.Ab.part, List.getD_cons_zero, List.getD_cons_succ, List.set_cons_zero, List.set_cons_succ, List.length_cons, List.length_nil, List.cons_append, List.nil_append, cond_true, cond_false, Bool.cond_true, reduceCtorEq, Option.map_some, Option.map_none, forall_const, ne_eq, implies_true, Nat.reduceAdd, Nat.reduceLeDiff, Nat.reduceLT, Nat.beq, Option.isNone_none, beq_self_eq_true, bne_self_eq_false, Int.reduceBEq, Int.reduceBNe, Int.reduceLT, Int.reduceLE, Int.reduceGT, Int.reduceGE, Int.reduceEq, Int.reduceNe, Int.reduceToNat, List.take_zero, List.drop_zero, List.all_cons, List.all_nil, List.append_nil, List.length_append, List.length_set, List.append_assoc, List.drop_nil, List.take_nil] <;> try simp -dsimp only [if_conj])
  refine ⟨fun hi => ?_, fun hi => ?_⟩
  · replace hi : i < 13 := by have := of_decide_eq_true hi; omega
    have hr : ((rows pRow (pairs x)).drop (i * 2)).take 2 = pRow ((pairs x).getD i default) := rows_row pRow_len hi
    have hlen : (rows pRow (pairs x)).length = 26 := by rw [rows_len pRow_len, pairs_len]
    have htk : (pairs x).take (i + 1) = (pairs x).take i ++ [(pairs x).getD i default] := by
      rw [List.take_add_one, List.getElem?_eq_getElem hi, List.getD_eq_getElem?_getD, List.getElem?_eq_getElem hi]; rfl
    have hbl : b.length = 16 + (((pairs x).take i).map (·.2)).sum := by rw [hb, List.length_append, lay_len]; rfl
    have hbs : (((pairs x).take i).map (·.2)).sum ≤ 48 := by
      rw [List.map_take]; exact Nat.le_trans (sum_take_le _ _) (by exact Nat.le_refl 48)
    have hp2 : ((pairs x).getD i default).2 ≤ 8 := by
      have : ∀ p ∈ pairs x, p.2 ≤ 8 := by intro p hp; simp [pairs] at hp; rcases hp with rfl | rfl | rfl | rfl | rfl | rfl | rfl | rfl | rfl | rfl | rfl <;> simp
      exact this _ (by rw [List.getD_eq_getElem?_getD, List.getElem?_eq_getElem hi]; exact List.getElem_mem _)
    generalize hpe : (pairs x).getD i default = p at *
    obtain ⟨p1, p2⟩ := p
    simp only at hp2
    (simp +contextual -dsimp only [R11, evA, evB, ↓a_on_t, ↓a_on_f, ↓a_on_und, ↓a_cond_b, ↓reduceIte, Go.Ab.part, List.getD_cons_zero, List.getD_cons_succ, List.set_cons_zero, List.set_cons_succ, List.length_cons, List.length_nil, List.cons_append, List.nil_append, cond_true, cond_false, Bool.cond_true, reduceCtorEq, Option.map_some, Option.map_none, forall_const, ne_eq, implies_true, Nat.reduceAdd, Nat.reduceLeDiff, Nat.reduceLT, Nat.beq, Option.isNone_none, beq_self_eq_true, bne_self_eq_false, Int.reduceBEq, Int.reduceBNe, Int.reduceLT, Int.reduceLE, Int.reduceGT, Int.reduceGE, Int.reduceEq, Int.reduceNe, Int.reduceToNat, List.take_zero, List.drop_zero, List.all_cons, List.all_nil, List.append_nil, List.length_append, List.length_set, List.append_assoc, List.drop_nil, List.take_nil, q2, hr, pRow, hget_new, hset_new] <;> try simp -dsimp only [if_conj])
    rw [wrap_i64 (n := (p2 : Int)) (by omega) (by omega)]
    have hroom : b.length + 8 ≤ bigRoom := by rw [hbl]; simp only [bigRoom]; omega
    have hwid : wid (p2 : Int) = p2 := by unfold wid; omega
    refine ⟨by omega, by rw [hlen]; omega, by omega, by omega, ?_⟩
    refine Put_ok (l := b) (hget_app q1 (by simp)) hroom fun h2 id2 g => ?_
    rw [hwid] at g ⊢
    have g2 := g.get
    have k2 : Keeps h h2 := ⟨by have := g.len; simp at this; omega, fun hj => (g.keep _ (by simp; omega) (by omega)).trans ((Adds.mk.at (by omega)).trans (q3.get hj))⟩
    have q2l := hlt q2 (by simp)
    have hr2 : h2.getD h'.length .dead = .o 2 (rows pRow (pairs x)) := (g.keep _ (by simp; omega) q5).trans (hget_app q2 (by simp))
    have gi := g.is
    rw [List.length_append, List.length_singleton] at gi
    have hi2 : h.length ≤ id2 := by omega
    have hn2 : h'.length ≠ id2 := by omega
    (simp +contextual -dsimp only [R11, evA, evB, ↓a_on_t, ↓a_on_f, ↓a_on_und, ↓a_cond_b, ↓reduceIte, Go.Ab.part, List.getD_cons_zero, List.getD_cons_succ, List.set_cons_zero, List.set_cons_succ, List.length_cons, List.length_nil, List.cons_append, List.nil_append, cond_true, cond_false, Bool.cond_true, reduceCtorEq, Option.map_some, Option.map_none, forall_const, ne_eq, implies_true, Nat.reduceAdd, Nat.reduceLeDiff, Nat.reduceLT, Nat.beq, Option.isNone_none, beq_self_eq_true, bne_self_eq_false, Int.reduceBEq, Int.reduceBNe, Int.reduceLT, Int.reduceLE, Int.reduceGT, Int.reduceGE, Int.reduceEq, Int.reduceNe, Int.reduceToNat, List.take_zero, List.drop_zero, List.all_cons, List.all_nil, List.append_nil, List.length_append, List.length_set, List.append_assoc, List.drop_nil, List.take_nil] <;> try simp -dsimp only [if_conj])
    rw [wrap_i64 (n := (i : Int) + 1) (by omega) (by omega)]
    refine ⟨m - 1, _, by omega, Weak.refl _ k2.len, i + 1, h2, id2, b ++ leB p2 p1, by omega, by rw [htk, lay_snoc, ← List.append_assoc, ← hb], g2, hr2, k2, hi2, hn2, ?_⟩
    rw [List.length_append, leB_length]
    rfl
  · replace hi : i = 13 := by simp at hi; omega
    subst hi
    have hb : b = put x := hb
    rw [hb] at q1
    rw [hb, put_len]
    exact hK h1 id1 q3 q4 q1

/-- into a list, from a place on -/
def lays (l : List UInt8) (i : Nat) (m : List UInt8) : List UInt8 := l.take i ++ m ++ l.drop (i + m.length)
theorem setAt_byt : ∀ (m l : List UInt8) (i : Nat), i + m.length ≤ l.length → setAt (byt l) i (byt m) = byt (lays l i m)
  | [], l, i, _ => by simp [lays, byt_nil, setAt]
  | x :: m, l, i, h => by
    simp only [List.length_cons] at h
    rw [byt_cons]
    show setAt ((byt l).set i _) (i + 1) (byt m) = _
    rw [byt_set, setAt_byt m (l.set i x) (i + 1) (by rw [List.length_set]; omega)]
    congr 1
    unfold lays
    have e1 : (l.set i x).take (i + 1) = l.take i ++ [x] := by
      rw [List.take_add_one, List.take_set_of_le (Nat.le_refl _), List.getElem?_set_self (by omega)]; rfl
    have e2 : (l.set i x).drop (i + 1 + m.length) = l.drop (i + (m.length + 1)) := by
      rw [List.drop_set_of_lt (by omega)]; congr 1; omega
    rw [e1, e2, List.length_cons]; simp
theorem lays_len {l m : List UInt8} {i : Nat} (h : i + m.length ≤ l.length) : (lays l i m).length = l.length := by
  unfold lays; simp; omega
/-- the number that rPut writes, at heaps -/
theorem rPut_new {n : Nat} {size : Nat} (hs : size ≤ 8) (hn : n < 18446744073709551616)
    (hK : ∀ h1 id1, Keeps h h1 → h.length ≤ id1 → h1.getD id1 .dead = .o 1 (byt (leB size n)) → K.K (.s id1 0 size) h1) : ACall X 23 [U n, I size] h K := by
  refine rPut_ok hn fun h1 id1 g => ?_
  have hw : wid (size : Int) = size := by unfold wid; omega
  rw [hw] at g ⊢
  have gi := g.is
  have gl := g.len
  rw [List.length_append, List.length_singleton] at gi
  exact hK h1 id1 g.keepsNew (by omega) g.get
structure PSt (h : Heap) (x : Hd) (L : List UInt8) (H : Heap) : Prop where
  gx : H.getD h.length .dead = .o 1 x.row
  gb : H.getD (h.length + 1) .dead = .o 1 (byt L)
  k : Keeps h H
  l : L.length = 64
theorem PSt.next {h H H2 : Heap} {x : Hd} {L L' : List UInt8} (p : PSt h x L H) (k : Keeps H H2) (hl : L'.length = 64) : PSt h x L' (H2.set (h.length + 1) (.o 1 (byt L'))) := by
  have h1 := hlt (k.at p.gb (by simp)) (by simp)
  refine ⟨(hget_set_ne (by omega)).trans (k.at p.gx (by simp)), hget_set h1, ⟨by rw [List.length_set]; have := p.k.len; have := k.len; omega, fun hj => ?_⟩, hl⟩
  rw [hget_set_ne (by omega)]
  exact (k.get (by have := p.k.len; omega)).trans (p.k.get hj)
theorem lay_put (x : Hd) : lays (lays (lays (lays (lays (lays (lays (lays (lays (List.replicate 64 0) 0 elf) 16 (leB 2 (nat64 x.t))) 18 (leB 2 (nat64 x.m))) 20 [1]) 40 (leB 8 x.o)) 52 [64]) 58 [64]) 60 (leB 2 (nat64 x.n))) 62 (leB 2 (nat64 x.s)) = put x := by
  simp [lays, put, front, elf, lay, pairs, leB]
theorem rPut_head {x : Hd} (hf : x.fit) (hK : ∀ h1 id1, Keeps h h1 → h.length ≤ id1 → h1.getD id1 .dead = .o 1 (byt (put x)) → K.K (.s id1 0 64) h1) : ACall X 12 [.g x.row] h K := by
  have f3 := hf.o
  have et : IntKind.u64.wrap x.t = (nat64 x.t : Int) := nat64_eq _
  have em : IntKind.u64.wrap x.m = (nat64 x.m : Int) := nat64_eq _
  have en : IntKind.u64.wrap x.n = (nat64 x.n : Int) := nat64_eq _
  have es : IntKind.u64.wrap x.s = (nat64 x.s : Int) := nat64_eq _
  have lt : ∀ n, nat64 n < 18446744073709551616 := fun n => by unfold nat64; omega
  have hsz : (⟨#[127, 69, 76, 70, 2, 1, 1]⟩ : ByteArray).size = 7 := rfl
  have hof : ofStr ⟨#[127, 69, 76, 70, 2, 1, 1]⟩ = byt elf := rfl
  have hel : (byt elf).length = 7 := rfl
  have l0 : (byt (List.replicate 64 0)).length = 64 := rfl
  have hg1 : ∀ l, (h ++ AO.o 1 x.row :: AO.o 1 (byt (List.replicate 64 0)) :: l).getD (h.length + 1) .dead = .o 1 (byt (List.replicate 64 0)) := fun l => hget_new1
  have hs1 : setAt (byt (List.replicate 64 0)) 0 (byt elf) = byt (lays (List.replicate 64 0) 0 elf) := setAt_byt _ _ _ (by decide)
  apply i12
  (simp +contextual -dsimp only [R12, evA, evB, ↓a_on_t, ↓a_on_f, ↓a_on_und, ↓a_cond_b, ↓reduceIte, Go.Ab.part, List.getD_cons_zero, List.getD_cons_succ, List.set_cons_zero, List.set_cons_succ, List.length_cons, List.length_nil, List.cons_append, List.nil_append, cond_true, cond_false, Bool.cond_true, reduceCtorEq, Option.map_some, Option.map_none, forall_const, ne_eq, implies_true, Nat.reduceAdd, Nat.reduceLeDiff, Nat.reduceLT, Nat.beq, Option.isNone_none, beq_self_eq_true, bne_self_eq_false, Int.reduceBEq, Int.reduceBNe, Int.reduceLT, Int.reduceLE, Int.reduceGT, Int.reduceGE, Int.reduceEq, Int.reduceNe, Int.reduceToNat, List.take_zero, List.drop_zero, List.all_cons, List.all_nil, List.append_nil, List.length_append, List.length_set, List.append_assoc, List.drop_nil, List.take_nil, hget_new, hset_new] <;> try simp -dsimp only [if_conj])
  have r0 : x.row.getD 0 .bad = I x.t := rfl
  have r1 : x.row.getD 1 .bad = I x.m := rfl
  have r2 : x.row.getD 2 .bad = U x.o := rfl
  have r3 : x.row.getD 3 .bad = I x.n := rfl
  have r4 : x.row.getD 4 .bad = I x.s := rfl
  have rl : x.row.length = 5 := rfl
  refine ⟨rfl, ?_⟩
  have p0 : PSt h x (lays (List.replicate 64 0) 0 elf) ((h ++ [AO.o 1 x.row, AO.o 1 (byt (List.replicate 64 0))]).set (h.length + 1) (.o 1 (byt (lays (List.replicate 64 0) 0 elf)))) :=
    ⟨by rw [hget_set_ne (by omega)]; exact hget_new, hget_set (by simp), ⟨by simp, fun hj => by rw [hget_set_ne (by omega)]; exact Adds.mk.at hj⟩, by decide⟩
  have z0 : (List.replicate 64 [AV.v (.int .u8 0)]).flatten = byt (List.replicate 64 0) := rep0 64
  have hne : ∀ a : List UInt8, (byt a).length = a.length := byt_length
  (simp +contextual -dsimp only [R12, evA, evB, ↓a_on_t, ↓a_on_f, ↓a_on_und, ↓a_cond_b, ↓reduceIte, Go.Ab.part, List.getD_cons_zero, List.getD_cons_succ, List.set_cons_zero, List.set_cons_succ, List.length_cons, List.length_nil, List.cons_append, List.nil_append, cond_true, cond_false, Bool.cond_true, reduceCtorEq, Option.map_some, Option.map_none, forall_const, ne_eq, implies_true, Nat.reduceAdd, Nat.reduceLeDiff, Nat.reduceLT, Nat.beq, Option.isNone_none, beq_self_eq_true, bne_self_eq_false, Int.reduceBEq, Int.reduceBNe, Int.reduceLT, Int.reduceLE, Int.reduceGT, Int.reduceGE, Int.reduceEq, Int.reduceNe, Int.reduceToNat, List.take_zero, List.drop_zero, List.all_cons, List.all_nil, List.append_nil, List.length_append, List.length_set, List.append_assoc, List.drop_nil, List.take_nil, z0, hg1, hs1, hel, l0, hsz, hof] <;> try simp -dsimp only [if_conj])
  refine ⟨by decide, ?_⟩
  generalize (h ++ [AO.o 1 x.row, AO.o 1 (byt (List.replicate 64 0))]).set (h.length + 1) (.o 1 (byt (lays (List.replicate 64 0) 0 elf))) = H0 at *
  generalize hL0 : lays (List.replicate 64 0) 0 elf = L0 at *
  (simp +contextual -dsimp only [R12, evA, evB, ↓a_on_t, ↓a_on_f, ↓a_on_und, ↓a_cond_b, ↓reduceIte, Go.Ab.part, List.getD_cons_zero, List.getD_cons_succ, List.set_cons_zero, List.set_cons_succ, List.length_cons, List.length_nil, List.cons_append, List.nil_append, cond_true, cond_false, Bool.cond_true, reduceCtorEq, Option.map_some, Option.map_none, forall_const, ne_eq, implies_true, Nat.reduceAdd, Nat.reduceLeDiff, Nat.reduceLT, Nat.beq, Option.isNone_none, beq_self_eq_true, bne_self_eq_false, Int.reduceBEq, Int.reduceBNe, Int.reduceLT, Int.reduceLE, Int.reduceGT, Int.reduceGE, Int.reduceEq, Int.reduceNe, Int.reduceToNat, List.take_zero, List.drop_zero, List.all_cons, List.all_nil, List.append_nil, List.length_append, List.length_set, List.append_assoc, List.drop_nil, List.take_nil, p0.gx, p0.gb, r0, r1, r2, r3, r4, rl, et, em, en, es] <;> try simp -dsimp only [if_conj])
  refine ⟨by omega, ?_⟩
  refine rPut_new (by decide) (lt _) fun h2 id2 k2 _ g2 => ?_
  have q1 := k2.at p0.gb (by simp)
  have q2 := setAt_byt (leB 2 (nat64 x.t)) L0 16 (by rw [p0.l, leB_length]; decide)
  have q3 : (byt L0).length = 64 := by rw [byt_length, p0.l]
  have q4 : (byt (leB 2 (nat64 x.t))).length = 2 := by rw [byt_length, leB_length]
  have p1 := p0.next (L' := lays L0 16 (leB 2 (nat64 x.t))) k2 (by rw [lays_len (by rw [p0.l, leB_length]; decide), p0.l])
  (simp +contextual -dsimp only [R12, evA, evB, ↓a_on_t, ↓a_on_f, ↓a_on_und, ↓a_cond_b, ↓reduceIte, Go.Ab.part, List.getD_cons_zero, List.getD_cons_succ, List.set_cons_zero, List.set_cons_succ, List.length_cons, List.length_nil, List.cons_append, List.nil_append, cond_true, cond_false, Bool.cond_true, reduceCtorEq, Option.map_some, Option.map_none, forall_const, ne_eq, implies_true, Nat.reduceAdd, Nat.reduceLeDiff, Nat.reduceLT, Nat.beq, Option.isNone_none, beq_self_eq_true, bne_self_eq_false, Int.reduceBEq, Int.reduceBNe, Int.reduceLT, Int.reduceLE, Int.reduceGT, Int.reduceGE, Int.reduceEq, Int.reduceNe, Int.reduceToNat, List.take_zero, List.drop_zero, List.all_cons, List.all_nil, List.append_nil, List.length_append, List.length_set, List.append_assoc, List.drop_nil, List.take_nil, q1, q2, q3, q4, g2] <;> try simp -dsimp only [if_conj])
  refine ⟨by omega, by omega, ?_⟩
  generalize h2.set (h.length + 1) (.o 1 (byt (lays L0 16 (leB 2 (nat64 x.t))))) = H1 at *
  clear q1 q2 q3 q4 g2 k2
  generalize hL1 : lays L0 16 (leB 2 (nat64 x.t)) = L1 at *
  (simp +contextual -dsimp only [R12, evA, evB, ↓a_on_t, ↓a_on_f, ↓a_on_und, ↓a_cond_b, ↓reduceIte, Go.Ab.part, List.getD_cons_zero, List.getD_cons_succ, List.set_cons_zero, List.set_cons_succ, List.length_cons, List.length_nil, List.cons_append, List.nil_append, cond_true, cond_false, Bool.cond_true, reduceCtorEq, Option.map_some, Option.map_none, forall_const, ne_eq, implies_true, Nat.reduceAdd, Nat.reduceLeDiff, Nat.reduceLT, Nat.beq, Option.isNone_none, beq_self_eq_true, bne_self_eq_false, Int.reduceBEq, Int.reduceBNe, Int.reduceLT, Int.reduceLE, Int.reduceGT, Int.reduceGE, Int.reduceEq, Int.reduceNe, Int.reduceToNat, List.take_zero, List.drop_zero, List.all_cons, List.all_nil, List.append_nil, List.length_append, List.length_set, List.append_assoc, List.drop_nil, List.take_nil, p1.gx, p1.gb, r0, r1, r2, r3, r4, rl, et, em, en, es] <;> try simp -dsimp only [if_conj])
  refine ⟨by omega, ?_⟩
  refine rPut_new (by decide) (lt _) fun h2 id2 k2 _ g2 => ?_
  have q1 := k2.at p1.gb (by simp)
  have q2 := setAt_byt (leB 2 (nat64 x.m)) L1 18 (by rw [p1.l, leB_length]; decide)
  have q3 : (byt L1).length = 64 := by rw [byt_length, p1.l]
  have q4 : (byt (leB 2 (nat64 x.m))).length = 2 := by rw [byt_length, leB_length]
  have p2 := p1.next (L' := lays L1 18 (leB 2 (nat64 x.m))) k2 (by rw [lays_len (by rw [p1.l, leB_length]; decide), p1.l])
  (simp +contextual -dsimp only [R12, evA, evB, ↓a_on_t, ↓a_on_f, ↓a_on_und, ↓a_cond_b, ↓reduceIte, Go.Ab.part, List.getD_cons_zero, List.getD_cons_succ, List.set_cons_zero, List.set_cons_succ, List.length_cons, List.length_nil, List.cons_append, List.nil_append, cond_true, cond_false, Bool.cond_true, reduceCtorEq, Option.map_some, Option.map_none, forall_const, ne_eq, implies_true, Nat.reduceAdd, Nat.reduceLeDiff, Nat.reduceLT, Nat.beq, Option.isNone_none, beq_self_eq_true, bne_self_eq_false, Int.reduceBEq, Int.reduceBNe, Int.reduceLT, Int.reduceLE, Int.reduceGT, Int.reduceGE, Int.reduceEq, Int.reduceNe, Int.reduceToNat, List.take_zero, List.drop_zero, List.all_cons, List.all_nil, List.append_nil, List.length_append, List.length_set, List.append_assoc, List.drop_nil, List.take_nil, q1, q2, q3, q4, g2] <;> try simp -dsimp only [if_conj])
  refine ⟨by omega, by omega, ?_⟩
  generalize h2.set (h.length + 1) (.o 1 (byt (lays L1 18 (leB 2 (nat64 x.m))))) = H2 at *
  clear q1 q2 q3 q4 g2 k2
  generalize hL2 : lays L1 18 (leB 2 (nat64 x.m)) = L2 at *
  have s1 : (byt L2).set 20 (.v (.int .u8 1)) = byt (lays L2 20 [1]) := setAt_byt [1] L2 20 (by rw [p2.l]; decide)
  have q3 : (byt L2).length = 64 := by rw [byt_length, p2.l]
  have p3 := p2.next (L' := lays L2 20 [1]) (Keeps.refl _) (by rw [lays_len (by rw [p2.l]; decide), p2.l])
  (simp +contextual -dsimp only [R12, evA, evB, ↓a_on_t, ↓a_on_f, ↓a_on_und, ↓a_cond_b, ↓reduceIte, Go.Ab.part, List.getD_cons_zero, List.getD_cons_succ, List.set_cons_zero, List.set_cons_succ, List.length_cons, List.length_nil, List.cons_append, List.nil_append, cond_true, cond_false, Bool.cond_true, reduceCtorEq, Option.map_some, Option.map_none, forall_const, ne_eq, implies_true, Nat.reduceAdd, Nat.reduceLeDiff, Nat.reduceLT, Nat.beq, Option.isNone_none, beq_self_eq_true, bne_self_eq_false, Int.reduceBEq, Int.reduceBNe, Int.reduceLT, Int.reduceLE, Int.reduceGT, Int.reduceGE, Int.reduceEq, Int.reduceNe, Int.reduceToNat, List.take_zero, List.drop_zero, List.all_cons, List.all_nil, List.append_nil, List.length_append, List.length_set, List.append_assoc, List.drop_nil, List.take_nil, p2.gx, p2.gb, s1, q3] <;> try simp -dsimp only [if_conj])
  refine ⟨by omega, ?_⟩
  generalize H2.set (h.length + 1) (.o 1 (byt (lays L2 20 [1]))) = H3 at *
  clear s1 q3
  generalize hL3 : lays L2 20 [1] = L3 at *
  (simp +contextual -dsimp only [R12, evA, evB, ↓a_on_t, ↓a_on_f, ↓a_on_und, ↓a_cond_b, ↓reduceIte, Go.Ab.part, List.getD_cons_zero, List.getD_cons_succ, List.set_cons_zero, List.set_cons_succ, List.length_cons, List.length_nil, List.cons_append, List.nil_append, cond_true, cond_false, Bool.cond_true, reduceCtorEq, Option.map_some, Option.map_none, forall_const, ne_eq, implies_true, Nat.reduceAdd, Nat.reduceLeDiff, Nat.reduceLT, Nat.beq, Option.isNone_none, beq_self_eq_true, bne_self_eq_false, Int.reduceBEq, Int.reduceBNe, Int.reduceLT, Int.reduceLE, Int.reduceGT, Int.reduceGE, Int.reduceEq, Int.reduceNe, Int.reduceToNat, List.take_zero, List.drop_zero, List.all_cons, List.all_nil, List.append_nil, List.length_append, List.length_set, List.append_assoc, List.drop_nil, List.take_nil, p3.gx, p3.gb, r0, r1, r2, r3, r4, rl, et, em, en, es] <;> try simp -dsimp only [if_conj])
  refine ⟨by omega, ?_⟩
  refine rPut_new (by decide) f3 fun h2 id2 k2 _ g2 => ?_
  have q1 := k2.at p3.gb (by simp)
  have q2 := setAt_byt (leB 8 x.o) L3 40 (by rw [p3.l, leB_length]; decide)
  have q3 : (byt L3).length = 64 := by rw [byt_length, p3.l]
  have q4 : (byt (leB 8 x.o)).length = 8 := by rw [byt_length, leB_length]
  have p4 := p3.next (L' := lays L3 40 (leB 8 x.o)) k2 (by rw [lays_len (by rw [p3.l, leB_length]; decide), p3.l])
  (simp +contextual -dsimp only [R12, evA, evB, ↓a_on_t, ↓a_on_f, ↓a_on_und, ↓a_cond_b, ↓reduceIte, Go.Ab.part, List.getD_cons_zero, List.getD_cons_succ, List.set_cons_zero, List.set_cons_succ, List.length_cons, List.length_nil, List.cons_append, List.nil_append, cond_true, cond_false, Bool.cond_true, reduceCtorEq, Option.map_some, Option.map_none, forall_const, ne_eq, implies_true, Nat.reduceAdd, Nat.reduceLeDiff, Nat.reduceLT, Nat.beq, Option.isNone_none, beq_self_eq_true, bne_self_eq_false, Int.reduceBEq, Int.reduceBNe, Int.reduceLT, Int.reduceLE, Int.reduceGT, Int.reduceGE, Int.reduceEq, Int.reduceNe, Int.reduceToNat, List.take_zero, List.drop_zero, List.all_cons, List.all_nil, List.append_nil, List.length_append, List.length_set, List.append_assoc, List.drop_nil, List.take_nil, q1, q2, q3, q4, g2] <;> try simp -dsimp only [if_conj])
  refine ⟨by omega, by omega, ?_⟩
  generalize h2.set (h.length + 1) (.o 1 (byt (lays L3 40 (leB 8 x.o)))) = H4 at *
  clear q1 q2 q3 q4 g2 k2
  generalize hL4 : lays L3 40 (leB 8 x.o) = L4 at *
  have s1 : (byt L4).set 52 (.v (.int .u8 64)) = byt (lays L4 52 [64]) := setAt_byt [64] L4 52 (by rw [p4.l]; decide)
  have q3 : (byt L4).length = 64 := by rw [byt_length, p4.l]
  have p5 := p4.next (L' := lays L4 52 [64]) (Keeps.refl _) (by rw [lays_len (by rw [p4.l]; decide), p4.l])
  (simp +contextual -dsimp only [R12, evA, evB, ↓a_on_t, ↓a_on_f, ↓a_on_und, ↓a_cond_b, ↓reduceIte, Go.Ab.part, List.getD_cons_zero, List.getD_cons_succ, List.set_cons_zero, List.set_cons_succ, List.length_cons, List.length_nil, List.cons_append, List.nil_append, cond_true, cond_false, Bool.cond_true, reduceCtorEq, Option.map_some, Option.map_none, forall_const, ne_eq, implies_true, Nat.reduceAdd, Nat.reduceLeDiff, Nat.reduceLT, Nat.beq, Option.isNone_none, beq_self_eq_true, bne_self_eq_false, Int.reduceBEq, Int.reduceBNe, Int.reduceLT, Int.reduceLE, Int.reduceGT, Int.reduceGE, Int.reduceEq, Int.reduceNe, Int.reduceToNat, List.take_zero, List.drop_zero, List.all_cons, List.all_nil, List.append_nil, List.length_append, List.length_set, List.append_assoc, List.drop_nil, List.take_nil, p4.gx, p4.gb, s1, q3] <;> try simp -dsimp only [if_conj])
  refine ⟨by omega, ?_⟩
  generalize H4.set (h.length + 1) (.o 1 (byt (lays L4 52 [64]))) = H5 at *
  clear s1 q3
  generalize hL5 : lays L4 52 [64] = L5 at *
  have s1 : (byt L5).set 58 (.v (.int .u8 64)) = byt (lays L5 58 [64]) := setAt_byt [64] L5 58 (by rw [p5.l]; decide)
  have q3 : (byt L5).length = 64 := by rw [byt_length, p5.l]
  have p6 := p5.next (L' := lays L5 58 [64]) (Keeps.refl _) (by rw [lays_len (by rw [p5.l]; decide), p5.l])
  (simp +contextual -dsimp only [R12, evA, evB, ↓a_on_t, ↓a_on_f, ↓a_on_und, ↓a_cond_b, ↓reduceIte, Go.Ab.part, List.getD_cons_zero, List.getD_cons_succ, List.set_cons_zero, List.set_cons_succ, List.length_cons, List.length_nil, List.cons_append, List.nil_append, cond_true, cond_false, Bool.cond_true, reduceCtorEq, Option.map_some, Option.map_none, forall_const, ne_eq, implies_true, Nat.reduceAdd, Nat.reduceLeDiff, Nat.reduceLT, Nat.beq, Option.isNone_none, beq_self_eq_true, bne_self_eq_false, Int.reduceBEq, Int.reduceBNe, Int.reduceLT, Int.reduceLE, Int.reduceGT, Int.reduceGE, Int.reduceEq, Int.reduceNe, Int.reduceToNat, List.take_zero, List.drop_zero, List.all_cons, List.all_nil, List.append_nil, List.length_append, List.length_set, List.append_assoc, List.drop_nil, List.take_nil, p5.gx, p5.gb, s1, q3] <;> try simp -dsimp only [if_conj])
  refine ⟨by omega, ?_⟩
  generalize H5.set (h.length + 1) (.o 1 (byt (lays L5 58 [64]))) = H6 at *
  clear s1 q3
  generalize hL6 : lays L5 58 [64] = L6 at *
  (simp +contextual -dsimp only [R12, evA, evB, ↓a_on_t, ↓a_on_f, ↓a_on_und, ↓a_cond_b, ↓reduceIte, Go.Ab.part, List.getD_cons_zero, List.getD_cons_succ, List.set_cons_zero, List.set_cons_succ, List.length_cons, List.length_nil, List.cons_append, List.nil_append, cond_true, cond_false, Bool.cond_true, reduceCtorEq, Option.map_some, Option.map_none, forall_const, ne_eq, implies_true, Nat.reduceAdd, Nat.reduceLeDiff, Nat.reduceLT, Nat.beq, Option.isNone_none, beq_self_eq_true, bne_self_eq_false, Int.reduceBEq, Int.reduceBNe, Int.reduceLT, Int.reduceLE, Int.reduceGT, Int.reduceGE, Int.reduceEq, Int.reduceNe, Int.reduceToNat, List.take_zero, List.drop_zero, List.all_cons, List.all_nil, List.append_nil, List.length_append, List.length_set, List.append_assoc, List.drop_nil, List.take_nil, p6.gx, p6.gb, r0, r1, r2, r3, r4, rl, et, em, en, es] <;> try simp -dsimp only [if_conj])
  refine ⟨by omega, ?_⟩
  refine rPut_new (by decide) (lt _) fun h2 id2 k2 _ g2 => ?_
  have q1 := k2.at p6.gb (by simp)
  have q2 := setAt_byt (leB 2 (nat64 x.n)) L6 60 (by rw [p6.l, leB_length]; decide)
  have q3 : (byt L6).length = 64 := by rw [byt_length, p6.l]
  have q4 : (byt (leB 2 (nat64 x.n))).length = 2 := by rw [byt_length, leB_length]
  have p7 := p6.next (L' := lays L6 60 (leB 2 (nat64 x.n))) k2 (by rw [lays_len (by rw [p6.l, leB_length]; decide), p6.l])
  (simp +contextual -dsimp only [R12, evA, evB, ↓a_on_t, ↓a_on_f, ↓a_on_und, ↓a_cond_b, ↓reduceIte, Go.Ab.part, List.getD_cons_zero, List.getD_cons_succ, List.set_cons_zero, List.set_cons_succ, List.length_cons, List.length_nil, List.cons_append, List.nil_append, cond_true, cond_false, Bool.cond_true, reduceCtorEq, Option.map_some, Option.map_none, forall_const, ne_eq, implies_true, Nat.reduceAdd, Nat.reduceLeDiff, Nat.reduceLT, Nat.beq, Option.isNone_none, beq_self_eq_true, bne_self_eq_false, Int.reduceBEq, Int.reduceBNe, Int.reduceLT, Int.reduceLE, Int.reduceGT, Int.reduceGE, Int.reduceEq, Int.reduceNe, Int.reduceToNat, List.take_zero, List.drop_zero, List.all_cons, List.all_nil, List.append_nil, List.length_append, List.length_set, List.append_assoc, List.drop_nil, List.take_nil, q1, q2, q3, q4, g2] <;> try simp -dsimp only [if_conj])
  refine ⟨by omega, by omega, ?_⟩
  generalize h2.set (h.length + 1) (.o 1 (byt (lays L6 60 (leB 2 (nat64 x.n))))) = H7 at *
  clear q1 q2 q3 q4 g2 k2
  generalize hL7 : lays L6 60 (leB 2 (nat64 x.n)) = L7 at *
  (simp +contextual -dsimp only [R12, evA, evB, ↓a_on_t, ↓a_on_f, ↓a_on_und, ↓a_cond_b, ↓reduceIte, Go.Ab.part, List.getD_cons_zero, List.getD_cons_succ, List.set_cons_zero, List.set_cons_succ, List.length_cons, List.length_nil, List.cons_append, List.nil_append, cond_true, cond_false, Bool.cond_true, reduceCtorEq, Option.map_some, Option.map_none, forall_const, ne_eq, implies_true, Nat.reduceAdd, Nat.reduceLeDiff, Nat.reduceLT, Nat.beq, Option.isNone_none, beq_self_eq_true, bne_self_eq_false, Int.reduceBEq, Int.reduceBNe, Int.reduceLT, Int.reduceLE, Int.reduceGT, Int.reduceGE, Int.reduceEq, Int.reduceNe, Int.reduceToNat, List.take_zero, List.drop_zero, List.all_cons, List.all_nil, List.append_nil, List.length_append, List.length_set, List.append_assoc, List.drop_nil, List.take_nil, p7.gx, p7.gb, r0, r1, r2, r3, r4, rl, et, em, en, es] <;> try simp -dsimp only [if_conj])
  refine ⟨by omega, ?_⟩
  refine rPut_new (by decide) (lt _) fun h2 id2 k2 _ g2 => ?_
  have q1 := k2.at p7.gb (by simp)
  have q2 := setAt_byt (leB 2 (nat64 x.s)) L7 62 (by rw [p7.l, leB_length]; decide)
  have q3 : (byt L7).length = 64 := by rw [byt_length, p7.l]
  have q4 : (byt (leB 2 (nat64 x.s))).length = 2 := by rw [byt_length, leB_length]
  have p8 := p7.next (L' := lays L7 62 (leB 2 (nat64 x.s))) k2 (by rw [lays_len (by rw [p7.l, leB_length]; decide), p7.l])
  (simp +contextual -dsimp only [R12, evA, evB, ↓a_on_t, ↓a_on_f, ↓a_on_und, ↓a_cond_b, ↓reduceIte, Go.Ab.part, List.getD_cons_zero, List.getD_cons_succ, List.set_cons_zero, List.set_cons_succ, List.length_cons, List.length_nil, List.cons_append, List.nil_append, cond_true, cond_false, Bool.cond_true, reduceCtorEq, Option.map_some, Option.map_none, forall_const, ne_eq, implies_true, Nat.reduceAdd, Nat.reduceLeDiff, Nat.reduceLT, Nat.beq, Option.isNone_none, beq_self_eq_true, bne_self_eq_false, Int.reduceBEq, Int.reduceBNe, Int.reduceLT, Int.reduceLE, Int.reduceGT, Int.reduceGE, Int.reduceEq, Int.reduceNe, Int.reduceToNat, List.take_zero, List.drop_zero, List.all_cons, List.all_nil, List.append_nil, List.length_append, List.length_set, List.append_assoc, List.drop_nil, List.take_nil, q1, q2, q3, q4, g2] <;> try simp -dsimp only [if_conj])
  refine ⟨by omega, ?_⟩
  have hput := lay_put x
  rw [hL0, hL1, hL2, hL3, hL4, hL5, hL6, hL7] at hput
  rw [hput] at p8 ⊢
  exact ⟨by omega, hK _ _ p8.k (by omega) p8.gb⟩
end Go.Proofs.Ytebacdlbhjgmlaa
