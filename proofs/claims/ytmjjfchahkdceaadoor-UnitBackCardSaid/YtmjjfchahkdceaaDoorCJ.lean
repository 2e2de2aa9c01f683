import Derived.Test.YtmjjfchahkdceaaDoorCI
set_option linter.unusedVariables false
set_option linter.unusedSimpArgs false
set_option maxRecDepth 100000
set_option maxHeartbeats 1000000
namespace Go.Proofs.YtmjjfchahkdceaaDoor
open Go.Ab
variable {c : Cur} {h : Heap} {id : Nat} {K : Kt}
theorem rPut05_is {n : Nat} {w : Bool} (hn : n < 4294967280)
    (hK : ∀ h' id', Keeps h h' → h.length ≤ id' → h'.getD id' .dead = .o 1 (byt (lenB n w)) → K.K (.t [.s id' 0 (lenB n w).length, I 0]) h') : ACall X 32 [U n, Bo w] h K := by
  have hb : (100 : Nat) ≤ bigRoom := by decide
  apply i32
  cases w
  · have e' : decide ((n : Int) ≥ 4294967280) = false := by simp; omega
    (simp +contextual -dsimp only [R32, evA, evB, ↓a_on_t, ↓a_on_f, ↓a_on_und, ↓a_cond_b, ↓reduceIte, Go.Ab.part, List.getD_cons_zero, List.getD_cons_succ, List.set_cons_zero, List.set_cons_succ, List.length_cons, List.length_nil, List.cons_append, List.nil_append, cond_true, cond_false, Bool.cond_true, reduceCtorEq, Option.map_some, Option.map_none, forall_const, ne_eq, implies_true, Nat.reduceAdd, Nat.reduceLeDiff, Nat.reduceLT, Nat.beq, Option.isNone_none, beq_self_eq_true, bne_self_eq_false, Int.reduceBEq, Int.reduceBNe, Int.reduceLT, Int.reduceLE, Int.reduceGT, Int.reduceGE, Int.reduceEq, Int.reduceNe, Int.reduceToNat, List.take_zero, List.drop_zero, List.all_cons, List.all_nil, List.append_nil, List.length_append, List.length_set, List.append_assoc, List.drop_nil, List.take_nil, e'] <;> try simp -dsimp only [if_conj])
    refine rPut_ok (by omega) fun h1 id1 g1 => ?_
    rw [show wid 4 = 4 from rfl] at g1 ⊢
    (simp +contextual -dsimp only [R32, evA, evB, ↓a_on_t, ↓a_on_f, ↓a_on_und, ↓a_cond_b, ↓reduceIte, Go.Ab.part, List.getD_cons_zero, List.getD_cons_succ, List.set_cons_zero, List.set_cons_succ, List.length_cons, List.length_nil, List.cons_append, List.nil_append, cond_true, cond_false, Bool.cond_true, reduceCtorEq, Option.map_some, Option.map_none, forall_const, ne_eq, implies_true, Nat.reduceAdd, Nat.reduceLeDiff, Nat.reduceLT, Nat.beq, Option.isNone_none, beq_self_eq_true, bne_self_eq_false, Int.reduceBEq, Int.reduceBNe, Int.reduceLT, Int.reduceLE, Int.reduceGT, Int.reduceGE, Int.reduceEq, Int.reduceNe, Int.reduceToNat, List.take_zero, List.drop_zero, List.all_cons, List.all_nil, List.append_nil, List.length_append, List.length_set, List.append_assoc, List.drop_nil, List.take_nil] <;> try simp -dsimp only [if_conj])
    have hi1 : h.length ≤ id1 := by rcases g1.is with e | e <;> (try simp at e) <;> omega
    have := hK _ _ g1.keepsNew hi1 g1.get
    rw [show (lenB n false).length = 4 from leB_length _ _] at this
    exact this
  · (simp +contextual -dsimp only [R32, evA, evB, ↓a_on_t, ↓a_on_f, ↓a_on_und, ↓a_cond_b, ↓reduceIte, Go.Ab.part, List.getD_cons_zero, List.getD_cons_succ, List.set_cons_zero, List.set_cons_succ, List.length_cons, List.length_nil, List.cons_append, List.nil_append, cond_true, cond_false, Bool.cond_true, reduceCtorEq, Option.map_some, Option.map_none, forall_const, ne_eq, implies_true, Nat.reduceAdd, Nat.reduceLeDiff, Nat.reduceLT, Nat.beq, Option.isNone_none, beq_self_eq_true, bne_self_eq_false, Int.reduceBEq, Int.reduceBNe, Int.reduceLT, Int.reduceLE, Int.reduceGT, Int.reduceGE, Int.reduceEq, Int.reduceNe, Int.reduceToNat, List.take_zero, List.drop_zero, List.all_cons, List.all_nil, List.append_nil, List.length_append, List.length_set, List.append_assoc, List.drop_nil, List.take_nil] <;> try simp -dsimp only [if_conj])
    refine rPut_ok (n := 4294967295) (by decide) fun h1 id1 g1 => ?_
    rw [show wid 4 = 4 from rfl] at g1 ⊢
    (simp +contextual -dsimp only [R32, evA, evB, ↓a_on_t, ↓a_on_f, ↓a_on_und, ↓a_cond_b, ↓reduceIte, Go.Ab.part, List.getD_cons_zero, List.getD_cons_succ, List.set_cons_zero, List.set_cons_succ, List.length_cons, List.length_nil, List.cons_append, List.nil_append, cond_true, cond_false, Bool.cond_true, reduceCtorEq, Option.map_some, Option.map_none, forall_const, ne_eq, implies_true, Nat.reduceAdd, Nat.reduceLeDiff, Nat.reduceLT, Nat.beq, Option.isNone_none, beq_self_eq_true, bne_self_eq_false, Int.reduceBEq, Int.reduceBNe, Int.reduceLT, Int.reduceLE, Int.reduceGT, Int.reduceGE, Int.reduceEq, Int.reduceNe, Int.reduceToNat, List.take_zero, List.drop_zero, List.all_cons, List.all_nil, List.append_nil, List.length_append, List.length_set, List.append_assoc, List.drop_nil, List.take_nil] <;> try simp -dsimp only [if_conj])
    refine rPut_ok (by omega) fun h2 id2 g2 => ?_
    rw [show wid 8 = 8 from rfl] at g2 ⊢
    have l1 := hlt g1.get (by simp)
    have k1 : h2.getD id1 .dead = .o 1 (byt (leB 4 4294967295)) := by
      rw [g2.keepsNew.get l1]; exact g1.get
    have l2 := hlt g2.get (by simp)
    have n12 : id2 ≠ id1 := by rcases g2.is with e | e
                               · omega
                               · simp at e; omega
    (simp +contextual -dsimp only [R32, evA, evB, ↓a_on_t, ↓a_on_f, ↓a_on_und, ↓a_cond_b, ↓reduceIte, Go.Ab.part, List.getD_cons_zero, List.getD_cons_succ, List.set_cons_zero, List.set_cons_succ, List.length_cons, List.length_nil, List.cons_append, List.nil_append, cond_true, cond_false, Bool.cond_true, reduceCtorEq, Option.map_some, Option.map_none, forall_const, ne_eq, implies_true, Nat.reduceAdd, Nat.reduceLeDiff, Nat.reduceLT, Nat.beq, Option.isNone_none, beq_self_eq_true, bne_self_eq_false, Int.reduceBEq, Int.reduceBNe, Int.reduceLT, Int.reduceLE, Int.reduceGT, Int.reduceGE, Int.reduceEq, Int.reduceNe, Int.reduceToNat, List.take_zero, List.drop_zero, List.all_cons, List.all_nil, List.append_nil, List.length_append, List.length_set, List.append_assoc, List.drop_nil, List.take_nil, k1, g2.get] <;> try simp -dsimp only [if_conj])
    refine ⟨⟨by omega, n12⟩, ?_⟩
    rw [byt_append]
    have hi1 : h.length ≤ id1 := by rcases g1.is with e | e <;> (try simp at e) <;> omega
    have kk := g1.keepsNew.trans g2.keepsNew
    have := hK _ h2.length (kk.push (p := .o 1 (byt (leB 4 4294967295 ++ leB 8 n))) hi1) kk.len (show (h2.set id1 .dead ++ [AO.o 1 (byt (leB 4 4294967295 ++ leB 8 n))]).getD h2.length .dead = .o 1 (byt (leB 4 4294967295 ++ leB 8 n)) by
      rw [show h2.length = (h2.set id1 .dead).length by simp]; exact hget_new)
    rw [show (lenB n true).length = 12 by simp [lenB, leB_length]] at this
    exact this
/-- the reference's number behind bytes -/
theorem rPut_is {n : Nat} {size : Int} (hn : n < 18446744073709551616)
    (hK : ∀ h1 id1, Keeps h h1 → h.length ≤ id1 → h1.getD id1 .dead = .o 1 (byt (leB (wid size) n)) → K.K (.s id1 0 (wid size)) h1) : ACall X 31 [U n, I size] h K := by
  refine rPut_ok hn fun h1 id1 g => ?_
  exact hK h1 id1 g.keepsNew (by rcases g.is with e | e <;> (try simp at e) <;> omega) g.get
theorem app_is {h1 h2 : Heap} {i1 i2 : Nat} {l m : List UInt8} {g : Heap} (k1 : Keeps g h1) (q1 : g.length ≤ i1) (g1 : h1.getD i1 .dead = .o 1 (byt l)) (k2 : Keeps h1 h2) (q2 : h1.length ≤ i2) (g2 : h2.getD i2 .dead = .o 1 (byt m)) :
    h2.getD i1 .dead = .o 1 (byt l) ∧ ¬ i2 = i1 ∧ Keeps g (h2.set i1 .dead ++ [AO.o 1 (byt (l ++ m))]) ∧ g.length ≤ h2.length ∧ (h2.set i1 .dead ++ [AO.o 1 (byt (l ++ m))]).getD h2.length .dead = .o 1 (byt (l ++ m)) := by
  have n1 := hlt g1 (by simp)
  refine ⟨k2.at g1 (by simp), by omega, (k1.trans k2).push q1, (k1.trans k2).len, ?_⟩
  rw [show h2.length = (h2.set i1 .dead).length by simp]; exact hget_new
theorem rPut15_t {k : Int} {w : Bool} {ab sig ty o1 o2 o3 b : Nat} {g : Heap} {m : List UInt8} {r : AV} (hk : k = 1 ∨ k = 2 ∨ k = 3) (hm : m.length ≤ 300000) (hab : ab < 18446744073709551616) (hsig : sig < 18446744073709551616) (hty : ty < 18446744073709551616) (k0 : Keeps h g) (hb : h.length ≤ b) (gb : g.getD b .dead = .o 1 [I k, Bo w, U ab, U sig, U ty, U o1, U o2, U o3]) (im : IsB m r g) 
    (hK : ∀ h' r', Keeps h h' → IsB (lenB (uBody ⟨k, w, ab, sig, ty, o1, o2, o3⟩ m).length w ++ uBody ⟨k, w, ab, sig, ty, o1, o2, o3⟩ m) r' h' → K.K (.t [r', I 0]) h') :
    ∀ st : St, st = ((sl st.1 0 :: r :: .p b 0 :: sl st.1 3 :: sl st.1 4 :: sl st.1 5 :: sl st.1 6 :: I (lenW w) :: sl st.1 8 :: sl st.1 9 :: sl st.1 10 :: sl st.1 11 :: sl st.1 12 :: sl st.1 13 :: sl st.1 14 :: sl st.1 15 :: sl st.1 16 :: sl st.1 17 :: sl st.1 18 :: sl st.1 19 :: sl st.1 20 :: sl st.1 21 :: sl st.1 22 :: sl st.1 23 :: sl st.1 24 :: sl st.1 25 :: sl st.1 26 :: sl st.1 27 :: sl st.1 28 :: sl st.1 29 :: sl st.1 30 :: sl st.1 31 :: sl st.1 32 :: sl st.1 33 :: sl st.1 34 :: sl st.1 35 :: sl st.1 36 :: sl st.1 37 :: sl st.1 38 :: sl st.1 39 :: sl st.1 40 :: sl st.1 41 :: sl st.1 42 :: sl st.1 43 :: sl st.1 44 :: sl st.1 45 :: sl st.1 46 :: sl st.1 47 :: sl st.1 48 :: sl st.1 49 :: sl st.1 50 :: sl st.1 51 :: sl st.1 52 :: sl st.1 53 :: sl st.1 54 :: sl st.1 55 :: sl st.1 56 :: sl st.1 57 :: sl st.1 58 :: sl st.1 59 :: sl st.1 60 :: sl st.1 61 :: sl st.1 62 :: sl st.1 63 :: sl st.1 64 :: sl st.1 65 :: sl st.1 66 :: sl st.1 67 :: sl st.1 68 :: sl st.1 69 :: sl st.1 70 :: sl st.1 71 :: sl st.1 72 :: sl st.1 73 :: sl st.1 74 :: sl st.1 75 :: sl st.1 76 :: sl st.1 77 :: sl st.1 78 :: sl st.1 79 :: sl st.1 80 :: sl st.1 81 :: sl st.1 82 :: sl st.1 83 :: sl st.1 84 :: sl st.1 85 :: sl st.1 86 :: sl st.1 87 :: sl st.1 88 :: sl st.1 89 :: sl st.1 90 :: sl st.1 91 :: sl st.1 92 :: sl st.1 93 :: sl st.1 94 :: []), g) → awp X h.length c14_14 (retQ X Tryd.f14 K) st := by
  have hbig : (3000000 : Nat) ≤ bigRoom := by decide
  intro st hst
  rw [hst]
  have lb := hlt gb (by simp)
  have ew : wid ((lenW w : Nat) : Int) = lenW w := wid_nat (by cases w <;> decide)
  have lw : lenW w ≤ 8 := by cases w <;> decide
  have ek : IntKind.u8.wrap k = ((UInt8.ofNat k.toNat).toNat : Int) := by rcases hk with rfl | rfl | rfl <;> rfl
  obtain ⟨kb, hkb⟩ : ∃ kb, kb = UInt8.ofNat k.toNat := ⟨_, rfl⟩
  rw [← hkb] at ek
  have k1 : Keeps g (g ++ [AO.o 1 (byt [5, 0, kb, 8])]) := Keeps.adds Adds.mk
  have g1 : (g ++ [AO.o 1 (byt [5, 0, kb, 8])]).getD g.length .dead = .o 1 (byt [5, 0, kb, 8]) := hget_new
  have gb1 := k1.at gb (by simp)
  (simp +contextual -dsimp only [evA, evB, ↓a_on_t, ↓a_on_f, ↓a_on_und, ↓a_cond_b, ↓reduceIte, Go.Ab.part, List.getD_cons_zero, List.getD_cons_succ, List.set_cons_zero, List.set_cons_succ, List.length_cons, List.length_nil, List.cons_append, List.nil_append, cond_true, cond_false, Bool.cond_true, reduceCtorEq, Option.map_some, Option.map_none, forall_const, ne_eq, implies_true, Nat.reduceAdd, Nat.reduceLeDiff, Nat.reduceLT, Nat.beq, Option.isNone_none, beq_self_eq_true, bne_self_eq_false, Int.reduceBEq, Int.reduceBNe, Int.reduceLT, Int.reduceLE, Int.reduceGT, Int.reduceGE, Int.reduceEq, Int.reduceNe, Int.reduceToNat, List.take_zero, List.drop_zero, List.all_cons, List.all_nil, List.append_nil, List.length_append, List.length_set, List.append_assoc, List.drop_nil, List.take_nil, w14_14, w14_15, gb, fill, setAt, ek] <;> try simp -dsimp only [if_conj])
  rw [show [AV.v (.int .u8 5), AV.v (.int .u8 0), AV.v (.int .u8 (kb.toNat : Int)), AV.v (.int .u8 8)] = byt [5, 0, kb, 8] from rfl]
  generalize g ++ [AO.o 1 (byt [5, 0, kb, 8])] = H1 at *
  (simp +contextual -dsimp only [evA, evB, ↓a_on_t, ↓a_on_f, ↓a_on_und, ↓a_cond_b, ↓reduceIte, Go.Ab.part, List.getD_cons_zero, List.getD_cons_succ, List.set_cons_zero, List.set_cons_succ, List.length_cons, List.length_nil, List.cons_append, List.nil_append, cond_true, cond_false, Bool.cond_true, reduceCtorEq, Option.map_some, Option.map_none, forall_const, ne_eq, implies_true, Nat.reduceAdd, Nat.reduceLeDiff, Nat.reduceLT, Nat.beq, Option.isNone_none, beq_self_eq_true, bne_self_eq_false, Int.reduceBEq, Int.reduceBNe, Int.reduceLT, Int.reduceLE, Int.reduceGT, Int.reduceGE, Int.reduceEq, Int.reduceNe, Int.reduceToNat, List.take_zero, List.drop_zero, List.all_cons, List.all_nil, List.append_nil, List.length_append, List.length_set, List.append_assoc, List.drop_nil, List.take_nil, w14_16, w14_17, gb1] <;> try simp -dsimp only [if_conj])
  refine rPut_is hab fun h2 i2 k2 q2 g2 => ?_
  rw [ew] at g2 ⊢
  obtain ⟨e1, e2, e3, e4, e5⟩ := app_is k1 (Nat.le_refl _) g1 k2 q2 g2
  (simp +contextual -dsimp only [evA, evB, ↓a_on_t, ↓a_on_f, ↓a_on_und, ↓a_cond_b, ↓reduceIte, Go.Ab.part, List.getD_cons_zero, List.getD_cons_succ, List.set_cons_zero, List.set_cons_succ, List.length_cons, List.length_nil, List.cons_append, List.nil_append, cond_true, cond_false, Bool.cond_true, reduceCtorEq, Option.map_some, Option.map_none, forall_const, ne_eq, implies_true, Nat.reduceAdd, Nat.reduceLeDiff, Nat.reduceLT, Nat.beq, Option.isNone_none, beq_self_eq_true, bne_self_eq_false, Int.reduceBEq, Int.reduceBNe, Int.reduceLT, Int.reduceLE, Int.reduceGT, Int.reduceGE, Int.reduceEq, Int.reduceNe, Int.reduceToNat, List.take_zero, List.drop_zero, List.all_cons, List.all_nil, List.append_nil, List.length_append, List.length_set, List.append_assoc, List.drop_nil, List.take_nil, e1, g2] <;> try simp -dsimp only [if_conj])
  refine ⟨⟨by omega, e2⟩, ?_⟩
  rw [byt_append]
  obtain ⟨l3, hl3⟩ : ∃ l3, l3 = [5, 0, kb, 8] ++ leB (lenW w) ab := ⟨_, rfl⟩
  have ll3 : l3.length = 4 + lenW w := by rw [hl3, List.length_append, leB_length]; rfl
  rw [← hl3] at e3 e5 ⊢
  rw [← ll3]
  have gb3 := e3.at gb (by simp)
  generalize h2.set g.length .dead ++ [AO.o 1 (byt l3)] = H3 at *
  generalize h2.length = i3 at *
  have key : ∀ (h4 : Heap) (i4 : Nat) (l4 : List UInt8), Keeps g h4 → g.length ≤ i4 → h4.getD i4 .dead = .o 1 (byt l4) → l4.length ≤ 1000 → l4 ++ m = uBody ⟨k, w, ab, sig, ty, o1, o2, o3⟩ m → ∀ st : St, st = ((sl st.1 0 :: r :: .p b 0 :: sl st.1 3 :: sl st.1 4 :: sl st.1 5 :: sl st.1 6 :: sl st.1 7 :: .s i4 0 l4.length :: sl st.1 9 :: sl st.1 10 :: sl st.1 11 :: sl st.1 12 :: sl st.1 13 :: sl st.1 14 :: sl st.1 15 :: sl st.1 16 :: sl st.1 17 :: sl st.1 18 :: sl st.1 19 :: sl st.1 20 :: sl st.1 21 :: sl st.1 22 :: sl st.1 23 :: sl st.1 24 :: sl st.1 25 :: sl st.1 26 :: sl st.1 27 :: sl st.1 28 :: sl st.1 29 :: sl st.1 30 :: sl st.1 31 :: sl st.1 32 :: sl st.1 33 :: sl st.1 34 :: sl st.1 35 :: sl st.1 36 :: sl st.1 37 :: sl st.1 38 :: sl st.1 39 :: sl st.1 40 :: sl st.1 41 :: sl st.1 42 :: sl st.1 43 :: sl st.1 44 :: sl st.1 45 :: sl st.1 46 :: sl st.1 47 :: sl st.1 48 :: sl st.1 49 :: sl st.1 50 :: sl st.1 51 :: sl st.1 52 :: sl st.1 53 :: sl st.1 54 :: sl st.1 55 :: sl st.1 56 :: sl st.1 57 :: sl st.1 58 :: sl st.1 59 :: sl st.1 60 :: sl st.1 61 :: sl st.1 62 :: sl st.1 63 :: sl st.1 64 :: sl st.1 65 :: sl st.1 66 :: sl st.1 67 :: sl st.1 68 :: sl st.1 69 :: sl st.1 70 :: sl st.1 71 :: sl st.1 72 :: sl st.1 73 :: sl st.1 74 :: sl st.1 75 :: sl st.1 76 :: sl st.1 77 :: sl st.1 78 :: sl st.1 79 :: sl st.1 80 :: sl st.1 81 :: sl st.1 82 :: sl st.1 83 :: sl st.1 84 :: sl st.1 85 :: sl st.1 86 :: sl st.1 87 :: sl st.1 88 :: sl st.1 89 :: sl st.1 90 :: sl st.1 91 :: sl st.1 92 :: sl st.1 93 :: sl st.1 94 :: []), h4) → awp X h.length c14_26 (retQ X Tryd.f14 K) st := by
    intro h4 i4 l4 k4 q4 g4 hl4 hb4 st hst
    rw [hst]
    have gb4 := k4.at gb (by simp)
    have im4 := im.keeps k4
    have ub : (uBody ⟨k, w, ab, sig, ty, o1, o2, o3⟩ m).length = l4.length + m.length := by rw [← hb4, List.length_append]
    have g5 : (h4.set i4 .dead ++ [AO.o 1 (byt (l4 ++ m))]).getD h4.length .dead = .o 1 (byt (l4 ++ m)) := by rw [show h4.length = (h4.set i4 .dead).length by simp]; exact hget_new
    have k5 := k4.push (p := AO.o 1 (byt (l4 ++ m))) q4
    have on : otherId i4 r := im.ne q4
    (simp +contextual -dsimp only [evA, evB, ↓a_on_t, ↓a_on_f, ↓a_on_und, ↓a_cond_b, ↓reduceIte, Go.Ab.part, List.getD_cons_zero, List.getD_cons_succ, List.set_cons_zero, List.set_cons_succ, List.length_cons, List.length_nil, List.cons_append, List.nil_append, cond_true, cond_false, Bool.cond_true, reduceCtorEq, Option.map_some, Option.map_none, forall_const, ne_eq, implies_true, Nat.reduceAdd, Nat.reduceLeDiff, Nat.reduceLT, Nat.beq, Option.isNone_none, beq_self_eq_true, bne_self_eq_false, Int.reduceBEq, Int.reduceBNe, Int.reduceLT, Int.reduceLE, Int.reduceGT, Int.reduceGE, Int.reduceEq, Int.reduceNe, Int.reduceToNat, List.take_zero, List.drop_zero, List.all_cons, List.all_nil, List.append_nil, List.length_append, List.length_set, List.append_assoc, List.drop_nil, List.take_nil, w14_26, w14_27, g4, im4.src] <;> try simp -dsimp only [if_conj])
    refine ⟨⟨by omega, on⟩, ?_⟩
    rw [byt_append, hb4, ← ub]
    rw [hb4] at g5 k5
    have gb5 := k5.at gb (by simp)
    have q5 : g.length ≤ h4.length := k4.len
    generalize h4.set i4 .dead ++ [AO.o 1 (byt (uBody ⟨k, w, ab, sig, ty, o1, o2, o3⟩ m))] = H5 at *
    generalize h4.length = i5 at *
    have hu : IntKind.u64.wrap (((uBody ⟨k, w, ab, sig, ty, o1, o2, o3⟩ m).length : Nat) : Int) = ((uBody ⟨k, w, ab, sig, ty, o1, o2, o3⟩ m).length : Nat) := wrap_u64 (by omega) (by omega)
    (simp +contextual -dsimp only [R14, evA, evB, ↓a_on_t, ↓a_on_f, ↓a_on_und, ↓a_cond_b, ↓reduceIte, Go.Ab.part, List.getD_cons_zero, List.getD_cons_succ, List.set_cons_zero, List.set_cons_succ, List.length_cons, List.length_nil, List.cons_append, List.nil_append, cond_true, cond_false, Bool.cond_true, reduceCtorEq, Option.map_some, Option.map_none, forall_const, ne_eq, implies_true, Nat.reduceAdd, Nat.reduceLeDiff, Nat.reduceLT, Nat.beq, Option.isNone_none, beq_self_eq_true, bne_self_eq_false, Int.reduceBEq, Int.reduceBNe, Int.reduceLT, Int.reduceLE, Int.reduceGT, Int.reduceGE, Int.reduceEq, Int.reduceNe, Int.reduceToNat, List.take_zero, List.drop_zero, List.all_cons, List.all_nil, List.append_nil, List.length_append, List.length_set, List.append_assoc, List.drop_nil, List.take_nil, gb5, hu] <;> try simp -dsimp only [if_conj])
    refine rPut05_is (by omega) fun h6 i6 k6 q6 g6 => ?_
    have g56 := k6.at g5 (by simp)
    have n5 := hlt g5 (by simp)
    have ll6 : (lenB (uBody ⟨k, w, ab, sig, ty, o1, o2, o3⟩ m).length w).length ≤ 12 := by unfold lenB; split <;> simp [leB_length]
    (simp +contextual -dsimp only [R14, evA, evB, ↓a_on_t, ↓a_on_f, ↓a_on_und, ↓a_cond_b, ↓reduceIte, Go.Ab.part, List.getD_cons_zero, List.getD_cons_succ, List.set_cons_zero, List.set_cons_succ, List.length_cons, List.length_nil, List.cons_append, List.nil_append, cond_true, cond_false, Bool.cond_true, reduceCtorEq, Option.map_some, Option.map_none, forall_const, ne_eq, implies_true, Nat.reduceAdd, Nat.reduceLeDiff, Nat.reduceLT, Nat.beq, Option.isNone_none, beq_self_eq_true, bne_self_eq_false, Int.reduceBEq, Int.reduceBNe, Int.reduceLT, Int.reduceLE, Int.reduceGT, Int.reduceGE, Int.reduceEq, Int.reduceNe, Int.reduceToNat, List.take_zero, List.drop_zero, List.all_cons, List.all_nil, List.append_nil, List.length_append, List.length_set, List.append_assoc, List.drop_nil, List.take_nil, g6, g56] <;> try simp -dsimp only [if_conj])
    refine ⟨⟨by omega, by omega⟩, ?_⟩
    rw [byt_append]
    have e6 := k5.trans k6
    have := hK _ (.s h6.length 0 (lenB (uBody ⟨k, w, ab, sig, ty, o1, o2, o3⟩ m).length w ++ uBody ⟨k, w, ab, sig, ty, o1, o2, o3⟩ m).length) ((k0.trans e6).push (id := i6) (p := AO.o 1 (byt (lenB (uBody ⟨k, w, ab, sig, ty, o1, o2, o3⟩ m).length w ++ uBody ⟨k, w, ab, sig, ty, o1, o2, o3⟩ m))) (by have := k0.len; have := k5.len; omega))
      (IsB.s (by rw [show h6.length = (h6.set i6 .dead).length by simp]; exact hget_new))
    rw [List.length_append] at this
    exact this
  by_cases k2' : k = 2
  · subst k2'
    (simp +contextual -dsimp only [evA, evB, ↓a_on_t, ↓a_on_f, ↓a_on_und, ↓a_cond_b, ↓reduceIte, Go.Ab.part, List.getD_cons_zero, List.getD_cons_succ, List.set_cons_zero, List.set_cons_succ, List.length_cons, List.length_nil, List.cons_append, List.nil_append, cond_true, cond_false, Bool.cond_true, reduceCtorEq, Option.map_some, Option.map_none, forall_const, ne_eq, implies_true, Nat.reduceAdd, Nat.reduceLeDiff, Nat.reduceLT, Nat.beq, Option.isNone_none, beq_self_eq_true, bne_self_eq_false, Int.reduceBEq, Int.reduceBNe, Int.reduceLT, Int.reduceLE, Int.reduceGT, Int.reduceGE, Int.reduceEq, Int.reduceNe, Int.reduceToNat, List.take_zero, List.drop_zero, List.all_cons, List.all_nil, List.append_nil, List.length_append, List.length_set, List.append_assoc, List.drop_nil, List.take_nil, w14_18, w14_19, w14_20, w14_21, w14_22, w14_23, gb3] <;> try simp -dsimp only [if_conj])
    refine rPut_is hsig fun h4 i4 k4 q4 g4 => ?_
    rw [show wid 8 = 8 from rfl] at g4 ⊢
    obtain ⟨a1, a2, a3, a4, a5⟩ := app_is e3 e4 e5 k4 q4 g4
    (simp +contextual -dsimp only [evA, evB, ↓a_on_t, ↓a_on_f, ↓a_on_und, ↓a_cond_b, ↓reduceIte, Go.Ab.part, List.getD_cons_zero, List.getD_cons_succ, List.set_cons_zero, List.set_cons_succ, List.length_cons, List.length_nil, List.cons_append, List.nil_append, cond_true, cond_false, Bool.cond_true, reduceCtorEq, Option.map_some, Option.map_none, forall_const, ne_eq, implies_true, Nat.reduceAdd, Nat.reduceLeDiff, Nat.reduceLT, Nat.beq, Option.isNone_none, beq_self_eq_true, bne_self_eq_false, Int.reduceBEq, Int.reduceBNe, Int.reduceLT, Int.reduceLE, Int.reduceGT, Int.reduceGE, Int.reduceEq, Int.reduceNe, Int.reduceToNat, List.take_zero, List.drop_zero, List.all_cons, List.all_nil, List.append_nil, List.length_append, List.length_set, List.append_assoc, List.drop_nil, List.take_nil, a1, g4] <;> try simp -dsimp only [if_conj])
    refine ⟨⟨by omega, a2⟩, ?_⟩
    rw [byt_append]
    have gb5 := a3.at gb (by simp)
    generalize h4.set i3 .dead ++ [AO.o 1 (byt (l3 ++ leB 8 sig))] = H5 at *
    generalize h4.length = i5 at *
    have ll4 : (l3 ++ leB 8 sig).length = l3.length + 8 := by rw [List.length_append, leB_length]
    (simp +contextual -dsimp only [evA, evB, ↓a_on_t, ↓a_on_f, ↓a_on_und, ↓a_cond_b, ↓reduceIte, Go.Ab.part, List.getD_cons_zero, List.getD_cons_succ, List.set_cons_zero, List.set_cons_succ, List.length_cons, List.length_nil, List.cons_append, List.nil_append, cond_true, cond_false, Bool.cond_true, reduceCtorEq, Option.map_some, Option.map_none, forall_const, ne_eq, implies_true, Nat.reduceAdd, Nat.reduceLeDiff, Nat.reduceLT, Nat.beq, Option.isNone_none, beq_self_eq_true, bne_self_eq_false, Int.reduceBEq, Int.reduceBNe, Int.reduceLT, Int.reduceLE, Int.reduceGT, Int.reduceGE, Int.reduceEq, Int.reduceNe, Int.reduceToNat, List.take_zero, List.drop_zero, List.all_cons, List.all_nil, List.append_nil, List.length_append, List.length_set, List.append_assoc, List.drop_nil, List.take_nil, w14_24, gb5] <;> try simp -dsimp only [if_conj])
    refine rPut_is hty fun h6 i6 k6 q6 g6 => ?_
    rw [ew] at g6 ⊢
    obtain ⟨b1, b2, b3, b4, b5⟩ := app_is a3 a4 a5 k6 q6 g6
    (simp +contextual -dsimp only [evA, evB, ↓a_on_t, ↓a_on_f, ↓a_on_und, ↓a_cond_b, ↓reduceIte, Go.Ab.part, List.getD_cons_zero, List.getD_cons_succ, List.set_cons_zero, List.set_cons_succ, List.length_cons, List.length_nil, List.cons_append, List.nil_append, cond_true, cond_false, Bool.cond_true, reduceCtorEq, Option.map_some, Option.map_none, forall_const, ne_eq, implies_true, Nat.reduceAdd, Nat.reduceLeDiff, Nat.reduceLT, Nat.beq, Option.isNone_none, beq_self_eq_true, bne_self_eq_false, Int.reduceBEq, Int.reduceBNe, Int.reduceLT, Int.reduceLE, Int.reduceGT, Int.reduceGE, Int.reduceEq, Int.reduceNe, Int.reduceToNat, List.take_zero, List.drop_zero, List.all_cons, List.all_nil, List.append_nil, List.length_append, List.length_set, List.append_assoc, List.drop_nil, List.take_nil, b1, g6] <;> try simp -dsimp only [if_conj])
    refine ⟨⟨by omega, b2⟩, ?_⟩
    rw [byt_append]
    have ll5 : (l3 ++ leB 8 sig ++ leB (lenW w) ty).length = (l3 ++ leB 8 sig).length + lenW w := by rw [List.length_append, leB_length]
    have key := key _ _ _ b3 b4 b5 (by omega) (by rw [hl3, hkb]; simp [uBody])
    rw [ll5, ll4] at key
    refine key _ ?_
    rfl
  · have k2b : (k == 2) = false := by simp [k2']
    (simp +contextual -dsimp only [evA, evB, ↓a_on_t, ↓a_on_f, ↓a_on_und, ↓a_cond_b, ↓reduceIte, Go.Ab.part, List.getD_cons_zero, List.getD_cons_succ, List.set_cons_zero, List.set_cons_succ, List.length_cons, List.length_nil, List.cons_append, List.nil_append, cond_true, cond_false, Bool.cond_true, reduceCtorEq, Option.map_some, Option.map_none, forall_const, ne_eq, implies_true, Nat.reduceAdd, Nat.reduceLeDiff, Nat.reduceLT, Nat.beq, Option.isNone_none, beq_self_eq_true, bne_self_eq_false, Int.reduceBEq, Int.reduceBNe, Int.reduceLT, Int.reduceLE, Int.reduceGT, Int.reduceGE, Int.reduceEq, Int.reduceNe, Int.reduceToNat, List.take_zero, List.drop_zero, List.all_cons, List.all_nil, List.append_nil, List.length_append, List.length_set, List.append_assoc, List.drop_nil, List.take_nil, w14_18, w14_19, w14_20, w14_21, w14_25, gb3, k2b] <;> try simp -dsimp only [if_conj])
    refine key _ _ _ e3 e4 e5 (by omega) (by rw [hl3, hkb]; simp [uBody, k2']) _ ?_
    rfl
theorem rPut15_ok {R : Hd} {m : List UInt8} {r : AV} (hab : R.ab < 18446744073709551616) (hsig : R.sig < 18446744073709551616) (hty : R.ty < 18446744073709551616) (hm : m.length ≤ 300000) (im : IsB m r h) (hK : ∀ h' r', Keeps h h' → IsB (uPut R m).1 r' h' → K.K (.t [r', I (uPut R m).2]) h') : ACall X 14 [.g R.row, r] h K := by
  have kk : Keeps h (h ++ [.o 1 R.row]) := Keeps.adds Adds.mk
  have bad : uBad R → K.K (.t [.v (.slice none 0 0), I 2]) (h ++ [.o 1 R.row]) := fun hb => by
    have e : uPut R m = ([], 2) := if_pos hb
    rw [e] at hK
    exact hK _ _ kk (.inl ⟨rfl, rfl⟩)
  rw [Hd.row] at bad
  have gb : (h ++ [AO.o 1 [I R.kind, Bo R.w, U R.ab, U R.sig, U R.ty, U R.off, U R.first, U R.fin]]).getD h.length .dead = .o 1 [I R.kind, Bo R.w, U R.ab, U R.sig, U R.ty, U R.off, U R.first, U R.fin] := hget_new
  apply i14
  (simp +contextual -dsimp only [evA, evB, ↓a_on_t, ↓a_on_f, ↓a_on_und, ↓a_cond_b, ↓reduceIte, Go.Ab.part, List.getD_cons_zero, List.getD_cons_succ, List.set_cons_zero, List.set_cons_succ, List.length_cons, List.length_nil, List.cons_append, List.nil_append, cond_true, cond_false, Bool.cond_true, reduceCtorEq, Option.map_some, Option.map_none, forall_const, ne_eq, implies_true, Nat.reduceAdd, Nat.reduceLeDiff, Nat.reduceLT, Nat.beq, Option.isNone_none, beq_self_eq_true, bne_self_eq_false, Int.reduceBEq, Int.reduceBNe, Int.reduceLT, Int.reduceLE, Int.reduceGT, Int.reduceGE, Int.reduceEq, Int.reduceNe, Int.reduceToNat, List.take_zero, List.drop_zero, List.all_cons, List.all_nil, List.append_nil, List.length_append, List.length_set, List.append_assoc, List.drop_nil, List.take_nil, Hd.row, w14_0, w14_1, w14_2, w14_3, gb] <;> try simp -dsimp only [if_conj])
  by_cases za : R.kind < 1
  · have e1 : decide (R.kind < 1) = true := decide_eq_true za
    (simp +contextual -dsimp only [R14, evA, evB, ↓a_on_t, ↓a_on_f, ↓a_on_und, ↓a_cond_b, ↓reduceIte, Go.Ab.part, List.getD_cons_zero, List.getD_cons_succ, List.set_cons_zero, List.set_cons_succ, List.length_cons, List.length_nil, List.cons_append, List.nil_append, cond_true, cond_false, Bool.cond_true, reduceCtorEq, Option.map_some, Option.map_none, forall_const, ne_eq, implies_true, Nat.reduceAdd, Nat.reduceLeDiff, Nat.reduceLT, Nat.beq, Option.isNone_none, beq_self_eq_true, bne_self_eq_false, Int.reduceBEq, Int.reduceBNe, Int.reduceLT, Int.reduceLE, Int.reduceGT, Int.reduceGE, Int.reduceEq, Int.reduceNe, Int.reduceToNat, List.take_zero, List.drop_zero, List.all_cons, List.all_nil, List.append_nil, List.length_append, List.length_set, List.append_assoc, List.drop_nil, List.take_nil, gb, e1] <;> try simp -dsimp only [if_conj])
    refine bad (.inl ?_)
    unfold uSize; rw [if_neg (by omega), if_neg (by omega)]
  have ea : decide (R.kind < 1) = false := decide_eq_false za
  by_cases zb : R.kind > 3
  · have e1 : decide (R.kind > 3) = true := decide_eq_true zb
    (simp +contextual -dsimp only [R14, evA, evB, ↓a_on_t, ↓a_on_f, ↓a_on_und, ↓a_cond_b, ↓reduceIte, Go.Ab.part, List.getD_cons_zero, List.getD_cons_succ, List.set_cons_zero, List.set_cons_succ, List.length_cons, List.length_nil, List.cons_append, List.nil_append, cond_true, cond_false, Bool.cond_true, reduceCtorEq, Option.map_some, Option.map_none, forall_const, ne_eq, implies_true, Nat.reduceAdd, Nat.reduceLeDiff, Nat.reduceLT, Nat.beq, Option.isNone_none, beq_self_eq_true, bne_self_eq_false, Int.reduceBEq, Int.reduceBNe, Int.reduceLT, Int.reduceLE, Int.reduceGT, Int.reduceGE, Int.reduceEq, Int.reduceNe, Int.reduceToNat, List.take_zero, List.drop_zero, List.all_cons, List.all_nil, List.append_nil, List.length_append, List.length_set, List.append_assoc, List.drop_nil, List.take_nil, gb, ea, e1] <;> try simp -dsimp only [if_conj])
    refine bad (.inl ?_)
    unfold uSize; rw [if_neg (by omega), if_neg (by omega)]
  have eb : decide (R.kind > 3) = false := decide_eq_false zb
  have hk : R.kind = 1 ∨ R.kind = 2 ∨ R.kind = 3 := by omega
  have e0 : uSize R.kind R.w ≠ 0 := by
    unfold uSize
    split
    · split <;> omega
    · rw [if_pos (by omega)]; split <;> omega
  have fin : ¬ uBad R → ∀ st : St, st = ((sl st.1 0 :: r :: .p h.length 0 :: sl st.1 3 :: sl st.1 4 :: sl st.1 5 :: sl st.1 6 :: sl st.1 7 :: sl st.1 8 :: sl st.1 9 :: sl st.1 10 :: sl st.1 11 :: sl st.1 12 :: sl st.1 13 :: sl st.1 14 :: sl st.1 15 :: sl st.1 16 :: sl st.1 17 :: sl st.1 18 :: sl st.1 19 :: sl st.1 20 :: sl st.1 21 :: sl st.1 22 :: sl st.1 23 :: sl st.1 24 :: sl st.1 25 :: sl st.1 26 :: sl st.1 27 :: sl st.1 28 :: sl st.1 29 :: sl st.1 30 :: sl st.1 31 :: sl st.1 32 :: sl st.1 33 :: sl st.1 34 :: sl st.1 35 :: sl st.1 36 :: sl st.1 37 :: sl st.1 38 :: sl st.1 39 :: sl st.1 40 :: sl st.1 41 :: sl st.1 42 :: sl st.1 43 :: sl st.1 44 :: sl st.1 45 :: sl st.1 46 :: sl st.1 47 :: sl st.1 48 :: sl st.1 49 :: sl st.1 50 :: sl st.1 51 :: sl st.1 52 :: sl st.1 53 :: sl st.1 54 :: sl st.1 55 :: sl st.1 56 :: sl st.1 57 :: sl st.1 58 :: sl st.1 59 :: sl st.1 60 :: sl st.1 61 :: sl st.1 62 :: sl st.1 63 :: sl st.1 64 :: sl st.1 65 :: sl st.1 66 :: sl st.1 67 :: sl st.1 68 :: sl st.1 69 :: sl st.1 70 :: sl st.1 71 :: sl st.1 72 :: sl st.1 73 :: sl st.1 74 :: sl st.1 75 :: sl st.1 76 :: sl st.1 77 :: sl st.1 78 :: sl st.1 79 :: sl st.1 80 :: sl st.1 81 :: sl st.1 82 :: sl st.1 83 :: sl st.1 84 :: sl st.1 85 :: sl st.1 86 :: sl st.1 87 :: sl st.1 88 :: sl st.1 89 :: sl st.1 90 :: sl st.1 91 :: sl st.1 92 :: sl st.1 93 :: sl st.1 94 :: []), h ++ [AO.o 1 [I R.kind, Bo R.w, U R.ab, U R.sig, U R.ty, U R.off, U R.first, U R.fin]]) → awp X h.length c14_12 (retQ X Tryd.f14 K) st := fun good st hst => by
    rw [hst]
    have eu : uPut R m = (lenB (uBody R m).length R.w ++ uBody R m, 0) := if_neg good
    rw [eu] at hK
    (simp +contextual -dsimp only [evA, evB, ↓a_on_t, ↓a_on_f, ↓a_on_und, ↓a_cond_b, ↓reduceIte, Go.Ab.part, List.getD_cons_zero, List.getD_cons_succ, List.set_cons_zero, List.set_cons_succ, List.length_cons, List.length_nil, List.cons_append, List.nil_append, cond_true, cond_false, Bool.cond_true, reduceCtorEq, Option.map_some, Option.map_none, forall_const, ne_eq, implies_true, Nat.reduceAdd, Nat.reduceLeDiff, Nat.reduceLT, Nat.beq, Option.isNone_none, beq_self_eq_true, bne_self_eq_false, Int.reduceBEq, Int.reduceBNe, Int.reduceLT, Int.reduceLE, Int.reduceGT, Int.reduceGE, Int.reduceEq, Int.reduceNe, Int.reduceToNat, List.take_zero, List.drop_zero, List.all_cons, List.all_nil, List.append_nil, List.length_append, List.length_set, List.append_assoc, List.drop_nil, List.take_nil, w14_12, w14_13, gb] <;> try simp -dsimp only [if_conj])
    refine rOff_ok ?_
    (simp +contextual -dsimp only [evA, evB, ↓a_on_t, ↓a_on_f, ↓a_on_und, ↓a_cond_b, ↓reduceIte, Go.Ab.part, List.getD_cons_zero, List.getD_cons_succ, List.set_cons_zero, List.set_cons_succ, List.length_cons, List.length_nil, List.cons_append, List.nil_append, cond_true, cond_false, Bool.cond_true, reduceCtorEq, Option.map_some, Option.map_none, forall_const, ne_eq, implies_true, Nat.reduceAdd, Nat.reduceLeDiff, Nat.reduceLT, Nat.beq, Option.isNone_none, beq_self_eq_true, bne_self_eq_false, Int.reduceBEq, Int.reduceBNe, Int.reduceLT, Int.reduceLE, Int.reduceGT, Int.reduceGE, Int.reduceEq, Int.reduceNe, Int.reduceToNat, List.take_zero, List.drop_zero, List.all_cons, List.all_nil, List.append_nil, List.length_append, List.length_set, List.append_assoc, List.drop_nil, List.take_nil] <;> try simp -dsimp only [if_conj])
    refine rPut15_t hk hm hab hsig hty kk (Nat.le_refl _) gb (im.keeps kk) hK _ ?_
    rfl
  by_cases k2 : R.kind = 2
  · have a1 : (R.kind != 2) = false := by simp [k2]
    cases hw : R.w
    · rw [hw] at gb fin bad
      by_cases z1 : R.ab > 4294967295
      · have d1 : decide ((R.ab : Int) > 4294967295) = true := by simp; omega
        (simp +contextual -dsimp only [R14, evA, evB, ↓a_on_t, ↓a_on_f, ↓a_on_und, ↓a_cond_b, ↓reduceIte, Go.Ab.part, List.getD_cons_zero, List.getD_cons_succ, List.set_cons_zero, List.set_cons_succ, List.length_cons, List.length_nil, List.cons_append, List.nil_append, cond_true, cond_false, Bool.cond_true, reduceCtorEq, Option.map_some, Option.map_none, forall_const, ne_eq, implies_true, Nat.reduceAdd, Nat.reduceLeDiff, Nat.reduceLT, Nat.beq, Option.isNone_none, beq_self_eq_true, bne_self_eq_false, Int.reduceBEq, Int.reduceBNe, Int.reduceLT, Int.reduceLE, Int.reduceGT, Int.reduceGE, Int.reduceEq, Int.reduceNe, Int.reduceToNat, List.take_zero, List.drop_zero, List.all_cons, List.all_nil, List.append_nil, List.length_append, List.length_set, List.append_assoc, List.drop_nil, List.take_nil, gb, ea, eb, d1, a1, hw] <;> try simp -dsimp only [if_conj])
        exact bad (.inr (.inl ⟨hw, .inl (by omega)⟩))
      have d1 : decide ((R.ab : Int) > 4294967295) = false := by simp; omega
      by_cases z2 : R.ty > 4294967295
      · have d2 : decide ((R.ty : Int) > 4294967295) = true := by simp; omega
        (simp +contextual -dsimp only [R14, evA, evB, ↓a_on_t, ↓a_on_f, ↓a_on_und, ↓a_cond_b, ↓reduceIte, Go.Ab.part, List.getD_cons_zero, List.getD_cons_succ, List.set_cons_zero, List.set_cons_succ, List.length_cons, List.length_nil, List.cons_append, List.nil_append, cond_true, cond_false, Bool.cond_true, reduceCtorEq, Option.map_some, Option.map_none, forall_const, ne_eq, implies_true, Nat.reduceAdd, Nat.reduceLeDiff, Nat.reduceLT, Nat.beq, Option.isNone_none, beq_self_eq_true, bne_self_eq_false, Int.reduceBEq, Int.reduceBNe, Int.reduceLT, Int.reduceLE, Int.reduceGT, Int.reduceGE, Int.reduceEq, Int.reduceNe, Int.reduceToNat, List.take_zero, List.drop_zero, List.all_cons, List.all_nil, List.append_nil, List.length_append, List.length_set, List.append_assoc, List.drop_nil, List.take_nil, gb, ea, eb, d1, d2, a1, hw] <;> try simp -dsimp only [if_conj])
        exact bad (.inr (.inl ⟨hw, .inr (by omega)⟩))
      have d2 : decide ((R.ty : Int) > 4294967295) = false := by simp; omega
      (simp +contextual -dsimp only [evA, evB, ↓a_on_t, ↓a_on_f, ↓a_on_und, ↓a_cond_b, ↓reduceIte, Go.Ab.part, List.getD_cons_zero, List.getD_cons_succ, List.set_cons_zero, List.set_cons_succ, List.length_cons, List.length_nil, List.cons_append, List.nil_append, cond_true, cond_false, Bool.cond_true, reduceCtorEq, Option.map_some, Option.map_none, forall_const, ne_eq, implies_true, Nat.reduceAdd, Nat.reduceLeDiff, Nat.reduceLT, Nat.beq, Option.isNone_none, beq_self_eq_true, bne_self_eq_false, Int.reduceBEq, Int.reduceBNe, Int.reduceLT, Int.reduceLE, Int.reduceGT, Int.reduceGE, Int.reduceEq, Int.reduceNe, Int.reduceToNat, List.take_zero, List.drop_zero, List.all_cons, List.all_nil, List.append_nil, List.length_append, List.length_set, List.append_assoc, List.drop_nil, List.take_nil, gb, ea, eb, d1, d2, a1, hw, w14_4, w14_5, w14_6, w14_7, w14_11] <;> try simp -dsimp only [if_conj])
      refine fin (by rintro (h | ⟨h, h' | h'⟩ | ⟨h, h' | h'⟩) <;> omega) _ ?_
      rfl
    · rw [hw] at gb fin bad
      (simp +contextual -dsimp only [evA, evB, ↓a_on_t, ↓a_on_f, ↓a_on_und, ↓a_cond_b, ↓reduceIte, Go.Ab.part, List.getD_cons_zero, List.getD_cons_succ, List.set_cons_zero, List.set_cons_succ, List.length_cons, List.length_nil, List.cons_append, List.nil_append, cond_true, cond_false, Bool.cond_true, reduceCtorEq, Option.map_some, Option.map_none, forall_const, ne_eq, implies_true, Nat.reduceAdd, Nat.reduceLeDiff, Nat.reduceLT, Nat.beq, Option.isNone_none, beq_self_eq_true, bne_self_eq_false, Int.reduceBEq, Int.reduceBNe, Int.reduceLT, Int.reduceLE, Int.reduceGT, Int.reduceGE, Int.reduceEq, Int.reduceNe, Int.reduceToNat, List.take_zero, List.drop_zero, List.all_cons, List.all_nil, List.append_nil, List.length_append, List.length_set, List.append_assoc, List.drop_nil, List.take_nil, gb, ea, eb, a1, hw, w14_4, w14_5, w14_6, w14_7, w14_11] <;> try simp -dsimp only [if_conj])
      refine fin (by rintro (h | ⟨h, h' | h'⟩ | ⟨h, h' | h'⟩) <;> first | omega | (rw [hw] at h; cases h)) _ ?_
      rfl
  · have a1 : (R.kind != 2) = true := by simp [k2]
    cases hw : R.w
    · rw [hw] at gb fin bad
      by_cases z1 : R.ab > 4294967295
      · have d1 : decide ((R.ab : Int) > 4294967295) = true := by simp; omega
        (simp +contextual -dsimp only [R14, evA, evB, ↓a_on_t, ↓a_on_f, ↓a_on_und, ↓a_cond_b, ↓reduceIte, Go.Ab.part, List.getD_cons_zero, List.getD_cons_succ, List.set_cons_zero, List.set_cons_succ, List.length_cons, List.length_nil, List.cons_append, List.nil_append, cond_true, cond_false, Bool.cond_true, reduceCtorEq, Option.map_some, Option.map_none, forall_const, ne_eq, implies_true, Nat.reduceAdd, Nat.reduceLeDiff, Nat.reduceLT, Nat.beq, Option.isNone_none, beq_self_eq_true, bne_self_eq_false, Int.reduceBEq, Int.reduceBNe, Int.reduceLT, Int.reduceLE, Int.reduceGT, Int.reduceGE, Int.reduceEq, Int.reduceNe, Int.reduceToNat, List.take_zero, List.drop_zero, List.all_cons, List.all_nil, List.append_nil, List.length_append, List.length_set, List.append_assoc, List.drop_nil, List.take_nil, gb, ea, eb, d1, a1, hw] <;> try simp -dsimp only [if_conj])
        exact bad (.inr (.inl ⟨hw, .inl (by omega)⟩))
      have d1 : decide ((R.ab : Int) > 4294967295) = false := by simp; omega
      by_cases z2 : R.ty > 4294967295
      · have d2 : decide ((R.ty : Int) > 4294967295) = true := by simp; omega
        (simp +contextual -dsimp only [R14, evA, evB, ↓a_on_t, ↓a_on_f, ↓a_on_und, ↓a_cond_b, ↓reduceIte, Go.Ab.part, List.getD_cons_zero, List.getD_cons_succ, List.set_cons_zero, List.set_cons_succ, List.length_cons, List.length_nil, List.cons_append, List.nil_append, cond_true, cond_false, Bool.cond_true, reduceCtorEq, Option.map_some, Option.map_none, forall_const, ne_eq, implies_true, Nat.reduceAdd, Nat.reduceLeDiff, Nat.reduceLT, Nat.beq, Option.isNone_none, beq_self_eq_true, bne_self_eq_false, Int.reduceBEq, Int.reduceBNe, Int.reduceLT, Int.reduceLE, Int.reduceGT, Int.reduceGE, Int.reduceEq, Int.reduceNe, Int.reduceToNat, List.take_zero, List.drop_zero, List.all_cons, List.all_nil, List.append_nil, List.length_append, List.length_set, List.append_assoc, List.drop_nil, List.take_nil, gb, ea, eb, d1, d2, a1, hw] <;> try simp -dsimp only [if_conj])
        exact bad (.inr (.inl ⟨hw, .inr (by omega)⟩))
      have d2 : decide ((R.ty : Int) > 4294967295) = false := by simp; omega
      by_cases z3 : R.sig ≠ 0
      · have d3 : ((R.sig : Int) != 0) = true := by simp; omega
        (simp +contextual -dsimp only [R14, evA, evB, ↓a_on_t, ↓a_on_f, ↓a_on_und, ↓a_cond_b, ↓reduceIte, Go.Ab.part, List.getD_cons_zero, List.getD_cons_succ, List.set_cons_zero, List.set_cons_succ, List.length_cons, List.length_nil, List.cons_append, List.nil_append, cond_true, cond_false, Bool.cond_true, reduceCtorEq, Option.map_some, Option.map_none, forall_const, ne_eq, implies_true, Nat.reduceAdd, Nat.reduceLeDiff, Nat.reduceLT, Nat.beq, Option.isNone_none, beq_self_eq_true, bne_self_eq_false, Int.reduceBEq, Int.reduceBNe, Int.reduceLT, Int.reduceLE, Int.reduceGT, Int.reduceGE, Int.reduceEq, Int.reduceNe, Int.reduceToNat, List.take_zero, List.drop_zero, List.all_cons, List.all_nil, List.append_nil, List.length_append, List.length_set, List.append_assoc, List.drop_nil, List.take_nil, gb, ea, eb, d1, d2, a1, hw, d3] <;> try simp -dsimp only [if_conj])
        exact bad (.inr (.inr ⟨k2, .inl z3⟩))
      have d3 : ((R.sig : Int) != 0) = false := by simp; omega
      by_cases z4 : R.ty ≠ 0
      · have d4 : ((R.ty : Int) != 0) = true := by simp; omega
        (simp +contextual -dsimp only [R14, evA, evB, ↓a_on_t, ↓a_on_f, ↓a_on_und, ↓a_cond_b, ↓reduceIte, Go.Ab.part, List.getD_cons_zero, List.getD_cons_succ, List.set_cons_zero, List.set_cons_succ, List.length_cons, List.length_nil, List.cons_append, List.nil_append, cond_true, cond_false, Bool.cond_true, reduceCtorEq, Option.map_some, Option.map_none, forall_const, ne_eq, implies_true, Nat.reduceAdd, Nat.reduceLeDiff, Nat.reduceLT, Nat.beq, Option.isNone_none, beq_self_eq_true, bne_self_eq_false, Int.reduceBEq, Int.reduceBNe, Int.reduceLT, Int.reduceLE, Int.reduceGT, Int.reduceGE, Int.reduceEq, Int.reduceNe, Int.reduceToNat, List.take_zero, List.drop_zero, List.all_cons, List.all_nil, List.append_nil, List.length_append, List.length_set, List.append_assoc, List.drop_nil, List.take_nil, gb, ea, eb, d1, d2, a1, hw, d3, d4] <;> try simp -dsimp only [if_conj])
        exact bad (.inr (.inr ⟨k2, .inr z4⟩))
      have d4 : ((R.ty : Int) != 0) = false := by simp; omega
      (simp +contextual -dsimp only [evA, evB, ↓a_on_t, ↓a_on_f, ↓a_on_und, ↓a_cond_b, ↓reduceIte, Go.Ab.part, List.getD_cons_zero, List.getD_cons_succ, List.set_cons_zero, List.set_cons_succ, List.length_cons, List.length_nil, List.cons_append, List.nil_append, cond_true, cond_false, Bool.cond_true, reduceCtorEq, Option.map_some, Option.map_none, forall_const, ne_eq, implies_true, Nat.reduceAdd, Nat.reduceLeDiff, Nat.reduceLT, Nat.beq, Option.isNone_none, beq_self_eq_true, bne_self_eq_false, Int.reduceBEq, Int.reduceBNe, Int.reduceLT, Int.reduceLE, Int.reduceGT, Int.reduceGE, Int.reduceEq, Int.reduceNe, Int.reduceToNat, List.take_zero, List.drop_zero, List.all_cons, List.all_nil, List.append_nil, List.length_append, List.length_set, List.append_assoc, List.drop_nil, List.take_nil, gb, ea, eb, d1, d2, a1, hw, d3, d4, w14_4, w14_5, w14_6, w14_7, w14_11] <;> try simp -dsimp only [if_conj])
      refine fin (by rintro (h | ⟨h, h' | h'⟩ | ⟨h, h' | h'⟩) <;> first | omega | (rw [hw] at h; cases h)) _ ?_
      rfl
    · rw [hw] at gb fin bad
      by_cases z3 : R.sig ≠ 0
      · have d3 : ((R.sig : Int) != 0) = true := by simp; omega
        (simp +contextual -dsimp only [R14, evA, evB, ↓a_on_t, ↓a_on_f, ↓a_on_und, ↓a_cond_b, ↓reduceIte, Go.Ab.part, List.getD_cons_zero, List.getD_cons_succ, List.set_cons_zero, List.set_cons_succ, List.length_cons, List.length_nil, List.cons_append, List.nil_append, cond_true, cond_false, Bool.cond_true, reduceCtorEq, Option.map_some, Option.map_none, forall_const, ne_eq, implies_true, Nat.reduceAdd, Nat.reduceLeDiff, Nat.reduceLT, Nat.beq, Option.isNone_none, beq_self_eq_true, bne_self_eq_false, Int.reduceBEq, Int.reduceBNe, Int.reduceLT, Int.reduceLE, Int.reduceGT, Int.reduceGE, Int.reduceEq, Int.reduceNe, Int.reduceToNat, List.take_zero, List.drop_zero, List.all_cons, List.all_nil, List.append_nil, List.length_append, List.length_set, List.append_assoc, List.drop_nil, List.take_nil, gb, ea, eb, a1, hw, d3] <;> try simp -dsimp only [if_conj])
        exact bad (.inr (.inr ⟨k2, .inl z3⟩))
      have d3 : ((R.sig : Int) != 0) = false := by simp; omega
      by_cases z4 : R.ty ≠ 0
      · have d4 : ((R.ty : Int) != 0) = true := by simp; omega
        (simp +contextual -dsimp only [R14, evA, evB, ↓a_on_t, ↓a_on_f, ↓a_on_und, ↓a_cond_b, ↓reduceIte, Go.Ab.part, List.getD_cons_zero, List.getD_cons_succ, List.set_cons_zero, List.set_cons_succ, List.length_cons, List.length_nil, List.cons_append, List.nil_append, cond_true, cond_false, Bool.cond_true, reduceCtorEq, Option.map_some, Option.map_none, forall_const, ne_eq, implies_true, Nat.reduceAdd, Nat.reduceLeDiff, Nat.reduceLT, Nat.beq, Option.isNone_none, beq_self_eq_true, bne_self_eq_false, Int.reduceBEq, Int.reduceBNe, Int.reduceLT, Int.reduceLE, Int.reduceGT, Int.reduceGE, Int.reduceEq, Int.reduceNe, Int.reduceToNat, List.take_zero, List.drop_zero, List.all_cons, List.all_nil, List.append_nil, List.length_append, List.length_set, List.append_assoc, List.drop_nil, List.take_nil, gb, ea, eb, a1, hw, d3, d4] <;> try simp -dsimp only [if_conj])
        exact bad (.inr (.inr ⟨k2, .inr z4⟩))
      have d4 : ((R.ty : Int) != 0) = false := by simp; omega
      (simp +contextual -dsimp only [evA, evB, ↓a_on_t, ↓a_on_f, ↓a_on_und, ↓a_cond_b, ↓reduceIte, Go.Ab.part, List.getD_cons_zero, List.getD_cons_succ, List.set_cons_zero, List.set_cons_succ, List.length_cons, List.length_nil, List.cons_append, List.nil_append, cond_true, cond_false, Bool.cond_true, reduceCtorEq, Option.map_some, Option.map_none, forall_const, ne_eq, implies_true, Nat.reduceAdd, Nat.reduceLeDiff, Nat.reduceLT, Nat.beq, Option.isNone_none, beq_self_eq_true, bne_self_eq_false, Int.reduceBEq, Int.reduceBNe, Int.reduceLT, Int.reduceLE, Int.reduceGT, Int.reduceGE, Int.reduceEq, Int.reduceNe, Int.reduceToNat, List.take_zero, List.drop_zero, List.all_cons, List.all_nil, List.append_nil, List.length_append, List.length_set, List.append_assoc, List.drop_nil, List.take_nil, gb, ea, eb, a1, hw, d3, d4, w14_4, w14_5, w14_6, w14_7, w14_11] <;> try simp -dsimp only [if_conj])
      refine fin (by rintro (h | ⟨h, h' | h'⟩ | ⟨h, h' | h'⟩) <;> first | omega | (rw [hw] at h; cases h)) _ ?_
      rfl
end Go.Proofs.YtmjjfchahkdceaaDoor
