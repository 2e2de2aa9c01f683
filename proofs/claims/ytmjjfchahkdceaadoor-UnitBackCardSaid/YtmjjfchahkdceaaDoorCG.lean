import Derived.Test.YtmjjfchahkdceaaDoorCF
set_option linter.unusedVariables false
set_option linter.unusedSimpArgs false
set_option maxRecDepth 100000
set_option maxHeartbeats 1000000
namespace Go.Proofs.YtmjjfchahkdceaaDoor
open Go.Ab
variable {c : Cur} {h : Heap} {id : Nat} {K : Kt}
/-- memory while the document reads a head -/
structure RT (h : Heap) (id idb : Nat) (c1 d : Cur) (cells : List AV) (g : Heap) : Prop where
  len : h.length + 2 ≤ g.length
  keep : ∀ j, j < h.length → j ≠ id → g.getD j .dead = h.getD j .dead
  c : g.getD id .dead = rc c1
  b : g.getD idb .dead = rc d
  ib : h.length + 2 ≤ idb
  r : g.getD h.length .dead = .o 1 [I 0, Bo false, U 0, U 0, U 0, U 0, U 0, U 0]
  v : g.getD (h.length + 1) .dead = .o 1 cells
section
variable {g : Heap} {idb : Nat} {c1 d : Cur} {cells : List AV}
theorem RT.cur' (s : RT h id idb c1 d cells g) (hl : id < h.length) (d' : Cur) : RT h id idb c1 d' cells (g.set idb (rc d')) :=
  have hb := hlt s.b (rc_ne _)
  have ib := s.ib
  ⟨by rw [List.length_set]; exact s.len, fun j h1 h2 => by rw [hget_set_ne (by omega)]; exact s.keep j h1 h2, by rw [hget_set_ne (by omega)]; exact s.c, hget_set hb, ib, by rw [hget_set_ne (by omega)]; exact s.r, by rw [hget_set_ne (by omega)]; exact s.v⟩
theorem RT.st (s : RT h id idb c1 d cells g) (hl : id < h.length) (cells' : List AV) : RT h id idb c1 d cells' (g.set (h.length + 1) (.o 1 cells')) :=
  have ib := s.ib
  have hl2 := s.len
  ⟨by rw [List.length_set]; exact s.len, fun j h1 h2 => by rw [hget_set_ne (by omega)]; exact s.keep j h1 h2, by rw [hget_set_ne (by omega)]; exact s.c, by rw [hget_set_ne (by omega)]; exact s.b, ib, by rw [hget_set_ne (by omega)]; exact s.r, hget_set (by omega)⟩
theorem RT.res (s : RT h id idb c1 d cells g) (o : AO) : (g.set h.length o).getD h.length .dead = o := hget_set (by have := s.len; omega)
theorem RT.fin (s : RT h id idb c1 d cells g) (hl : id < h.length) (o : AO) : Grown h id (g.set h.length o) id (rc c1) :=
  ⟨by rw [List.length_set]; have := s.len; omega, fun j h1 h2 => by rw [hget_set_ne (by omega)]; exact s.keep j h1 h2, by rw [hget_set_ne (by omega)]; exact s.c, .inl rfl⟩
end
abbrev zRow : List AV := [I 0, Bo false, U 0, U 0, U 0, U 0, U 0, U 0]
theorem one_t5 {g : Heap} {idb : Nat} {c1 d : Cur} {w : Bool} {k ab sg ty off fin : Nat} (hl : id < h.length) (hi : d.inv) (hf : fin < 1000000) (hlf : d.e = 0 → d.left ≤ fin) (s : RT h id idb c1 d [I k, Bo w, U ab, U sg, U ty, U off, U 0, U fin] g)
    (hK1 : d.e ≠ 0 → ∀ h', Grown h id h' id (rc c1) → K.K (.t [.g zRow, I d.e]) h') (hK0 : d.e = 0 → ∀ h', Grown h id h' id (rc c1) → K.K (.t [.g [I k, Bo w, U ab, U sg, U ty, U off, U (fin - d.left : Nat), U fin], I 0]) h') :
    ∀ st : St, st = ((sl st.1 0 :: sl st.1 1 :: .p h.length 0 :: sl st.1 3 :: .p (h.length + 1) 0 :: .p idb 0 :: sl st.1 6 :: sl st.1 7 :: sl st.1 8 :: sl st.1 9 :: sl st.1 10 :: sl st.1 11 :: sl st.1 12 :: sl st.1 13 :: sl st.1 14 :: sl st.1 15 :: sl st.1 16 :: sl st.1 17 :: sl st.1 18 :: sl st.1 19 :: sl st.1 20 :: sl st.1 21 :: sl st.1 22 :: sl st.1 23 :: sl st.1 24 :: sl st.1 25 :: sl st.1 26 :: sl st.1 27 :: sl st.1 28 :: sl st.1 29 :: sl st.1 30 :: sl st.1 31 :: sl st.1 32 :: sl st.1 33 :: sl st.1 34 :: sl st.1 35 :: sl st.1 36 :: sl st.1 37 :: sl st.1 38 :: sl st.1 39 :: sl st.1 40 :: sl st.1 41 :: sl st.1 42 :: sl st.1 43 :: sl st.1 44 :: sl st.1 45 :: sl st.1 46 :: sl st.1 47 :: sl st.1 48 :: sl st.1 49 :: sl st.1 50 :: sl st.1 51 :: sl st.1 52 :: sl st.1 53 :: sl st.1 54 :: sl st.1 55 :: sl st.1 56 :: sl st.1 57 :: sl st.1 58 :: sl st.1 59 :: sl st.1 60 :: sl st.1 61 :: sl st.1 62 :: sl st.1 63 :: sl st.1 64 :: sl st.1 65 :: sl st.1 66 :: sl st.1 67 :: sl st.1 68 :: sl st.1 69 :: sl st.1 70 :: sl st.1 71 :: sl st.1 72 :: sl st.1 73 :: sl st.1 74 :: sl st.1 75 :: sl st.1 76 :: sl st.1 77 :: sl st.1 78 :: sl st.1 79 :: sl st.1 80 :: sl st.1 81 :: sl st.1 82 :: sl st.1 83 :: sl st.1 84 :: sl st.1 85 :: sl st.1 86 :: sl st.1 87 :: sl st.1 88 :: sl st.1 89 :: sl st.1 90 :: sl st.1 91 :: sl st.1 92 :: sl st.1 93 :: sl st.1 94 :: sl st.1 95 :: sl st.1 96 :: sl st.1 97 :: sl st.1 98 :: sl st.1 99 :: sl st.1 100 :: sl st.1 101 :: sl st.1 102 :: sl st.1 103 :: sl st.1 104 :: sl st.1 105 :: sl st.1 106 :: sl st.1 107 :: sl st.1 108 :: sl st.1 109 :: sl st.1 110 :: sl st.1 111 :: sl st.1 112 :: sl st.1 113 :: sl st.1 114 :: sl st.1 115 :: sl st.1 116 :: []), g) → awp X h.length c23_60 (retQ X Tryd.f23 K) st := by
  intro st hst
  rw [hst]
  have rcc : ∀ c : Cur, rc c = .o 1 [.z (byt c.b) c.b.length, I c.p, I c.e] := fun _ => rfl
  have sb := s.b
  rw [rcc] at sb
  by_cases e : d.e = 0
  · have e' : (d.e != 0) = false := by simp [e]
    have hlf := hlf e
    have w1 : IntKind.u64.wrap ((d.left : Nat) : Int) = (d.left : Nat) := wrap_u64 (by omega) (by omega)
    have w2 : IntKind.u64.wrap ((fin : Int) - (d.left : Nat)) = ((fin - d.left : Nat) : Int) := by rw [wrap_u64 (by omega) (by omega)]; omega
    have s2 := s.st hl [I k, Bo w, U ab, U sg, U ty, U off, U (fin - d.left : Nat), U fin]
    (simp +contextual -dsimp only [R23, evA, evB, ↓a_on_t, ↓a_on_f, ↓a_on_und, ↓a_cond_b, ↓reduceIte, Go.Ab.part, List.getD_cons_zero, List.getD_cons_succ, List.set_cons_zero, List.set_cons_succ, List.length_cons, List.length_nil, List.cons_append, List.nil_append, cond_true, cond_false, Bool.cond_true, reduceCtorEq, Option.map_some, Option.map_none, forall_const, ne_eq, implies_true, Nat.reduceAdd, Nat.reduceLeDiff, Nat.reduceLT, Nat.beq, Option.isNone_none, beq_self_eq_true, bne_self_eq_false, Int.reduceBEq, Int.reduceBNe, Int.reduceLT, Int.reduceLE, Int.reduceGT, Int.reduceGE, Int.reduceEq, Int.reduceNe, Int.reduceToNat, List.take_zero, List.drop_zero, List.all_cons, List.all_nil, List.append_nil, List.length_append, List.length_set, List.append_assoc, List.drop_nil, List.take_nil, sb, e', s.v] <;> try simp -dsimp only [if_conj])
    refine rLeft_ok s.b hi ?_
    (simp +contextual -dsimp only [R23, evA, evB, ↓a_on_t, ↓a_on_f, ↓a_on_und, ↓a_cond_b, ↓reduceIte, Go.Ab.part, List.getD_cons_zero, List.getD_cons_succ, List.set_cons_zero, List.set_cons_succ, List.length_cons, List.length_nil, List.cons_append, List.nil_append, cond_true, cond_false, Bool.cond_true, reduceCtorEq, Option.map_some, Option.map_none, forall_const, ne_eq, implies_true, Nat.reduceAdd, Nat.reduceLeDiff, Nat.reduceLT, Nat.beq, Option.isNone_none, beq_self_eq_true, bne_self_eq_false, Int.reduceBEq, Int.reduceBNe, Int.reduceLT, Int.reduceLE, Int.reduceGT, Int.reduceGE, Int.reduceEq, Int.reduceNe, Int.reduceToNat, List.take_zero, List.drop_zero, List.all_cons, List.all_nil, List.append_nil, List.length_append, List.length_set, List.append_assoc, List.drop_nil, List.take_nil, w1, w2, s.v, setAt, s2.v, s2.r, et8, s2.res] <;> try simp -dsimp only [if_conj])
    exact hK0 e _ (s2.fin hl _)
  · have e' : (d.e != 0) = true := by simp [e]
    have sbr : ∀ o, (g.set h.length o).getD idb .dead = .o 1 [.z (byt d.b) d.b.length, I d.p, I d.e] := fun o => by rw [hget_set_ne (by have := s.ib; omega)]; exact sb
    (simp +contextual -dsimp only [R23, evA, evB, ↓a_on_t, ↓a_on_f, ↓a_on_und, ↓a_cond_b, ↓reduceIte, Go.Ab.part, List.getD_cons_zero, List.getD_cons_succ, List.set_cons_zero, List.set_cons_succ, List.length_cons, List.length_nil, List.cons_append, List.nil_append, cond_true, cond_false, Bool.cond_true, reduceCtorEq, Option.map_some, Option.map_none, forall_const, ne_eq, implies_true, Nat.reduceAdd, Nat.reduceLeDiff, Nat.reduceLT, Nat.beq, Option.isNone_none, beq_self_eq_true, bne_self_eq_false, Int.reduceBEq, Int.reduceBNe, Int.reduceLT, Int.reduceLE, Int.reduceGT, Int.reduceGE, Int.reduceEq, Int.reduceNe, Int.reduceToNat, List.take_zero, List.drop_zero, List.all_cons, List.all_nil, List.append_nil, List.length_append, List.length_set, List.append_assoc, List.drop_nil, List.take_nil, sb, sbr, e', fill, s.r, setAt, et8, s.res] <;> try simp -dsimp only [if_conj])
    exact hK1 e _ (s.fin hl _)
theorem one_t3 {g : Heap} {idb : Nat} {c1 d : Cur} {w : Bool} {k off fin : Nat} (hl : id < h.length) (hi : d.inv) (hf : fin < 1000000) (hlf : (hdR4 w k d).c.e = 0 → (hdR4 w k d).c.left ≤ fin) (s : RT h id idb c1 d [I k, Bo w, U 0, U 0, U 0, U off, U 0, U fin] g)
    (hK1 : (hdR4 w k d).c.e ≠ 0 → ∀ h', Grown h id h' id (rc c1) → K.K (.t [.g zRow, I (hdR4 w k d).c.e]) h')
    (hK0 : (hdR4 w k d).c.e = 0 → ∀ h', Grown h id h' id (rc c1) → K.K (.t [.g [I k, Bo w, U (hdR4 w k d).abbrev_, U (hdR4 w k d).sig, U (hdR4 w k d).type, U off, U (fin - (hdR4 w k d).c.left : Nat), U fin], I 0]) h') :
    ∀ st : St, st = ((sl st.1 0 :: sl st.1 1 :: .p h.length 0 :: sl st.1 3 :: .p (h.length + 1) 0 :: .p idb 0 :: sl st.1 6 :: I (lenW w) :: sl st.1 8 :: sl st.1 9 :: sl st.1 10 :: sl st.1 11 :: sl st.1 12 :: sl st.1 13 :: sl st.1 14 :: sl st.1 15 :: sl st.1 16 :: sl st.1 17 :: sl st.1 18 :: sl st.1 19 :: sl st.1 20 :: sl st.1 21 :: sl st.1 22 :: sl st.1 23 :: sl st.1 24 :: sl st.1 25 :: sl st.1 26 :: sl st.1 27 :: sl st.1 28 :: sl st.1 29 :: sl st.1 30 :: sl st.1 31 :: sl st.1 32 :: sl st.1 33 :: sl st.1 34 :: sl st.1 35 :: sl st.1 36 :: sl st.1 37 :: sl st.1 38 :: sl st.1 39 :: sl st.1 40 :: sl st.1 41 :: sl st.1 42 :: sl st.1 43 :: sl st.1 44 :: sl st.1 45 :: sl st.1 46 :: sl st.1 47 :: sl st.1 48 :: sl st.1 49 :: sl st.1 50 :: sl st.1 51 :: sl st.1 52 :: sl st.1 53 :: sl st.1 54 :: sl st.1 55 :: sl st.1 56 :: sl st.1 57 :: sl st.1 58 :: sl st.1 59 :: sl st.1 60 :: sl st.1 61 :: sl st.1 62 :: sl st.1 63 :: sl st.1 64 :: sl st.1 65 :: sl st.1 66 :: sl st.1 67 :: sl st.1 68 :: sl st.1 69 :: sl st.1 70 :: sl st.1 71 :: sl st.1 72 :: sl st.1 73 :: sl st.1 74 :: sl st.1 75 :: sl st.1 76 :: sl st.1 77 :: sl st.1 78 :: sl st.1 79 :: sl st.1 80 :: sl st.1 81 :: sl st.1 82 :: sl st.1 83 :: sl st.1 84 :: sl st.1 85 :: sl st.1 86 :: sl st.1 87 :: sl st.1 88 :: sl st.1 89 :: sl st.1 90 :: sl st.1 91 :: sl st.1 92 :: sl st.1 93 :: sl st.1 94 :: sl st.1 95 :: sl st.1 96 :: sl st.1 97 :: sl st.1 98 :: sl st.1 99 :: sl st.1 100 :: sl st.1 101 :: sl st.1 102 :: sl st.1 103 :: sl st.1 104 :: sl st.1 105 :: sl st.1 106 :: sl st.1 107 :: sl st.1 108 :: sl st.1 109 :: sl st.1 110 :: sl st.1 111 :: sl st.1 112 :: sl st.1 113 :: sl st.1 114 :: sl st.1 115 :: sl st.1 116 :: []), g) → awp X h.length c23_50 (retQ X Tryd.f23 K) st := by
  intro st hst
  rw [hst]
  have hwl : wid ((lenW w : Nat) : Int) = lenW w := wid_nat (by cases w <;> decide)
  (simp +contextual -dsimp only [R23, evA, evB, ↓a_on_t, ↓a_on_f, ↓a_on_und, ↓a_cond_b, ↓reduceIte, Go.Ab.part, List.getD_cons_zero, List.getD_cons_succ, List.set_cons_zero, List.set_cons_succ, List.length_cons, List.length_nil, List.cons_append, List.nil_append, cond_true, cond_false, Bool.cond_true, reduceCtorEq, Option.map_some, Option.map_none, forall_const, ne_eq, implies_true, Nat.reduceAdd, Nat.reduceLeDiff, Nat.reduceLT, Nat.beq, Option.isNone_none, beq_self_eq_true, bne_self_eq_false, Int.reduceBEq, Int.reduceBNe, Int.reduceLT, Int.reduceLE, Int.reduceGT, Int.reduceGE, Int.reduceEq, Int.reduceNe, Int.reduceToNat, List.take_zero, List.drop_zero, List.all_cons, List.all_nil, List.append_nil, List.length_append, List.length_set, List.append_assoc, List.drop_nil, List.take_nil] <;> try simp -dsimp only [if_conj])
  refine rUint_ok s.b hi ?_
  rw [hwl]
  have s1 := s.cur' hl (d.skip (lenW w))
  have i1 := hi.skip (lenW w)
  generalize g.set idb (rc (d.skip (lenW w))) = g1 at *
  have s2 := s1.st hl [I k, Bo w, U (le (d.got (lenW w))), U 0, U 0, U off, U 0, U fin]
  unfold hdR4 at hK1 hK0 hlf
  by_cases k2 : k = 2
  · rw [if_pos k2] at hK1 hK0 hlf
    have k2' : ((k : Int) == 2) = true := by simp [k2]
    (simp +contextual -dsimp only [R23, evA, evB, ↓a_on_t, ↓a_on_f, ↓a_on_und, ↓a_cond_b, ↓reduceIte, Go.Ab.part, List.getD_cons_zero, List.getD_cons_succ, List.set_cons_zero, List.set_cons_succ, List.length_cons, List.length_nil, List.cons_append, List.nil_append, cond_true, cond_false, Bool.cond_true, reduceCtorEq, Option.map_some, Option.map_none, forall_const, ne_eq, implies_true, Nat.reduceAdd, Nat.reduceLeDiff, Nat.reduceLT, Nat.beq, Option.isNone_none, beq_self_eq_true, bne_self_eq_false, Int.reduceBEq, Int.reduceBNe, Int.reduceLT, Int.reduceLE, Int.reduceGT, Int.reduceGE, Int.reduceEq, Int.reduceNe, Int.reduceToNat, List.take_zero, List.drop_zero, List.all_cons, List.all_nil, List.append_nil, List.length_append, List.length_set, List.append_assoc, List.drop_nil, List.take_nil, s1.v, setAt, s2.v, k2'] <;> try simp -dsimp only [if_conj])
    refine rUint_ok s2.b i1 ?_
    rw [show wid 8 = 8 from rfl]
    have s3 := s2.cur' hl ((d.skip (lenW w)).skip 8)
    have i2 := i1.skip 8
    generalize (g1.set (h.length + 1) (.o 1 [I k, Bo w, U (le (d.got (lenW w))), U 0, U 0, U off, U 0, U fin])).set idb (rc ((d.skip (lenW w)).skip 8)) = g3 at *
    have s4 := s3.st hl [I k, Bo w, U (le (d.got (lenW w))), U (le ((d.skip (lenW w)).got 8)), U 0, U off, U 0, U fin]
    (simp +contextual -dsimp only [R23, evA, evB, ↓a_on_t, ↓a_on_f, ↓a_on_und, ↓a_cond_b, ↓reduceIte, Go.Ab.part, List.getD_cons_zero, List.getD_cons_succ, List.set_cons_zero, List.set_cons_succ, List.length_cons, List.length_nil, List.cons_append, List.nil_append, cond_true, cond_false, Bool.cond_true, reduceCtorEq, Option.map_some, Option.map_none, forall_const, ne_eq, implies_true, Nat.reduceAdd, Nat.reduceLeDiff, Nat.reduceLT, Nat.beq, Option.isNone_none, beq_self_eq_true, bne_self_eq_false, Int.reduceBEq, Int.reduceBNe, Int.reduceLT, Int.reduceLE, Int.reduceGT, Int.reduceGE, Int.reduceEq, Int.reduceNe, Int.reduceToNat, List.take_zero, List.drop_zero, List.all_cons, List.all_nil, List.append_nil, List.length_append, List.length_set, List.append_assoc, List.drop_nil, List.take_nil, s3.v, setAt] <;> try simp -dsimp only [if_conj])
    refine rUint_ok s4.b i2 ?_
    rw [hwl]
    have s5 := s4.cur' hl (((d.skip (lenW w)).skip 8).skip (lenW w))
    have i3 := i2.skip (lenW w)
    generalize (g3.set (h.length + 1) (.o 1 [I k, Bo w, U (le (d.got (lenW w))), U (le ((d.skip (lenW w)).got 8)), U 0, U off, U 0, U fin])).set idb (rc (((d.skip (lenW w)).skip 8).skip (lenW w))) = g5 at *
    have s6 := s5.st hl [I k, Bo w, U (le (d.got (lenW w))), U (le ((d.skip (lenW w)).got 8)), U (le (((d.skip (lenW w)).skip 8).got (lenW w))), U off, U 0, U fin]
    (simp +contextual -dsimp only [evA, evB, ↓a_on_t, ↓a_on_f, ↓a_on_und, ↓a_cond_b, ↓reduceIte, Go.Ab.part, List.getD_cons_zero, List.getD_cons_succ, List.set_cons_zero, List.set_cons_succ, List.length_cons, List.length_nil, List.cons_append, List.nil_append, cond_true, cond_false, Bool.cond_true, reduceCtorEq, Option.map_some, Option.map_none, forall_const, ne_eq, implies_true, Nat.reduceAdd, Nat.reduceLeDiff, Nat.reduceLT, Nat.beq, Option.isNone_none, beq_self_eq_true, bne_self_eq_false, Int.reduceBEq, Int.reduceBNe, Int.reduceLT, Int.reduceLE, Int.reduceGT, Int.reduceGE, Int.reduceEq, Int.reduceNe, Int.reduceToNat, List.take_zero, List.drop_zero, List.all_cons, List.all_nil, List.append_nil, List.length_append, List.length_set, List.append_assoc, List.drop_nil, List.take_nil, s5.v, setAt] <;> try simp -dsimp only [if_conj])
    refine one_t5 hl i3 hf hlf s6 hK1 hK0 _ ?_
    rfl
  · rw [if_neg k2] at hK1 hK0 hlf
    have k2' : ((k : Int) == 2) = false := by simp; omega
    (simp +contextual -dsimp only [evA, evB, ↓a_on_t, ↓a_on_f, ↓a_on_und, ↓a_cond_b, ↓reduceIte, Go.Ab.part, List.getD_cons_zero, List.getD_cons_succ, List.set_cons_zero, List.set_cons_succ, List.length_cons, List.length_nil, List.cons_append, List.nil_append, cond_true, cond_false, Bool.cond_true, reduceCtorEq, Option.map_some, Option.map_none, forall_const, ne_eq, implies_true, Nat.reduceAdd, Nat.reduceLeDiff, Nat.reduceLT, Nat.beq, Option.isNone_none, beq_self_eq_true, bne_self_eq_false, Int.reduceBEq, Int.reduceBNe, Int.reduceLT, Int.reduceLE, Int.reduceGT, Int.reduceGE, Int.reduceEq, Int.reduceNe, Int.reduceToNat, List.take_zero, List.drop_zero, List.all_cons, List.all_nil, List.append_nil, List.length_append, List.length_set, List.append_assoc, List.drop_nil, List.take_nil, w23_52, w23_53, w23_54, w23_55, w23_59, s1.v, setAt, s2.v, k2'] <;> try simp -dsimp only [if_conj])
    refine one_t5 hl i1 hf hlf s2 hK1 hK0 _ ?_
    rfl
/-- what the document's answer is, told as it goes -/
abbrev ansU (w : Bool) (off fin : Nat) (r : HdR) : AV := .t [.g [I r.kind, Bo w, U r.abbrev_, U r.sig, U r.type, U off, U (fin - r.c.left : Nat), U fin], I 0]
theorem hdR4_kind (w : Bool) (k : Nat) (d : Cur) : (hdR4 w k d).kind = k := by unfold hdR4; split <;> rfl
theorem one_t2 {g : Heap} {idb : Nat} {c1 d : Cur} {w : Bool} {k off fin : Nat} (hl : id < h.length) (hi : d.inv) (hf : fin < 1000000) (hlf : (hdR3 w k d).c.e = 0 → (hdR3 w k d).c.left ≤ fin) (s : RT h id idb c1 d [I k, Bo w, U 0, U 0, U 0, U off, U 0, U fin] g)
    (hK1 : (hdR3 w k d).c.e ≠ 0 → ∀ h', Grown h id h' id (rc c1) → K.K (.t [.g zRow, I (hdR3 w k d).c.e]) h')
    (hK0 : (hdR3 w k d).c.e = 0 → ∀ h', Grown h id h' id (rc c1) → K.K (ansU w off fin (hdR3 w k d)) h') :
    ∀ st : St, st = ((sl st.1 0 :: sl st.1 1 :: .p h.length 0 :: sl st.1 3 :: .p (h.length + 1) 0 :: .p idb 0 :: sl st.1 6 :: I (lenW w) :: sl st.1 8 :: sl st.1 9 :: sl st.1 10 :: sl st.1 11 :: sl st.1 12 :: sl st.1 13 :: sl st.1 14 :: sl st.1 15 :: sl st.1 16 :: sl st.1 17 :: sl st.1 18 :: sl st.1 19 :: sl st.1 20 :: sl st.1 21 :: sl st.1 22 :: sl st.1 23 :: sl st.1 24 :: sl st.1 25 :: sl st.1 26 :: sl st.1 27 :: sl st.1 28 :: sl st.1 29 :: sl st.1 30 :: sl st.1 31 :: sl st.1 32 :: sl st.1 33 :: sl st.1 34 :: sl st.1 35 :: sl st.1 36 :: sl st.1 37 :: sl st.1 38 :: sl st.1 39 :: sl st.1 40 :: sl st.1 41 :: sl st.1 42 :: sl st.1 43 :: sl st.1 44 :: sl st.1 45 :: sl st.1 46 :: sl st.1 47 :: sl st.1 48 :: sl st.1 49 :: sl st.1 50 :: sl st.1 51 :: sl st.1 52 :: sl st.1 53 :: sl st.1 54 :: sl st.1 55 :: sl st.1 56 :: sl st.1 57 :: sl st.1 58 :: sl st.1 59 :: sl st.1 60 :: sl st.1 61 :: sl st.1 62 :: sl st.1 63 :: sl st.1 64 :: sl st.1 65 :: sl st.1 66 :: sl st.1 67 :: sl st.1 68 :: sl st.1 69 :: sl st.1 70 :: sl st.1 71 :: sl st.1 72 :: sl st.1 73 :: sl st.1 74 :: sl st.1 75 :: sl st.1 76 :: sl st.1 77 :: sl st.1 78 :: sl st.1 79 :: sl st.1 80 :: sl st.1 81 :: sl st.1 82 :: sl st.1 83 :: sl st.1 84 :: sl st.1 85 :: sl st.1 86 :: sl st.1 87 :: sl st.1 88 :: sl st.1 89 :: sl st.1 90 :: sl st.1 91 :: sl st.1 92 :: sl st.1 93 :: sl st.1 94 :: sl st.1 95 :: sl st.1 96 :: sl st.1 97 :: sl st.1 98 :: sl st.1 99 :: sl st.1 100 :: sl st.1 101 :: sl st.1 102 :: sl st.1 103 :: sl st.1 104 :: sl st.1 105 :: sl st.1 106 :: sl st.1 107 :: sl st.1 108 :: sl st.1 109 :: sl st.1 110 :: sl st.1 111 :: sl st.1 112 :: sl st.1 113 :: sl st.1 114 :: sl st.1 115 :: sl st.1 116 :: []), g) → awp X h.length c23_40 (retQ X Tryd.f23 K) st := by
  intro st hst
  rw [hst]
  (simp +contextual -dsimp only [evA, evB, ↓a_on_t, ↓a_on_f, ↓a_on_und, ↓a_cond_b, ↓reduceIte, Go.Ab.part, List.getD_cons_zero, List.getD_cons_succ, List.set_cons_zero, List.set_cons_succ, List.length_cons, List.length_nil, List.cons_append, List.nil_append, cond_true, cond_false, Bool.cond_true, reduceCtorEq, Option.map_some, Option.map_none, forall_const, ne_eq, implies_true, Nat.reduceAdd, Nat.reduceLeDiff, Nat.reduceLT, Nat.beq, Option.isNone_none, beq_self_eq_true, bne_self_eq_false, Int.reduceBEq, Int.reduceBNe, Int.reduceLT, Int.reduceLE, Int.reduceGT, Int.reduceGE, Int.reduceEq, Int.reduceNe, Int.reduceToNat, List.take_zero, List.drop_zero, List.all_cons, List.all_nil, List.append_nil, List.length_append, List.length_set, List.append_assoc, List.drop_nil, List.take_nil, w23_40, w23_41] <;> try simp -dsimp only [if_conj])
  refine rUint_ok s.b hi ?_
  rw [show wid 1 = 1 from rfl]
  have s1 := s.cur' hl (d.skip 1)
  have i1 := hi.skip 1
  have rcc : ∀ c : Cur, rc c = .o 1 [.z (byt c.b) c.b.length, I c.p, I c.e] := fun _ => rfl
  unfold hdR3 at hK1 hK0 hlf
  generalize g.set idb (rc (d.skip 1)) = g1 at *
  have sb := s1.b
  rw [rcc] at sb
  by_cases hb : (d.skip 1).e = 0 ∧ (le (d.got 1) != 8) = true
  · rw [hb.2] at hK1
    have e42 := failIf_42 hb.1
    have e1 : ((d.skip 1).e == 0) = true := by simp [hb.1]
    have e2 : (((le (d.got 1) : Nat) : Int) != 8) = true := by have := hb.2; simp at this ⊢; omega
    rw [hdR4_sticky (by omega), e42] at hK1
    (simp +contextual -dsimp only [R23, evA, evB, ↓a_on_t, ↓a_on_f, ↓a_on_und, ↓a_cond_b, ↓reduceIte, Go.Ab.part, List.getD_cons_zero, List.getD_cons_succ, List.set_cons_zero, List.set_cons_succ, List.length_cons, List.length_nil, List.cons_append, List.nil_append, cond_true, cond_false, Bool.cond_true, reduceCtorEq, Option.map_some, Option.map_none, forall_const, ne_eq, implies_true, Nat.reduceAdd, Nat.reduceLeDiff, Nat.reduceLT, Nat.beq, Option.isNone_none, beq_self_eq_true, bne_self_eq_false, Int.reduceBEq, Int.reduceBNe, Int.reduceLT, Int.reduceLE, Int.reduceGT, Int.reduceGE, Int.reduceEq, Int.reduceNe, Int.reduceToNat, List.take_zero, List.drop_zero, List.all_cons, List.all_nil, List.append_nil, List.length_append, List.length_set, List.append_assoc, List.drop_nil, List.take_nil, sb, e1, e2, fill, s1.r, setAt, et8, s1.res] <;> try simp -dsimp only [if_conj])
    exact hK1 (by decide) _ (s1.fin hl _)
  · rw [failIf_no hb] at hK1 hK0 hlf
    simp only [ansU, hdR4_kind] at hK0
    by_cases e : (d.skip 1).e = 0
    · have e1 : ((d.skip 1).e == 0) = true := by simp [e]
      have e2 : (((le (d.got 1) : Nat) : Int) != 8) = false := by
        cases hq : (le (d.got 1) != 8) with
        | true => exact absurd ⟨e, hq⟩ hb
        | false => simp at hq ⊢; omega
      (simp +contextual -dsimp only [evA, evB, ↓a_on_t, ↓a_on_f, ↓a_on_und, ↓a_cond_b, ↓reduceIte, Go.Ab.part, List.getD_cons_zero, List.getD_cons_succ, List.set_cons_zero, List.set_cons_succ, List.length_cons, List.length_nil, List.cons_append, List.nil_append, cond_true, cond_false, Bool.cond_true, reduceCtorEq, Option.map_some, Option.map_none, forall_const, ne_eq, implies_true, Nat.reduceAdd, Nat.reduceLeDiff, Nat.reduceLT, Nat.beq, Option.isNone_none, beq_self_eq_true, bne_self_eq_false, Int.reduceBEq, Int.reduceBNe, Int.reduceLT, Int.reduceLE, Int.reduceGT, Int.reduceGE, Int.reduceEq, Int.reduceNe, Int.reduceToNat, List.take_zero, List.drop_zero, List.all_cons, List.all_nil, List.append_nil, List.length_append, List.length_set, List.append_assoc, List.drop_nil, List.take_nil, w23_42, w23_43, w23_44, w23_45, w23_49, sb, e1, e2] <;> try simp -dsimp only [if_conj])
      refine one_t3 hl i1 hf hlf s1 hK1 hK0 _ ?_
      rfl
    · have e1 : ((d.skip 1).e == 0) = false := by simp [e]
      (simp +contextual -dsimp only [evA, evB, ↓a_on_t, ↓a_on_f, ↓a_on_und, ↓a_cond_b, ↓reduceIte, Go.Ab.part, List.getD_cons_zero, List.getD_cons_succ, List.set_cons_zero, List.set_cons_succ, List.length_cons, List.length_nil, List.cons_append, List.nil_append, cond_true, cond_false, Bool.cond_true, reduceCtorEq, Option.map_some, Option.map_none, forall_const, ne_eq, implies_true, Nat.reduceAdd, Nat.reduceLeDiff, Nat.reduceLT, Nat.beq, Option.isNone_none, beq_self_eq_true, bne_self_eq_false, Int.reduceBEq, Int.reduceBNe, Int.reduceLT, Int.reduceLE, Int.reduceGT, Int.reduceGE, Int.reduceEq, Int.reduceNe, Int.reduceToNat, List.take_zero, List.drop_zero, List.all_cons, List.all_nil, List.append_nil, List.length_append, List.length_set, List.append_assoc, List.drop_nil, List.take_nil, w23_42, w23_43, w23_44, w23_45, w23_49, sb, e1] <;> try simp -dsimp only [if_conj])
      refine one_t3 hl i1 hf hlf s1 hK1 hK0 _ ?_
      rfl
theorem one_t1 {g : Heap} {idb : Nat} {c1 d : Cur} {w : Bool} {off fin : Nat} (hl : id < h.length) (hi : d.inv) (hf : fin < 1000000) (hlf : (hdR2 w d).c.e = 0 → (hdR2 w d).c.left ≤ fin) (s : RT h id idb c1 d [I 0, Bo w, U 0, U 0, U 0, U off, U 0, U fin] g)
    (hK1 : (hdR2 w d).c.e ≠ 0 → ∀ h', Grown h id h' id (rc c1) → K.K (.t [.g zRow, I (hdR2 w d).c.e]) h')
    (hK0 : (hdR2 w d).c.e = 0 → ∀ h', Grown h id h' id (rc c1) → K.K (ansU w off fin (hdR2 w d)) h') :
    ∀ st : St, st = ((sl st.1 0 :: sl st.1 1 :: .p h.length 0 :: sl st.1 3 :: .p (h.length + 1) 0 :: .p idb 0 :: sl st.1 6 :: I (lenW w) :: sl st.1 8 :: sl st.1 9 :: sl st.1 10 :: sl st.1 11 :: sl st.1 12 :: sl st.1 13 :: sl st.1 14 :: sl st.1 15 :: sl st.1 16 :: sl st.1 17 :: sl st.1 18 :: sl st.1 19 :: sl st.1 20 :: sl st.1 21 :: sl st.1 22 :: sl st.1 23 :: sl st.1 24 :: sl st.1 25 :: sl st.1 26 :: sl st.1 27 :: sl st.1 28 :: sl st.1 29 :: sl st.1 30 :: sl st.1 31 :: sl st.1 32 :: sl st.1 33 :: sl st.1 34 :: sl st.1 35 :: sl st.1 36 :: sl st.1 37 :: sl st.1 38 :: sl st.1 39 :: sl st.1 40 :: sl st.1 41 :: sl st.1 42 :: sl st.1 43 :: sl st.1 44 :: sl st.1 45 :: sl st.1 46 :: sl st.1 47 :: sl st.1 48 :: sl st.1 49 :: sl st.1 50 :: sl st.1 51 :: sl st.1 52 :: sl st.1 53 :: sl st.1 54 :: sl st.1 55 :: sl st.1 56 :: sl st.1 57 :: sl st.1 58 :: sl st.1 59 :: sl st.1 60 :: sl st.1 61 :: sl st.1 62 :: sl st.1 63 :: sl st.1 64 :: sl st.1 65 :: sl st.1 66 :: sl st.1 67 :: sl st.1 68 :: sl st.1 69 :: sl st.1 70 :: sl st.1 71 :: sl st.1 72 :: sl st.1 73 :: sl st.1 74 :: sl st.1 75 :: sl st.1 76 :: sl st.1 77 :: sl st.1 78 :: sl st.1 79 :: sl st.1 80 :: sl st.1 81 :: sl st.1 82 :: sl st.1 83 :: sl st.1 84 :: sl st.1 85 :: sl st.1 86 :: sl st.1 87 :: sl st.1 88 :: sl st.1 89 :: sl st.1 90 :: sl st.1 91 :: sl st.1 92 :: sl st.1 93 :: sl st.1 94 :: sl st.1 95 :: sl st.1 96 :: sl st.1 97 :: sl st.1 98 :: sl st.1 99 :: sl st.1 100 :: sl st.1 101 :: sl st.1 102 :: sl st.1 103 :: sl st.1 104 :: sl st.1 105 :: sl st.1 106 :: sl st.1 107 :: sl st.1 108 :: sl st.1 109 :: sl st.1 110 :: sl st.1 111 :: sl st.1 112 :: sl st.1 113 :: sl st.1 114 :: sl st.1 115 :: sl st.1 116 :: []), g) → awp X h.length c23_30 (retQ X Tryd.f23 K) st := by
  intro st hst
  rw [hst]
  (simp +contextual -dsimp only [evA, evB, ↓a_on_t, ↓a_on_f, ↓a_on_und, ↓a_cond_b, ↓reduceIte, Go.Ab.part, List.getD_cons_zero, List.getD_cons_succ, List.set_cons_zero, List.set_cons_succ, List.length_cons, List.length_nil, List.cons_append, List.nil_append, cond_true, cond_false, Bool.cond_true, reduceCtorEq, Option.map_some, Option.map_none, forall_const, ne_eq, implies_true, Nat.reduceAdd, Nat.reduceLeDiff, Nat.reduceLT, Nat.beq, Option.isNone_none, beq_self_eq_true, bne_self_eq_false, Int.reduceBEq, Int.reduceBNe, Int.reduceLT, Int.reduceLE, Int.reduceGT, Int.reduceGE, Int.reduceEq, Int.reduceNe, Int.reduceToNat, List.take_zero, List.drop_zero, List.all_cons, List.all_nil, List.append_nil, List.length_append, List.length_set, List.append_assoc, List.drop_nil, List.take_nil, w23_30, w23_31] <;> try simp -dsimp only [if_conj])
  refine rUint_ok s.b hi ?_
  rw [show wid 1 = 1 from rfl]
  have s1 := s.cur' hl (d.skip 1)
  have i1 := hi.skip 1
  have hlt := le_got_lt d 1
  have rcc : ∀ c : Cur, rc c = .o 1 [.z (byt c.b) c.b.length, I c.p, I c.e] := fun _ => rfl
  unfold hdR2 at hK1 hK0 hlf
  generalize g.set idb (rc (d.skip 1)) = g1 at *
  generalize le (d.got 1) = k at *
  have hw : IntKind.i64.wrap (k : Int) = (k : Int) := wrap_i64 (by omega) (by omega)
  have s2 := s1.st hl [I k, Bo w, U 0, U 0, U 0, U off, U 0, U fin]
  (simp +contextual -dsimp only [evA, evB, ↓a_on_t, ↓a_on_f, ↓a_on_und, ↓a_cond_b, ↓reduceIte, Go.Ab.part, List.getD_cons_zero, List.getD_cons_succ, List.set_cons_zero, List.set_cons_succ, List.length_cons, List.length_nil, List.cons_append, List.nil_append, cond_true, cond_false, Bool.cond_true, reduceCtorEq, Option.map_some, Option.map_none, forall_const, ne_eq, implies_true, Nat.reduceAdd, Nat.reduceLeDiff, Nat.reduceLT, Nat.beq, Option.isNone_none, beq_self_eq_true, bne_self_eq_false, Int.reduceBEq, Int.reduceBNe, Int.reduceLT, Int.reduceLE, Int.reduceGT, Int.reduceGE, Int.reduceEq, Int.reduceNe, Int.reduceToNat, List.take_zero, List.drop_zero, List.all_cons, List.all_nil, List.append_nil, List.length_append, List.length_set, List.append_assoc, List.drop_nil, List.take_nil, s1.v, setAt, hw] <;> try simp -dsimp only [if_conj])
  generalize g1.set (h.length + 1) (.o 1 [I k, Bo w, U 0, U 0, U 0, U off, U 0, U fin]) = g2 at *
  have sb := s2.b
  rw [rcc] at sb
  rw [uSize_zero] at hK1 hK0 hlf
  by_cases hb : (d.skip 1).e = 0 ∧ decide (k < 1 ∨ k > 3) = true
  · rw [hb.2] at hK1
    have e42 := failIf_42 hb.1
    have e1 : ((d.skip 1).e == 0) = true := by simp [hb.1]
    have hk : k < 1 ∨ k > 3 := by simpa using hb.2
    rw [hdR3_sticky (by omega), e42] at hK1
    by_cases hk1 : k < 1
    · have e2 : decide ((k : Int) < 1) = true := by simp; omega
      (simp +contextual -dsimp only [R23, evA, evB, ↓a_on_t, ↓a_on_f, ↓a_on_und, ↓a_cond_b, ↓reduceIte, Go.Ab.part, List.getD_cons_zero, List.getD_cons_succ, List.set_cons_zero, List.set_cons_succ, List.length_cons, List.length_nil, List.cons_append, List.nil_append, cond_true, cond_false, Bool.cond_true, reduceCtorEq, Option.map_some, Option.map_none, forall_const, ne_eq, implies_true, Nat.reduceAdd, Nat.reduceLeDiff, Nat.reduceLT, Nat.beq, Option.isNone_none, beq_self_eq_true, bne_self_eq_false, Int.reduceBEq, Int.reduceBNe, Int.reduceLT, Int.reduceLE, Int.reduceGT, Int.reduceGE, Int.reduceEq, Int.reduceNe, Int.reduceToNat, List.take_zero, List.drop_zero, List.all_cons, List.all_nil, List.append_nil, List.length_append, List.length_set, List.append_assoc, List.drop_nil, List.take_nil, sb, s2.v, e1, e2, fill, s2.r, setAt, et8, s2.res] <;> try simp -dsimp only [if_conj])
      exact hK1 (by decide) _ (s2.fin hl _)
    · have e2 : decide ((k : Int) < 1) = false := by simp; omega
      have e3 : decide ((k : Int) > 3) = true := by simp; omega
      (simp +contextual -dsimp only [R23, evA, evB, ↓a_on_t, ↓a_on_f, ↓a_on_und, ↓a_cond_b, ↓reduceIte, Go.Ab.part, List.getD_cons_zero, List.getD_cons_succ, List.set_cons_zero, List.set_cons_succ, List.length_cons, List.length_nil, List.cons_append, List.nil_append, cond_true, cond_false, Bool.cond_true, reduceCtorEq, Option.map_some, Option.map_none, forall_const, ne_eq, implies_true, Nat.reduceAdd, Nat.reduceLeDiff, Nat.reduceLT, Nat.beq, Option.isNone_none, beq_self_eq_true, bne_self_eq_false, Int.reduceBEq, Int.reduceBNe, Int.reduceLT, Int.reduceLE, Int.reduceGT, Int.reduceGE, Int.reduceEq, Int.reduceNe, Int.reduceToNat, List.take_zero, List.drop_zero, List.all_cons, List.all_nil, List.append_nil, List.length_append, List.length_set, List.append_assoc, List.drop_nil, List.take_nil, sb, s2.v, e1, e2, e3, fill, s2.r, setAt, et8, s2.res] <;> try simp -dsimp only [if_conj])
      exact hK1 (by decide) _ (s2.fin hl _)
  · rw [failIf_no hb] at hK1 hK0 hlf
    by_cases e : (d.skip 1).e = 0
    · have e1 : ((d.skip 1).e == 0) = true := by simp [e]
      have hk : ¬ (k < 1 ∨ k > 3) := fun h => hb ⟨e, decide_eq_true h⟩
      have e2 : decide ((k : Int) < 1) = false := by simp; omega
      have e3 : decide ((k : Int) > 3) = false := by simp; omega
      (simp +contextual -dsimp only [evA, evB, ↓a_on_t, ↓a_on_f, ↓a_on_und, ↓a_cond_b, ↓reduceIte, Go.Ab.part, List.getD_cons_zero, List.getD_cons_succ, List.set_cons_zero, List.set_cons_succ, List.length_cons, List.length_nil, List.cons_append, List.nil_append, cond_true, cond_false, Bool.cond_true, reduceCtorEq, Option.map_some, Option.map_none, forall_const, ne_eq, implies_true, Nat.reduceAdd, Nat.reduceLeDiff, Nat.reduceLT, Nat.beq, Option.isNone_none, beq_self_eq_true, bne_self_eq_false, Int.reduceBEq, Int.reduceBNe, Int.reduceLT, Int.reduceLE, Int.reduceGT, Int.reduceGE, Int.reduceEq, Int.reduceNe, Int.reduceToNat, List.take_zero, List.drop_zero, List.all_cons, List.all_nil, List.append_nil, List.length_append, List.length_set, List.append_assoc, List.drop_nil, List.take_nil, w23_32, w23_33, w23_34, w23_35, w23_39, sb, s2.v, e1, e2, e3] <;> try simp -dsimp only [if_conj])
      refine one_t2 hl i1 hf hlf s2 hK1 hK0 _ ?_
      rfl
    · have e1 : ((d.skip 1).e == 0) = false := by simp [e]
      (simp +contextual -dsimp only [evA, evB, ↓a_on_t, ↓a_on_f, ↓a_on_und, ↓a_cond_b, ↓reduceIte, Go.Ab.part, List.getD_cons_zero, List.getD_cons_succ, List.set_cons_zero, List.set_cons_succ, List.length_cons, List.length_nil, List.cons_append, List.nil_append, cond_true, cond_false, Bool.cond_true, reduceCtorEq, Option.map_some, Option.map_none, forall_const, ne_eq, implies_true, Nat.reduceAdd, Nat.reduceLeDiff, Nat.reduceLT, Nat.beq, Option.isNone_none, beq_self_eq_true, bne_self_eq_false, Int.reduceBEq, Int.reduceBNe, Int.reduceLT, Int.reduceLE, Int.reduceGT, Int.reduceGE, Int.reduceEq, Int.reduceNe, Int.reduceToNat, List.take_zero, List.drop_zero, List.all_cons, List.all_nil, List.append_nil, List.length_append, List.length_set, List.append_assoc, List.drop_nil, List.take_nil, w23_32, w23_33, w23_34, w23_35, w23_39, sb, s2.v, e1] <;> try simp -dsimp only [if_conj])
      refine one_t2 hl i1 hf hlf s2 hK1 hK0 _ ?_
      rfl
theorem one_ok (hid : h.getD id .dead = rc c) (hi : c.inv) (hb : c.b.length ≤ 300000) (hK : ∀ h', Grown h id h' id (rc (oneU c).2.2) → K.K (.t [.g (oneU c).1.row, I (oneU c).2.1]) h') : ACall X 23 [.p id 0] h K := by
  have hbig : (6000000 : Nat) ≤ bigRoom := by decide
  have hl := hlt hid (rc_ne c)
  have hip := hi.p
  have rcc : ∀ c : Cur, rc c = .o 1 [.z (byt c.b) c.b.length, I c.p, I c.e] := fun _ => rfl
  have hid' := hid
  rw [rcc] at hid'
  have hu : IntKind.u64.wrap (c.p : Int) = (c.p : Int) := wrap_u64 (by omega) (by omega)
  apply i23
  have g0 : ∀ o p : AO, (h ++ [o, p]).getD id .dead = rc c := fun o p => hget_app hid (rc_ne _)
  have g0' : ∀ o, (h ++ [o]).getD id .dead = .o 1 [.z (byt c.b) c.b.length, I c.p, I c.e] := fun o => hget_app hid' (by simp)
  (simp +contextual -dsimp only [R23, evA, evB, ↓a_on_t, ↓a_on_f, ↓a_on_und, ↓a_cond_b, ↓reduceIte, Go.Ab.part, List.getD_cons_zero, List.getD_cons_succ, List.set_cons_zero, List.set_cons_succ, List.length_cons, List.length_nil, List.cons_append, List.nil_append, cond_true, cond_false, Bool.cond_true, reduceCtorEq, Option.map_some, Option.map_none, forall_const, ne_eq, implies_true, Nat.reduceAdd, Nat.reduceLeDiff, Nat.reduceLT, Nat.beq, Option.isNone_none, beq_self_eq_true, bne_self_eq_false, Int.reduceBEq, Int.reduceBNe, Int.reduceLT, Int.reduceLE, Int.reduceGT, Int.reduceGE, Int.reduceEq, Int.reduceNe, Int.reduceToNat, List.take_zero, List.drop_zero, List.all_cons, List.all_nil, List.append_nil, List.length_append, List.length_set, List.append_assoc, List.drop_nil, List.take_nil, g0', hu, hget_new, hset_new, hget_new1, hset_new1, setAt, fill] <;> try simp -dsimp only [if_conj])
  refine rBody_ok (g0 _ _) hi (by omega) fun h1 idb ad nb gb => ?_
  have s0 : RT h id idb c.bd.2.1 c.bd.2.2 [I 0, Bo false, U 0, U 0, U 0, U c.p, U 0, U 0] h1 := by
    have hg : ∀ j o, o ≠ .dead → ((h ++ [AO.o 1 [I 0, Bo false, U 0, U 0, U 0, U 0, U 0, U 0], AO.o 1 [I 0, Bo false, U 0, U 0, U 0, U c.p, U 0, U 0]]).set id (rc c.bd.2.1)).getD j .dead = o → h1.getD j .dead = o := fun j o hd e => ad.get e hd
    have hlen := ad.len
    simp only [List.length_set, List.length_append, List.length_cons, List.length_nil] at hlen nb
    refine ⟨by omega, fun j h1 h2 => ?_, hg _ _ (rc_ne _) (hget_set (by simp; omega)), gb, by omega, hg _ _ (by simp) (by rw [hget_set_ne (by omega)]; exact hget_new), hg _ _ (by simp) (by rw [hget_set_ne (by omega)]; exact hget_new1)⟩
    rw [ad.at (by simp; omega), hget_set_ne (Ne.symm h2), Adds.mk.at h1]
  have hbi := bd2_inv hi
  have hbp := (bd_inv hi).p
  have hbb : c.bd.2.1.b = c.b := by show (c.tk.2.2.skip c.tk.1).b = c.b; rw [skip_b, c.tk_b]
  rw [hbb] at hbp
  have sb := s0.b
  rw [rcc] at sb
  have hfirst := first_at hi
  unfold oneU at hK
  by_cases e : c.bd.2.2.e = 0
  · have e' : (c.bd.2.2.e != 0) = false := by simp [e]
    rw [if_neg (by simp [e])] at hK
    have hfirst := hfirst e
    have hu2 : IntKind.u64.wrap (c.bd.2.1.p : Int) = (c.bd.2.1.p : Int) := wrap_u64 (by omega) (by omega)
    generalize c.bd.1 = w at *
    have s1 := s0.st hl [I 0, Bo w, U 0, U 0, U 0, U c.p, U 0, U 0]
    have s1c := s1.c
    rw [rcc] at s1c
    have s2 := s1.st hl [I 0, Bo w, U 0, U 0, U 0, U c.p, U 0, U c.bd.2.1.p]
    (simp +contextual -dsimp only [R23, evA, evB, ↓a_on_t, ↓a_on_f, ↓a_on_und, ↓a_cond_b, ↓reduceIte, Go.Ab.part, List.getD_cons_zero, List.getD_cons_succ, List.set_cons_zero, List.set_cons_succ, List.length_cons, List.length_nil, List.cons_append, List.nil_append, cond_true, cond_false, Bool.cond_true, reduceCtorEq, Option.map_some, Option.map_none, forall_const, ne_eq, implies_true, Nat.reduceAdd, Nat.reduceLeDiff, Nat.reduceLT, Nat.beq, Option.isNone_none, beq_self_eq_true, bne_self_eq_false, Int.reduceBEq, Int.reduceBNe, Int.reduceLT, Int.reduceLE, Int.reduceGT, Int.reduceGE, Int.reduceEq, Int.reduceNe, Int.reduceToNat, List.take_zero, List.drop_zero, List.all_cons, List.all_nil, List.append_nil, List.length_append, List.length_set, List.append_assoc, List.drop_nil, List.take_nil, sb, e', s0.v, setAt, s1.v, s1c, hu2] <;> try simp -dsimp only [if_conj])
    refine rOff_ok ?_
    generalize (h1.set (h.length + 1) (.o 1 [I 0, Bo w, U 0, U 0, U 0, U c.p, U 0, U 0])).set (h.length + 1) (.o 1 [I 0, Bo w, U 0, U 0, U 0, U c.p, U 0, U c.bd.2.1.p]) = g2 at *
    (simp +contextual -dsimp only [R23, evA, evB, ↓a_on_t, ↓a_on_f, ↓a_on_und, ↓a_cond_b, ↓reduceIte, Go.Ab.part, List.getD_cons_zero, List.getD_cons_succ, List.set_cons_zero, List.set_cons_succ, List.length_cons, List.length_nil, List.cons_append, List.nil_append, cond_true, cond_false, Bool.cond_true, reduceCtorEq, Option.map_some, Option.map_none, forall_const, ne_eq, implies_true, Nat.reduceAdd, Nat.reduceLeDiff, Nat.reduceLT, Nat.beq, Option.isNone_none, beq_self_eq_true, bne_self_eq_false, Int.reduceBEq, Int.reduceBNe, Int.reduceLT, Int.reduceLE, Int.reduceGT, Int.reduceGE, Int.reduceEq, Int.reduceNe, Int.reduceToNat, List.take_zero, List.drop_zero, List.all_cons, List.all_nil, List.append_nil, List.length_append, List.length_set, List.append_assoc, List.drop_nil, List.take_nil] <;> try simp -dsimp only [if_conj])
    refine rUint_ok s2.b hbi ?_
    rw [show wid 2 = 2 from rfl]
    have s3 := s2.cur' hl (c.bd.2.2.skip 2)
    have i3 := hbi.skip 2
    generalize g2.set idb (rc (c.bd.2.2.skip 2)) = g3 at *
    have sb3 := s3.b
    rw [rcc] at sb3
    unfold hdRead at hK hfirst
    have hf : c.bd.2.1.p < 1000000 := by omega
    by_cases hv : (c.bd.2.2.skip 2).e = 0 ∧ (le (c.bd.2.2.got 2) != 5) = true
    · rw [hv.2] at hK
      have e42 := failIf_42 hv.1
      have e1 : ((c.bd.2.2.skip 2).e == 0) = true := by simp [hv.1]
      have e2 : (((le (c.bd.2.2.got 2) : Nat) : Int) != 5) = true := by have := hv.2; simp at this ⊢; omega
      rw [if_pos (by rw [hdR2_sticky (by omega), e42]; decide)] at hK
      rw [hdR2_sticky (by omega), e42] at hK
      (simp +contextual -dsimp only [R23, evA, evB, ↓a_on_t, ↓a_on_f, ↓a_on_und, ↓a_cond_b, ↓reduceIte, Go.Ab.part, List.getD_cons_zero, List.getD_cons_succ, List.set_cons_zero, List.set_cons_succ, List.length_cons, List.length_nil, List.cons_append, List.nil_append, cond_true, cond_false, Bool.cond_true, reduceCtorEq, Option.map_some, Option.map_none, forall_const, ne_eq, implies_true, Nat.reduceAdd, Nat.reduceLeDiff, Nat.reduceLT, Nat.beq, Option.isNone_none, beq_self_eq_true, bne_self_eq_false, Int.reduceBEq, Int.reduceBNe, Int.reduceLT, Int.reduceLE, Int.reduceGT, Int.reduceGE, Int.reduceEq, Int.reduceNe, Int.reduceToNat, List.take_zero, List.drop_zero, List.all_cons, List.all_nil, List.append_nil, List.length_append, List.length_set, List.append_assoc, List.drop_nil, List.take_nil, sb3, e1, e2, fill, s3.r, setAt, et8, s3.res] <;> try simp -dsimp only [if_conj])
      exact hK _ (s3.fin hl _)
    · rw [failIf_no hv] at hK hfirst
      have fin : ∀ st : St, st = ((sl st.1 0 :: sl st.1 1 :: .p h.length 0 :: sl st.1 3 :: .p (h.length + 1) 0 :: .p idb 0 :: sl st.1 6 :: I (lenW w) :: sl st.1 8 :: sl st.1 9 :: sl st.1 10 :: sl st.1 11 :: sl st.1 12 :: sl st.1 13 :: sl st.1 14 :: sl st.1 15 :: sl st.1 16 :: sl st.1 17 :: sl st.1 18 :: sl st.1 19 :: sl st.1 20 :: sl st.1 21 :: sl st.1 22 :: sl st.1 23 :: sl st.1 24 :: sl st.1 25 :: sl st.1 26 :: sl st.1 27 :: sl st.1 28 :: sl st.1 29 :: sl st.1 30 :: sl st.1 31 :: sl st.1 32 :: sl st.1 33 :: sl st.1 34 :: sl st.1 35 :: sl st.1 36 :: sl st.1 37 :: sl st.1 38 :: sl st.1 39 :: sl st.1 40 :: sl st.1 41 :: sl st.1 42 :: sl st.1 43 :: sl st.1 44 :: sl st.1 45 :: sl st.1 46 :: sl st.1 47 :: sl st.1 48 :: sl st.1 49 :: sl st.1 50 :: sl st.1 51 :: sl st.1 52 :: sl st.1 53 :: sl st.1 54 :: sl st.1 55 :: sl st.1 56 :: sl st.1 57 :: sl st.1 58 :: sl st.1 59 :: sl st.1 60 :: sl st.1 61 :: sl st.1 62 :: sl st.1 63 :: sl st.1 64 :: sl st.1 65 :: sl st.1 66 :: sl st.1 67 :: sl st.1 68 :: sl st.1 69 :: sl st.1 70 :: sl st.1 71 :: sl st.1 72 :: sl st.1 73 :: sl st.1 74 :: sl st.1 75 :: sl st.1 76 :: sl st.1 77 :: sl st.1 78 :: sl st.1 79 :: sl st.1 80 :: sl st.1 81 :: sl st.1 82 :: sl st.1 83 :: sl st.1 84 :: sl st.1 85 :: sl st.1 86 :: sl st.1 87 :: sl st.1 88 :: sl st.1 89 :: sl st.1 90 :: sl st.1 91 :: sl st.1 92 :: sl st.1 93 :: sl st.1 94 :: sl st.1 95 :: sl st.1 96 :: sl st.1 97 :: sl st.1 98 :: sl st.1 99 :: sl st.1 100 :: sl st.1 101 :: sl st.1 102 :: sl st.1 103 :: sl st.1 104 :: sl st.1 105 :: sl st.1 106 :: sl st.1 107 :: sl st.1 108 :: sl st.1 109 :: sl st.1 110 :: sl st.1 111 :: sl st.1 112 :: sl st.1 113 :: sl st.1 114 :: sl st.1 115 :: sl st.1 116 :: []), g3) → awp X h.length c23_30 (retQ X Tryd.f23 K) st := by
        refine one_t1 hl i3 hf (fun e0 => (hfirst e0).1) s3 (fun e0 h' gr => ?_) (fun e0 h' gr => ?_)
        · rw [if_pos e0] at hK; exact hK h' gr
        · rw [if_neg (not_not_intro e0)] at hK
          have := hK h' gr
          simp only [ansU]
          rw [(hfirst e0).2]; exact this
      by_cases e5 : (c.bd.2.2.skip 2).e = 0
      · have e1 : ((c.bd.2.2.skip 2).e == 0) = true := by simp [e5]
        have e2 : (((le (c.bd.2.2.got 2) : Nat) : Int) != 5) = false := by
          cases hq : (le (c.bd.2.2.got 2) != 5) with
          | true => exact absurd ⟨e5, hq⟩ hv
          | false => simp at hq ⊢; omega
        (simp +contextual -dsimp only [evA, evB, ↓a_on_t, ↓a_on_f, ↓a_on_und, ↓a_cond_b, ↓reduceIte, Go.Ab.part, List.getD_cons_zero, List.getD_cons_succ, List.set_cons_zero, List.set_cons_succ, List.length_cons, List.length_nil, List.cons_append, List.nil_append, cond_true, cond_false, Bool.cond_true, reduceCtorEq, Option.map_some, Option.map_none, forall_const, ne_eq, implies_true, Nat.reduceAdd, Nat.reduceLeDiff, Nat.reduceLT, Nat.beq, Option.isNone_none, beq_self_eq_true, bne_self_eq_false, Int.reduceBEq, Int.reduceBNe, Int.reduceLT, Int.reduceLE, Int.reduceGT, Int.reduceGE, Int.reduceEq, Int.reduceNe, Int.reduceToNat, List.take_zero, List.drop_zero, List.all_cons, List.all_nil, List.append_nil, List.length_append, List.length_set, List.append_assoc, List.drop_nil, List.take_nil, w23_22, w23_23, w23_24, w23_25, w23_29, sb3, e1, e2] <;> try simp -dsimp only [if_conj])
        refine fin _ ?_
        rfl
      · have e1 : ((c.bd.2.2.skip 2).e == 0) = false := by simp [e5]
        (simp +contextual -dsimp only [evA, evB, ↓a_on_t, ↓a_on_f, ↓a_on_und, ↓a_cond_b, ↓reduceIte, Go.Ab.part, List.getD_cons_zero, List.getD_cons_succ, List.set_cons_zero, List.set_cons_succ, List.length_cons, List.length_nil, List.cons_append, List.nil_append, cond_true, cond_false, Bool.cond_true, reduceCtorEq, Option.map_some, Option.map_none, forall_const, ne_eq, implies_true, Nat.reduceAdd, Nat.reduceLeDiff, Nat.reduceLT, Nat.beq, Option.isNone_none, beq_self_eq_true, bne_self_eq_false, Int.reduceBEq, Int.reduceBNe, Int.reduceLT, Int.reduceLE, Int.reduceGT, Int.reduceGE, Int.reduceEq, Int.reduceNe, Int.reduceToNat, List.take_zero, List.drop_zero, List.all_cons, List.all_nil, List.append_nil, List.length_append, List.length_set, List.append_assoc, List.drop_nil, List.take_nil, w23_22, w23_23, w23_24, w23_25, w23_29, sb3, e1] <;> try simp -dsimp only [if_conj])
        refine fin _ ?_
        rfl
  · have e' : (c.bd.2.2.e != 0) = true := by simp [e]
    rw [if_pos e] at hK
    have sbr : ∀ o, (h1.set h.length o).getD idb .dead = .o 1 [.z (byt c.bd.2.2.b) c.bd.2.2.b.length, I c.bd.2.2.p, I c.bd.2.2.e] := fun o => by rw [hget_set_ne (by have := s0.ib; omega)]; exact sb
    (simp +contextual -dsimp only [R23, evA, evB, ↓a_on_t, ↓a_on_f, ↓a_on_und, ↓a_cond_b, ↓reduceIte, Go.Ab.part, List.getD_cons_zero, List.getD_cons_succ, List.set_cons_zero, List.set_cons_succ, List.length_cons, List.length_nil, List.cons_append, List.nil_append, cond_true, cond_false, Bool.cond_true, reduceCtorEq, Option.map_some, Option.map_none, forall_const, ne_eq, implies_true, Nat.reduceAdd, Nat.reduceLeDiff, Nat.reduceLT, Nat.beq, Option.isNone_none, beq_self_eq_true, bne_self_eq_false, Int.reduceBEq, Int.reduceBNe, Int.reduceLT, Int.reduceLE, Int.reduceGT, Int.reduceGE, Int.reduceEq, Int.reduceNe, Int.reduceToNat, List.take_zero, List.drop_zero, List.all_cons, List.all_nil, List.append_nil, List.length_append, List.length_set, List.append_assoc, List.drop_nil, List.take_nil, sb, sbr, e', fill, s0.r, setAt, et8, s0.res] <;> try simp -dsimp only [if_conj])
    exact hK _ (s0.fin hl _)
end Go.Proofs.YtmjjfchahkdceaaDoor
