import Derived.Test.YtebacdlbhjgmlaaCE
import Derived.Test.YtebacdlbhjgmlaaGC
set_option linter.unusedVariables false
set_option linter.unusedSimpArgs false
set_option maxRecDepth 100000
namespace Go.Proofs.Ytebacdlbhjgmlaa
open Go.Ab
variable {h : Heap} {K : Kt}

abbrev WH : Hd := ⟨1, 62, 64, 2, 1⟩
theorem WH_fit : WH.fit := ⟨by decide, by decide, by decide, by decide, by decide⟩
theorem fit_i64 {a b c d : Int} {o : Nat} (h1 : -9223372036854775808 ≤ a ∧ a < 9223372036854775808) (h2 : -9223372036854775808 ≤ b ∧ b < 9223372036854775808) (h3 : o < 18446744073709551616) (h4 : -9223372036854775808 ≤ c ∧ c < 9223372036854775808) (h5 : -9223372036854775808 ≤ d ∧ d < 9223372036854775808) : (⟨a, b, o, c, d⟩ : Hd).fit := ⟨h1, h2, h3, h4, h5⟩
theorem W_bad : bad (put WH ++ List.replicate 128 0) = 0 ∧ hdOf (put WH ++ List.replicate 128 0) = WH ∧ bad (put WH) = 21 ∧ (put WH).take 7 = elf := by decide +kernel
theorem Take_n {b r : List UInt8} {id n : Nat} (hn : n = b.length) (hid : h.getD id .dead = .o 1 (byt (b ++ r))) (hb : b.length ≤ bigRoom) (hK : ∀ h1, Keeps h h1 → K.K (.t [.g (hdOf b).row, I (bad b)]) h1) : ACall X 6 [.s id 0 n] h K := by
  subst hn; exact Take_head hid hb hK
theorem works06_ok (hK : ∀ h', Keeps h h' → K.K (Bo true) h') : ACall X 8 [] h K := by
  obtain ⟨w1, w2, w3, w4⟩ := W_bad
  have hpl := put_len WH
  apply i8
  (simp +contextual -dsimp only [R8, evA, evB, ↓a_on_t, ↓a_on_f, ↓a_on_und, ↓a_cond_b, ↓reduceIte, Go.Ab.part, List.getD_cons_zero, List.getD_cons_succ, List.set_cons_zero, List.set_cons_succ, List.length_cons, List.length_nil, List.cons_append, List.nil_append, cond_true, cond_false, Bool.cond_true, reduceCtorEq, Option.map_some, Option.map_none, forall_const, ne_eq, implies_true, Nat.reduceAdd, Nat.reduceLeDiff, Nat.reduceLT, Nat.beq, Option.isNone_none, beq_self_eq_true, bne_self_eq_false, Int.reduceBEq, Int.reduceBNe, Int.reduceLT, Int.reduceLE, Int.reduceGT, Int.reduceGE, Int.reduceEq, Int.reduceNe, Int.reduceToNat, List.take_zero, List.drop_zero, List.all_cons, List.all_nil, List.append_nil, List.length_append, List.length_set, List.append_assoc, List.drop_nil, List.take_nil, hget_new, hset_new] <;> try simp -dsimp only [if_conj])
  have e0 : [AV.v (Value.int .i64 1), AV.v (Value.int .i64 62), AV.v (Value.int .u64 64), AV.v (Value.int .i64 2), AV.v (Value.int .i64 1)] = WH.row := rfl
  rw [e0]
  refine Put_head WH_fit fun h1 id1 k1 k2 g1 => ?_
  have q0 : h1.getD h.length .dead = .o 1 WH.row := k1.at hget_new (by simp)
  have kh : Keeps h h1 := (Keeps.adds Adds.mk).trans k1
  rw [List.length_append, List.length_singleton] at k2
  clear k1
  (simp +contextual -dsimp only [R8, evA, evB, ↓a_on_t, ↓a_on_f, ↓a_on_und, ↓a_cond_b, ↓reduceIte, Go.Ab.part, List.getD_cons_zero, List.getD_cons_succ, List.set_cons_zero, List.set_cons_succ, List.length_cons, List.length_nil, List.cons_append, List.nil_append, cond_true, cond_false, Bool.cond_true, reduceCtorEq, Option.map_some, Option.map_none, forall_const, ne_eq, implies_true, Nat.reduceAdd, Nat.reduceLeDiff, Nat.reduceLT, Nat.beq, Option.isNone_none, beq_self_eq_true, bne_self_eq_false, Int.reduceBEq, Int.reduceBNe, Int.reduceLT, Int.reduceLE, Int.reduceGT, Int.reduceGE, Int.reduceEq, Int.reduceNe, Int.reduceToNat, List.take_zero, List.drop_zero, List.all_cons, List.all_nil, List.append_nil, List.length_append, List.length_set, List.append_assoc, List.drop_nil, List.take_nil, g1] <;> try simp -dsimp only [if_conj])
  refine ⟨⟨by decide, by rw [hpl]; exact Nat.le_refl _⟩, fun id' off' h' ha => ?_⟩
  obtain ⟨rfl, hb⟩ := apz_b (a := put WH) ha rfl hpl.symm g1
  obtain ⟨r, hr⟩ : ∃ r, h'.getD id1 .dead = .o 1 (byt (put WH ++ r)) := by
    rcases hb.old with e | e
    · exact ⟨[], by rw [List.append_nil]; exact e⟩
    · exact ⟨_, e⟩
  have hi1 := hlt g1 (by simp)
  have q1 : h'.getD h.length .dead = .o 1 WH.row := (hb.keep _ (by omega) (by omega)).trans q0
  have kh1 : Keeps h h' := ⟨Nat.le_trans kh.len hb.len, fun hj => (hb.keep _ (by have := kh.len; omega) (by omega)).trans (kh.get hj)⟩
  have gg := hb.get
  clear hb ha g1 q0 kh
  have hl2 : (put WH ++ List.replicate 128 0).length = 192 := by rw [List.length_append, hpl, List.length_replicate]
  rw [← hl2]
  refine Take_head (r := []) (by rw [List.append_nil]; exact gg) (by rw [hl2]; decide) fun h2 k3 => ?_
  rw [w1, w2]
  have q2 := k3.at q1 (by simp)
  have r2 := k3.at hr (by simp)
  have kh2 := kh1.trans k3
  clear q1 hr kh1 k3 gg
  have fs : setAt [I 0, I 0, U 0, I 0, I 0] 0 WH.row = WH.row := rfl
  have fa : WH.row.all AV.one = true := rfl
  have fl : WH.row.length = 5 := rfl
  have ft : WH.row.take 5 = WH.row := rfl
  (simp +contextual -dsimp only [R8, evA, evB, ↓a_on_t, ↓a_on_f, ↓a_on_und, ↓a_cond_b, ↓reduceIte, Go.Ab.part, List.getD_cons_zero, List.getD_cons_succ, List.set_cons_zero, List.set_cons_succ, List.length_cons, List.length_nil, List.cons_append, List.nil_append, cond_true, cond_false, Bool.cond_true, reduceCtorEq, Option.map_some, Option.map_none, forall_const, ne_eq, implies_true, Nat.reduceAdd, Nat.reduceLeDiff, Nat.reduceLT, Nat.beq, Option.isNone_none, beq_self_eq_true, bne_self_eq_false, Int.reduceBEq, Int.reduceBNe, Int.reduceLT, Int.reduceLE, Int.reduceGT, Int.reduceGE, Int.reduceEq, Int.reduceNe, Int.reduceToNat, List.take_zero, List.drop_zero, List.all_cons, List.all_nil, List.append_nil, List.length_append, List.length_set, List.append_assoc, List.drop_nil, List.take_nil, hget_new, hset_new, fs, fa, fl] <;> try simp -dsimp only [if_conj])
  have q3 : (h2 ++ [AO.o 1 WH.row]).getD h.length .dead = .o 1 WH.row := hget_app q2 (by simp)
  have q4 : (h2 ++ [AO.o 1 WH.row]).getD h2.length .dead = .o 1 WH.row := hget_new
  have r3 : (h2 ++ [AO.o 1 WH.row]).getD id1 .dead = .o 1 (byt (put WH ++ r)) := hget_app r2 (by simp)
  have kh3 := kh2.trans (Keeps.adds (Adds.mk (h := h2) (l := [AO.o 1 WH.row])))
  clear q2 r2 kh2
  generalize h2 ++ [AO.o 1 WH.row] = H at *
  refine Take_n (b := put WH) hpl.symm r3 (by rw [hpl]; decide) fun h3 k4 => ?_
  rw [w3]
  have q5 := k4.at q3 (by simp)
  have q6 := k4.at q4 (by simp)
  have r4 := k4.at r3 (by simp)
  have kh4 := kh3.trans k4
  clear q3 q4 r3 kh3 k4
  have n1 := hlt q5 (by simp)
  have g1 : setAt [I 0, I 0, U 0, I 0, I 0] 0 (hdOf (put WH)).row = (hdOf (put WH)).row := rfl
  have g2 : (hdOf (put WH)).row.all AV.one = true := rfl
  have g3 : (hdOf (put WH)).row.length = 5 := rfl
  have d64 : (((64 : Nat) : Int) == 64) = true := rfl
  have q7 : (h3 ++ [AO.o 1 (hdOf (put WH)).row]).getD h.length .dead = .o 1 WH.row := hget_app q5 (by simp)
  have q8 : (h3 ++ [AO.o 1 (hdOf (put WH)).row]).getD h2.length .dead = .o 1 WH.row := hget_app q6 (by simp)
  have r5 : (h3 ++ [AO.o 1 (hdOf (put WH)).row]).getD id1 .dead = .o 1 (byt (put WH ++ r)) := hget_app r4 (by simp)
  have kh5 : Keeps h (h3 ++ [AO.o 1 (hdOf (put WH)).row]) := kh4.trans (Keeps.adds Adds.mk)
  have cs : ∀ (hh : Heap) (KK : Kt), a_cstro 0 7 (.o 1 (byt (put WH ++ r))) hh KK = KK.K (.v (.string (mkStr elf))) hh := fun hh KK => by
    show (0 + 7 ≤ (byt (put WH ++ r)).length ∧ a_mkstr (asBytes (((byt (put WH ++ r)).drop 0).take 7)) hh KK) = _
    rw [List.drop_zero, byt_take, asBytes_byt, List.take_append_of_le_length (by rw [hpl]; decide), w4, byt_length, List.length_append, hpl]
    exact propext ⟨fun h => h.2, fun h => ⟨by omega, h⟩⟩
  have ce : decide (mkStr elf = (⟨#[127, 69, 76, 70, 2, 1, 1]⟩ : ByteArray)) = true := decide_eq_true rfl
  have eqr : ∀ (hh : Heap) (KK : Kt), a_eql false [TK.int .i64, TK.int .i64, TK.int .u64, TK.int .i64, TK.int .i64] WH.row WH.row true hh KK = KK.K (Bo true) hh := fun hh KK => by
    exact propext ⟨fun h => h.2.2.2.2.2, fun h => ⟨rfl, rfl, rfl, rfl, rfl, h⟩⟩
  (simp +contextual -dsimp only [R8, evA, evB, ↓a_on_t, ↓a_on_f, ↓a_on_und, ↓a_cond_b, ↓reduceIte, Go.Ab.part, List.getD_cons_zero, List.getD_cons_succ, List.set_cons_zero, List.set_cons_succ, List.length_cons, List.length_nil, List.cons_append, List.nil_append, cond_true, cond_false, Bool.cond_true, reduceCtorEq, Option.map_some, Option.map_none, forall_const, ne_eq, implies_true, Nat.reduceAdd, Nat.reduceLeDiff, Nat.reduceLT, Nat.beq, Option.isNone_none, beq_self_eq_true, bne_self_eq_false, Int.reduceBEq, Int.reduceBNe, Int.reduceLT, Int.reduceLE, Int.reduceGT, Int.reduceGE, Int.reduceEq, Int.reduceNe, Int.reduceToNat, List.take_zero, List.drop_zero, List.all_cons, List.all_nil, List.append_nil, List.length_append, List.length_set, List.append_assoc, List.drop_nil, List.take_nil, hget_new, hset_new, g1, g2, g3] <;> try simp -dsimp only [if_conj])
  (simp +contextual -dsimp only [R8, evA, evB, ↓a_on_t, ↓a_on_f, ↓a_on_und, ↓a_cond_b, ↓reduceIte, Go.Ab.part, List.getD_cons_zero, List.getD_cons_succ, List.set_cons_zero, List.set_cons_succ, List.length_cons, List.length_nil, List.cons_append, List.nil_append, cond_true, cond_false, Bool.cond_true, reduceCtorEq, Option.map_some, Option.map_none, forall_const, ne_eq, implies_true, Nat.reduceAdd, Nat.reduceLeDiff, Nat.reduceLT, Nat.beq, Option.isNone_none, beq_self_eq_true, bne_self_eq_false, Int.reduceBEq, Int.reduceBNe, Int.reduceLT, Int.reduceLE, Int.reduceGT, Int.reduceGE, Int.reduceEq, Int.reduceNe, Int.reduceToNat, List.take_zero, List.drop_zero, List.all_cons, List.all_nil, List.append_nil, List.length_append, List.length_set, List.append_assoc, List.drop_nil, List.take_nil, d64, q7, q8, r5, cs, ce, fl, ft, eqr] <;> try simp -dsimp only [if_conj])
  exact ⟨by omega, hK _ kh5⟩
theorem eq_hd {x y : Hd} {n : Bool} (hh : Heap) (KK : Kt) : a_eql n [TK.int .i64, TK.int .i64, TK.int .u64, TK.int .i64, TK.int .i64] x.row y.row true hh KK = KK.K (Bo (bif n then !decide (x = y) else decide (x = y))) hh := by
  obtain ⟨a, b, c, d, e⟩ := x
  obtain ⟨a', b', c', d', e'⟩ := y
  show (_ ∧ _ ∧ _ ∧ _ ∧ _ ∧ KK.K _ hh) = _
  have : (true && a == a' && b == b' && (c : Int) == (c' : Int) && d == d' && e == e') = decide ((⟨a, b, c, d, e⟩ : Hd) = ⟨a', b', c', d', e'⟩) := by
    rw [Bool.eq_iff_iff]
    simp only [Bool.and_eq_true, beq_iff_eq, decide_eq_true_eq, true_and, Hd.mk.injEq]
    constructor
    · rintro ⟨⟨⟨⟨h1, h2⟩, h3⟩, h4⟩, h5⟩; exact ⟨h1, h2, by omega, h4, h5⟩
    · rintro ⟨h1, h2, h3, h4, h5⟩; exact ⟨⟨⟨⟨h1, h2⟩, by omega⟩, h4⟩, h5⟩
  rw [this]
  exact propext ⟨fun h => h.2.2.2.2.2, fun h => ⟨rfl, rfl, rfl, rfl, rfl, h⟩⟩
theorem etakes_ok {b : List UInt8} (hb : b.length ≤ bigRoom) : ACall X 3 [.z (byt b) b.length] [] (.c (fun r _ => r = Bo true) ()) := by
  have hbr : bigRoom = 140737488355328 := rfl
  apply i3
  (simp +contextual -dsimp only [R3, evA, evB, ↓a_on_t, ↓a_on_f, ↓a_on_und, ↓a_cond_b, ↓reduceIte, Go.Ab.part, List.getD_cons_zero, List.getD_cons_succ, List.set_cons_zero, List.set_cons_succ, List.length_cons, List.length_nil, List.cons_append, List.nil_append, cond_true, cond_false, Bool.cond_true, reduceCtorEq, Option.map_some, Option.map_none, forall_const, ne_eq, implies_true, Nat.reduceAdd, Nat.reduceLeDiff, Nat.reduceLT, Nat.beq, Option.isNone_none, beq_self_eq_true, bne_self_eq_false, Int.reduceBEq, Int.reduceBNe, Int.reduceLT, Int.reduceLE, Int.reduceGT, Int.reduceGE, Int.reduceEq, Int.reduceNe, Int.reduceToNat, List.take_zero, List.drop_zero, List.all_cons, List.all_nil, List.append_nil, List.length_append, List.length_set, List.append_assoc, List.drop_nil, List.take_nil] <;> try simp -dsimp only [if_conj])
  refine ⟨⟨hb, trivial⟩, ?_⟩
  refine Take_head (r := []) (by rw [List.append_nil]; rfl) hb fun h1 k1 => ?_
  have b1 : h1.getD 1 .dead = .o 1 (byt b) := k1.at rfl (by simp)
  clear k1
  have f1 : ∀ x : Hd, setAt [I 0, I 0, U 0, I 0, I 0] 0 x.row = x.row := fun _ => rfl
  have f2 : ∀ x : Hd, x.row.all AV.one = true := fun _ => rfl
  have f3 : ∀ x : Hd, x.row.length = 5 := fun _ => rfl
  have f4 : ∀ x : Hd, x.row.take 5 = x.row := fun _ => rfl
  (simp +contextual -dsimp only [R3, evA, evB, ↓a_on_t, ↓a_on_f, ↓a_on_und, ↓a_cond_b, ↓reduceIte, Go.Ab.part, List.getD_cons_zero, List.getD_cons_succ, List.set_cons_zero, List.set_cons_succ, List.length_cons, List.length_nil, List.cons_append, List.nil_append, cond_true, cond_false, Bool.cond_true, reduceCtorEq, Option.map_some, Option.map_none, forall_const, ne_eq, implies_true, Nat.reduceAdd, Nat.reduceLeDiff, Nat.reduceLT, Nat.beq, Option.isNone_none, beq_self_eq_true, bne_self_eq_false, Int.reduceBEq, Int.reduceBNe, Int.reduceLT, Int.reduceLE, Int.reduceGT, Int.reduceGE, Int.reduceEq, Int.reduceNe, Int.reduceToNat, List.take_zero, List.drop_zero, List.all_cons, List.all_nil, List.append_nil, List.length_append, List.length_set, List.append_assoc, List.drop_nil, List.take_nil, f1, f2, f3, hget_new, hset_new] <;> try simp -dsimp only [if_conj])
  have b2 : (h1 ++ [AO.o 1 (hdOf b).row]).getD 1 .dead = .o 1 (byt b) := hget_app b1 (by simp)
  have c2 : (h1 ++ [AO.o 1 (hdOf b).row]).getD h1.length .dead = .o 1 (hdOf b).row := hget_new
  generalize h1 ++ [AO.o 1 (hdOf b).row] = h2 at *
  refine rTake_ok (by omega) fun h3 k3 => ?_
  have b3 := k3.at b2 (by simp)
  have c3 := k3.at c2 (by simp)
  have b4 : (h3 ++ [AO.o 1 (hdOf b).row]).getD 1 .dead = .o 1 (byt b) := hget_app b3 (by simp)
  have c4 : (h3 ++ [AO.o 1 (hdOf b).row]).getD h1.length .dead = .o 1 (hdOf b).row := hget_app c3 (by simp)
  have e4 : (h3 ++ [AO.o 1 (hdOf b).row]).getD h3.length .dead = .o 1 (hdOf b).row := hget_new
  clear b2 c2 k3 b3 c3
  (simp +contextual -dsimp only [R3, evA, evB, ↓a_on_t, ↓a_on_f, ↓a_on_und, ↓a_cond_b, ↓reduceIte, Go.Ab.part, List.getD_cons_zero, List.getD_cons_succ, List.set_cons_zero, List.set_cons_succ, List.length_cons, List.length_nil, List.cons_append, List.nil_append, cond_true, cond_false, Bool.cond_true, reduceCtorEq, Option.map_some, Option.map_none, forall_const, ne_eq, implies_true, Nat.reduceAdd, Nat.reduceLeDiff, Nat.reduceLT, Nat.beq, Option.isNone_none, beq_self_eq_true, bne_self_eq_false, Int.reduceBEq, Int.reduceBNe, Int.reduceLT, Int.reduceLE, Int.reduceGT, Int.reduceGE, Int.reduceEq, Int.reduceNe, Int.reduceToNat, List.take_zero, List.drop_zero, List.all_cons, List.all_nil, List.append_nil, List.length_append, List.length_set, List.append_assoc, List.drop_nil, List.take_nil, f1, f2, f3, hget_new, hset_new] <;> try simp -dsimp only [if_conj])
  generalize h3 ++ [AO.o 1 (hdOf b).row] = H at *
  have eqh : ∀ (x : Hd) (hh : Heap) (KK : Kt), a_eql false [TK.int .i64, TK.int .i64, TK.int .u64, TK.int .i64, TK.int .i64] x.row x.row true hh KK = KK.K (Bo true) hh := fun x hh KK => by
    rw [eq_hd]; simp
  have cb : a_cstr (.s 1 0 b.length) H = fun K => K.K (.v (.string (mkStr b))) H := by funext K; exact (IsB.s b4).cstr
  have dd : (bad b == bad b) = true := by simp
  (simp +contextual -dsimp only [R3, evA, evB, ↓a_on_t, ↓a_on_f, ↓a_on_und, ↓a_cond_b, ↓reduceIte, Go.Ab.part, List.getD_cons_zero, List.getD_cons_succ, List.set_cons_zero, List.set_cons_succ, List.length_cons, List.length_nil, List.cons_append, List.nil_append, cond_true, cond_false, Bool.cond_true, reduceCtorEq, Option.map_some, Option.map_none, forall_const, ne_eq, implies_true, Nat.reduceAdd, Nat.reduceLeDiff, Nat.reduceLT, Nat.beq, Option.isNone_none, beq_self_eq_true, bne_self_eq_false, Int.reduceBEq, Int.reduceBNe, Int.reduceLT, Int.reduceLE, Int.reduceGT, Int.reduceGE, Int.reduceEq, Int.reduceNe, Int.reduceToNat, List.take_zero, List.drop_zero, List.all_cons, List.all_nil, List.append_nil, List.length_append, List.length_set, List.append_assoc, List.drop_nil, List.take_nil, c4, e4, f3, f4, eqh, b4, dd] <;> try simp -dsimp only [if_conj])
  refine works06_ok fun h5 _ => ?_
  (simp +contextual -dsimp only [R3, evA, evB, ↓a_on_t, ↓a_on_f, ↓a_on_und, ↓a_cond_b, ↓reduceIte, Go.Ab.part, List.getD_cons_zero, List.getD_cons_succ, List.set_cons_zero, List.set_cons_succ, List.length_cons, List.length_nil, List.cons_append, List.nil_append, cond_true, cond_false, Bool.cond_true, reduceCtorEq, Option.map_some, Option.map_none, forall_const, ne_eq, implies_true, Nat.reduceAdd, Nat.reduceLeDiff, Nat.reduceLT, Nat.beq, Option.isNone_none, beq_self_eq_true, bne_self_eq_false, Int.reduceBEq, Int.reduceBNe, Int.reduceLT, Int.reduceLE, Int.reduceGT, Int.reduceGE, Int.reduceEq, Int.reduceNe, Int.reduceToNat, List.take_zero, List.drop_zero, List.all_cons, List.all_nil, List.append_nil, List.length_append, List.length_set, List.append_assoc, List.drop_nil, List.take_nil] <;> try simp -dsimp only [if_conj])
end Go.Proofs.Ytebacdlbhjgmlaa
