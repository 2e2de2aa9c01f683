import Derived.Test.YtlfplmcidfflfaaCD
set_option linter.unusedVariables false
set_option linter.unusedSimpArgs false
set_option maxRecDepth 100000
namespace Go.Proofs.Ytlfplmcidfflfaa
open Go.Ab
variable {h : Heap} {K : Kt}

theorem up_prop : ∀ (k n : Nat), up k n ≠ [] ∧ (∀ x ∈ up k n, x < 128) ∧ (up k n).length ≤ k + 1 ∧ 1 ≤ (up k n).length
  | 0, n => ⟨by simp [up], fun x hx => by simp [up] at hx; omega, by simp [up], by simp [up]⟩
  | k + 1, n => by
    have hu : up (k + 1) n = if n < 128 then [n] else n % 128 :: up k (n / 128) := rfl
    obtain ⟨h1, h2, h3, h4⟩ := up_prop k (n / 128)
    rw [hu]
    by_cases h : n < 128
    · rw [if_pos h]; exact ⟨by simp, fun x hx => by simp at hx; omega, by simp, by simp⟩
    · rw [if_neg h]
      refine ⟨by simp, fun x hx => ?_, by rw [List.length_cons]; omega, by simp⟩
      rcases List.mem_cons.1 hx with rfl | hx
      · omega
      · exact h2 x hx
theorem sp_prop : ∀ (k : Nat) (n : Int), sp k n ≠ [] ∧ (∀ x ∈ sp k n, x < 128) ∧ (sp k n).length ≤ k + 1 ∧ 1 ≤ (sp k n).length
  | 0, n => ⟨by simp [sp], fun x hx => by simp [sp] at hx; omega, by simp [sp], by simp [sp]⟩
  | k + 1, n => by
    have hu : sp (k + 1) n = if (n / 128 = 0 ∧ n % 128 < 64) ∨ (n / 128 = -1 ∧ n % 128 ≥ 64) then [(n % 128).toNat] else (n % 128).toNat :: sp k (n / 128) := rfl
    obtain ⟨h1, h2, h3, h4⟩ := sp_prop k (n / 128)
    rw [hu]
    by_cases h : (n / 128 = 0 ∧ n % 128 < 64) ∨ (n / 128 = -1 ∧ n % 128 ≥ 64)
    · rw [if_pos h]; exact ⟨by simp, fun x hx => by simp at hx; omega, by simp, by simp⟩
    · rw [if_neg h]
      refine ⟨by simp, fun x hx => ?_, by rw [List.length_cons]; omega, by simp⟩
      rcases List.mem_cons.1 hx with rfl | hx
      · omega
      · exact h2 x hx
/-- what is put behind bytes that stay -/
def PutsW (h : Heap) (a : List UInt8) (id : Nat) (xs : List Nat) (K : Kt) (mk : Nat → Nat → AV) : Prop :=
  ∀ h1 id1, h1.getD id1 .dead = .o 1 (byt (a ++ enc xs)) → (∀ j, j < h.length → j ≠ id → h1.getD j .dead = h.getD j .dead) → (∃ r', h1.getD id .dead = .o 1 (byt (a ++ r'))) → h.length ≤ h1.length → (id1 = id ∨ h.length ≤ id1) →
    K.K (mk id1 (a.length + xs.length)) h1
theorem PutU_w {a r : List UInt8} {id n : Nat} (hid : h.getD id .dead = .o 1 (byt (a ++ r))) (ha : a.length + 10 ≤ bigRoom) (hn : n < 18446744073709551616) (hK : PutsW h a id (up 9 n) K (fun i l => .w i 0 l)) : ACall X 12 [.w id 0 a.length, U n] h K := by
  obtain ⟨u1, u2, u3, _⟩ := up_prop 9 n
  have hil := hlt hid (by simp)
  apply i12
  (simp +contextual -dsimp only [R12, evA, evB, ↓a_on_t, ↓a_on_f, ↓a_on_und, ↓a_cond_b, ↓reduceIte, Go.Ab.part, List.getD_cons_zero, List.getD_cons_succ, List.set_cons_zero, List.set_cons_succ, List.length_cons, List.length_nil, List.cons_append, List.nil_append, cond_true, cond_false, Bool.cond_true, reduceCtorEq, Option.map_some, Option.map_none, forall_const, ne_eq, implies_true, Nat.reduceAdd, Nat.reduceLeDiff, Nat.reduceLT, Nat.beq, Option.isNone_none, beq_self_eq_true, bne_self_eq_false, Int.reduceBEq, Int.reduceBNe, Int.reduceLT, Int.reduceLE, Int.reduceGT, Int.reduceGE, Int.reduceEq, Int.reduceNe, Int.reduceToNat, List.take_zero, List.drop_zero, List.all_cons, List.all_nil, List.append_nil, List.length_append, List.length_set, List.append_assoc, List.drop_nil, List.take_nil] <;> try simp -dsimp only [if_conj])
  apply i28
  (simp +contextual -dsimp only [R28, evA, evB, ↓a_on_t, ↓a_on_f, ↓a_on_und, ↓a_cond_b, ↓reduceIte, Go.Ab.part, List.getD_cons_zero, List.getD_cons_succ, List.set_cons_zero, List.set_cons_succ, List.length_cons, List.length_nil, List.cons_append, List.nil_append, cond_true, cond_false, Bool.cond_true, reduceCtorEq, Option.map_some, Option.map_none, forall_const, ne_eq, implies_true, Nat.reduceAdd, Nat.reduceLeDiff, Nat.reduceLT, Nat.beq, Option.isNone_none, beq_self_eq_true, bne_self_eq_false, Int.reduceBEq, Int.reduceBNe, Int.reduceLT, Int.reduceLE, Int.reduceGT, Int.reduceGE, Int.reduceEq, Int.reduceNe, Int.reduceToNat, List.take_zero, List.drop_zero, List.all_cons, List.all_nil, List.append_nil, List.length_append, List.length_set, List.append_assoc, List.drop_nil, List.take_nil] <;> try simp -dsimp only [if_conj])
  refine put_ok (r := r) (hget_app hid (by simp)) hget_new (by simp) (by omega) u1 u2 u3 ha (useq_ok hn) Try.func35 (by kernel_rfl) (by kernel_rfl) fun h1 id1 g1 g2 g3 g4 g5 => ?_
  rw [List.length_append, List.length_singleton] at g4 g5
  (simp +contextual -dsimp only [R12, evA, evB, ↓a_on_t, ↓a_on_f, ↓a_on_und, ↓a_cond_b, ↓reduceIte, Go.Ab.part, List.getD_cons_zero, List.getD_cons_succ, List.set_cons_zero, List.set_cons_succ, List.length_cons, List.length_nil, List.cons_append, List.nil_append, cond_true, cond_false, Bool.cond_true, reduceCtorEq, Option.map_some, Option.map_none, forall_const, ne_eq, implies_true, Nat.reduceAdd, Nat.reduceLeDiff, Nat.reduceLT, Nat.beq, Option.isNone_none, beq_self_eq_true, bne_self_eq_false, Int.reduceBEq, Int.reduceBNe, Int.reduceLT, Int.reduceLE, Int.reduceGT, Int.reduceGE, Int.reduceEq, Int.reduceNe, Int.reduceToNat, List.take_zero, List.drop_zero, List.all_cons, List.all_nil, List.append_nil, List.length_append, List.length_set, List.append_assoc, List.drop_nil, List.take_nil] <;> try simp -dsimp only [if_conj])
  exact hK h1 id1 g1 (fun j hj hne => (g2 j (by simp; omega) hne (by omega)).trans (Adds.mk.at hj)) g3 (by omega) (by omega)
theorem PutS_w {a r : List UInt8} {id : Nat} {n : Int} (hid : h.getD id .dead = .o 1 (byt (a ++ r))) (ha : a.length + 10 ≤ bigRoom) (h1 : -9223372036854775808 ≤ n) (h2 : n < 9223372036854775808) (hK : PutsW h a id (sp 9 n) K (fun i l => .w i 0 l)) : ACall X 11 [.w id 0 a.length, I n] h K := by
  obtain ⟨u1, u2, u3, _⟩ := sp_prop 9 n
  have hil := hlt hid (by simp)
  apply i11
  (simp +contextual -dsimp only [R11, evA, evB, ↓a_on_t, ↓a_on_f, ↓a_on_und, ↓a_cond_b, ↓reduceIte, Go.Ab.part, List.getD_cons_zero, List.getD_cons_succ, List.set_cons_zero, List.set_cons_succ, List.length_cons, List.length_nil, List.cons_append, List.nil_append, cond_true, cond_false, Bool.cond_true, reduceCtorEq, Option.map_some, Option.map_none, forall_const, ne_eq, implies_true, Nat.reduceAdd, Nat.reduceLeDiff, Nat.reduceLT, Nat.beq, Option.isNone_none, beq_self_eq_true, bne_self_eq_false, Int.reduceBEq, Int.reduceBNe, Int.reduceLT, Int.reduceLE, Int.reduceGT, Int.reduceGE, Int.reduceEq, Int.reduceNe, Int.reduceToNat, List.take_zero, List.drop_zero, List.all_cons, List.all_nil, List.append_nil, List.length_append, List.length_set, List.append_assoc, List.drop_nil, List.take_nil] <;> try simp -dsimp only [if_conj])
  apply i27
  (simp +contextual -dsimp only [R27, evA, evB, ↓a_on_t, ↓a_on_f, ↓a_on_und, ↓a_cond_b, ↓reduceIte, Go.Ab.part, List.getD_cons_zero, List.getD_cons_succ, List.set_cons_zero, List.set_cons_succ, List.length_cons, List.length_nil, List.cons_append, List.nil_append, cond_true, cond_false, Bool.cond_true, reduceCtorEq, Option.map_some, Option.map_none, forall_const, ne_eq, implies_true, Nat.reduceAdd, Nat.reduceLeDiff, Nat.reduceLT, Nat.beq, Option.isNone_none, beq_self_eq_true, bne_self_eq_false, Int.reduceBEq, Int.reduceBNe, Int.reduceLT, Int.reduceLE, Int.reduceGT, Int.reduceGE, Int.reduceEq, Int.reduceNe, Int.reduceToNat, List.take_zero, List.drop_zero, List.all_cons, List.all_nil, List.append_nil, List.length_append, List.length_set, List.append_assoc, List.drop_nil, List.take_nil] <;> try simp -dsimp only [if_conj])
  refine put_ok (r := r) (hget_app hid (by simp)) hget_new (by simp) (by omega) u1 u2 u3 ha (sseq_ok h1 h2) Try.func34 (by kernel_rfl) (by kernel_rfl) fun h1 id1 g1 g2 g3 g4 g5 => ?_
  rw [List.length_append, List.length_singleton] at g4 g5
  (simp +contextual -dsimp only [R11, evA, evB, ↓a_on_t, ↓a_on_f, ↓a_on_und, ↓a_cond_b, ↓reduceIte, Go.Ab.part, List.getD_cons_zero, List.getD_cons_succ, List.set_cons_zero, List.set_cons_succ, List.length_cons, List.length_nil, List.cons_append, List.nil_append, cond_true, cond_false, Bool.cond_true, reduceCtorEq, Option.map_some, Option.map_none, forall_const, ne_eq, implies_true, Nat.reduceAdd, Nat.reduceLeDiff, Nat.reduceLT, Nat.beq, Option.isNone_none, beq_self_eq_true, bne_self_eq_false, Int.reduceBEq, Int.reduceBNe, Int.reduceLT, Int.reduceLE, Int.reduceGT, Int.reduceGE, Int.reduceEq, Int.reduceNe, Int.reduceToNat, List.take_zero, List.drop_zero, List.all_cons, List.all_nil, List.append_nil, List.length_append, List.length_set, List.append_assoc, List.drop_nil, List.take_nil] <;> try simp -dsimp only [if_conj])
  exact hK h1 id1 g1 (fun j hj hne => (g2 j (by simp; omega) hne (by omega)).trans (Adds.mk.at hj)) g3 (by omega) (by omega)
/-- the same, of a list as it stands -/
theorem see_w {f : FuncId} {id len : Nat} {x : AV} {K : Kt} (H : ACall X f [.w id 0 len, x] h (.c (fun r h1 => ∃ id1 l, r = .w id1 0 l ∧ h.length ≤ h1.length ∧ K.K (.s id1 0 l) h1) ())) : ACall X f [.s id 0 len, x] h K := by
  refine acall_weak_post ?_
  refine acall_weak (args' := [.w id 0 len, x]) (h' := h) (weak_sw (Nat.le_refl _) ⟨.inr (.inr ⟨_, _, _, .inl ⟨rfl, rfl⟩⟩), .inl rfl, trivial⟩) (Nat.le_refl _) ?_
  refine acall_mono H ?_
  rintro r h1 ⟨id1, l, rfl, hl, hk⟩
  exact ⟨.s id1 0 l, h1, weak_sw hl ⟨.inr (.inr ⟨_, _, _, .inr ⟨rfl, rfl⟩⟩), trivial⟩, hk⟩
/-- the same, of nil -/
theorem see_nil {f : FuncId} {x : AV} {K : Kt} (H : ACall X f [.w h.length 0 0, x] (h ++ [.o 1 []]) (.c (fun r h1 => ∃ id1 l, r = .w id1 0 l ∧ h.length ≤ h1.length ∧ K.K (.s id1 0 l) h1) ())) : ACall X f [.v (.slice none 0 0), x] h K := by
  refine acall_weak_post ?_
  have W1 : Weak X h.length ([.v (.slice none 0 0), x], h) ([.s h.length 0 0, x], h ++ [.o 1 []]) := weak_nils (Nat.le_refl _) ⟨.inr (.inr ⟨rfl, _, _, rfl⟩), .inl rfl, trivial⟩
  have W2 : Weak X h.length ([.s h.length 0 0, x], h ++ [.o 1 []]) ([.w h.length 0 0, x], h ++ [.o 1 []]) := weak_sw (by simp) ⟨.inr (.inr ⟨_, _, _, .inl ⟨rfl, rfl⟩⟩), .inl rfl, trivial⟩
  refine acall_weak (args' := [.w h.length 0 0, x]) (h' := h ++ [.o 1 []]) (W1.trans W2 (Nat.le_refl _)) (by simp) ?_
  refine acall_mono H ?_
  rintro r h1 ⟨id1, l, rfl, hl, hk⟩
  exact ⟨.s id1 0 l, h1, weak_sw hl ⟨.inr (.inr ⟨_, _, _, .inr ⟨rfl, rfl⟩⟩), trivial⟩, hk⟩
theorem PutU_ok {a r : List UInt8} {id n : Nat} (hid : h.getD id .dead = .o 1 (byt (a ++ r))) (ha : a.length + 10 ≤ bigRoom) (hn : n < 18446744073709551616) (hK : PutsW h a id (up 9 n) K (fun i l => .s i 0 l)) : ACall X 12 [.s id 0 a.length, U n] h K :=
  see_w (PutU_w hid ha hn fun h1 id1 g1 g2 g3 g4 g5 => ⟨id1, _, rfl, g4, hK h1 id1 g1 g2 g3 g4 g5⟩)
theorem PutS_ok {a r : List UInt8} {id : Nat} {n : Int} (hid : h.getD id .dead = .o 1 (byt (a ++ r))) (ha : a.length + 10 ≤ bigRoom) (h1 : -9223372036854775808 ≤ n) (h2 : n < 9223372036854775808) (hK : PutsW h a id (sp 9 n) K (fun i l => .s i 0 l)) : ACall X 11 [.s id 0 a.length, I n] h K :=
  see_w (PutS_w hid ha h1 h2 fun h1 id1 g1 g2 g3 g4 g5 => ⟨id1, _, rfl, g4, hK h1 id1 g1 g2 g3 g4 g5⟩)
/-- what is put anew -/
def PutsN (h : Heap) (bs : List UInt8) (K : Kt) : Prop := ∀ h1 id1, Keeps h h1 → h.length ≤ id1 → h1.getD id1 .dead = .o 1 (byt bs) → K.K (.s id1 0 bs.length) h1
theorem puts_new {xs : List Nat} {K : Kt} (hK : PutsN h (enc xs) K) : PutsW (h ++ [.o 1 []]) [] h.length xs (.c (fun r h1 => ∃ id1 l, r = .w id1 0 l ∧ h.length ≤ h1.length ∧ K.K (.s id1 0 l) h1) ()) (fun i l => .w i 0 l) := by
  intro h1 id1 g1 g2 g3 g4 g5
  rw [List.length_append, List.length_singleton] at g4 g5
  refine ⟨id1, _, rfl, by omega, ?_⟩
  have := hK h1 id1 ⟨by omega, fun hj => (g2 _ (by simp; omega) (by omega)).trans (Adds.mk.at hj)⟩ (by omega) (by simpa using g1)
  rw [enc_len] at this
  simpa using this
theorem PutU_nil {n : Nat} (hn : n < 18446744073709551616) (hK : PutsN h (enc (up 9 n)) K) : ACall X 12 [.v (.slice none 0 0), U n] h K :=
  see_nil (PutU_w (a := []) (r := []) hget_new (by decide) hn (puts_new hK))
theorem PutS_nil {n : Int} (h1 : -9223372036854775808 ≤ n) (h2 : n < 9223372036854775808) (hK : PutsN h (enc (sp 9 n)) K) : ACall X 11 [.v (.slice none 0 0), I n] h K :=
  see_nil (PutS_w (a := []) (r := []) hget_new (by decide) h1 h2 (puts_new hK))
theorem SizeU_ok {n : Nat} (hn : n < 18446744073709551616) (hK : ∀ h1, Keeps h h1 → K.K (I (up 9 n).length) h1) : ACall X 20 [U n] h K := by
  apply i20
  (simp +contextual -dsimp only [R20, evA, evB, ↓a_on_t, ↓a_on_f, ↓a_on_und, ↓a_cond_b, ↓reduceIte, Go.Ab.part, List.getD_cons_zero, List.getD_cons_succ, List.set_cons_zero, List.set_cons_succ, List.length_cons, List.length_nil, List.cons_append, List.nil_append, cond_true, cond_false, Bool.cond_true, reduceCtorEq, Option.map_some, Option.map_none, forall_const, ne_eq, implies_true, Nat.reduceAdd, Nat.reduceLeDiff, Nat.reduceLT, Nat.beq, Option.isNone_none, beq_self_eq_true, bne_self_eq_false, Int.reduceBEq, Int.reduceBNe, Int.reduceLT, Int.reduceLE, Int.reduceGT, Int.reduceGE, Int.reduceEq, Int.reduceNe, Int.reduceToNat, List.take_zero, List.drop_zero, List.all_cons, List.all_nil, List.append_nil, List.length_append, List.length_set, List.append_assoc, List.drop_nil, List.take_nil] <;> try simp -dsimp only [if_conj])
  refine PutU_nil hn fun h1 id1 k1 _ _ => ?_
  (simp +contextual -dsimp only [R20, evA, evB, ↓a_on_t, ↓a_on_f, ↓a_on_und, ↓a_cond_b, ↓reduceIte, Go.Ab.part, List.getD_cons_zero, List.getD_cons_succ, List.set_cons_zero, List.set_cons_succ, List.length_cons, List.length_nil, List.cons_append, List.nil_append, cond_true, cond_false, Bool.cond_true, reduceCtorEq, Option.map_some, Option.map_none, forall_const, ne_eq, implies_true, Nat.reduceAdd, Nat.reduceLeDiff, Nat.reduceLT, Nat.beq, Option.isNone_none, beq_self_eq_true, bne_self_eq_false, Int.reduceBEq, Int.reduceBNe, Int.reduceLT, Int.reduceLE, Int.reduceGT, Int.reduceGE, Int.reduceEq, Int.reduceNe, Int.reduceToNat, List.take_zero, List.drop_zero, List.all_cons, List.all_nil, List.append_nil, List.length_append, List.length_set, List.append_assoc, List.drop_nil, List.take_nil] <;> try simp -dsimp only [if_conj])
  rw [enc_len]
  exact hK h1 k1
theorem SizeS_ok {n : Int} (h1 : -9223372036854775808 ≤ n) (h2 : n < 9223372036854775808) (hK : ∀ h1, Keeps h h1 → K.K (I (sp 9 n).length) h1) : ACall X 21 [I n] h K := by
  apply i21
  (simp +contextual -dsimp only [R21, evA, evB, ↓a_on_t, ↓a_on_f, ↓a_on_und, ↓a_cond_b, ↓reduceIte, Go.Ab.part, List.getD_cons_zero, List.getD_cons_succ, List.set_cons_zero, List.set_cons_succ, List.length_cons, List.length_nil, List.cons_append, List.nil_append, cond_true, cond_false, Bool.cond_true, reduceCtorEq, Option.map_some, Option.map_none, forall_const, ne_eq, implies_true, Nat.reduceAdd, Nat.reduceLeDiff, Nat.reduceLT, Nat.beq, Option.isNone_none, beq_self_eq_true, bne_self_eq_false, Int.reduceBEq, Int.reduceBNe, Int.reduceLT, Int.reduceLE, Int.reduceGT, Int.reduceGE, Int.reduceEq, Int.reduceNe, Int.reduceToNat, List.take_zero, List.drop_zero, List.all_cons, List.all_nil, List.append_nil, List.length_append, List.length_set, List.append_assoc, List.drop_nil, List.take_nil] <;> try simp -dsimp only [if_conj])
  refine PutS_nil h1 h2 fun h1 id1 k1 _ _ => ?_
  (simp +contextual -dsimp only [R21, evA, evB, ↓a_on_t, ↓a_on_f, ↓a_on_und, ↓a_cond_b, ↓reduceIte, Go.Ab.part, List.getD_cons_zero, List.getD_cons_succ, List.set_cons_zero, List.set_cons_succ, List.length_cons, List.length_nil, List.cons_append, List.nil_append, cond_true, cond_false, Bool.cond_true, reduceCtorEq, Option.map_some, Option.map_none, forall_const, ne_eq, implies_true, Nat.reduceAdd, Nat.reduceLeDiff, Nat.reduceLT, Nat.beq, Option.isNone_none, beq_self_eq_true, bne_self_eq_false, Int.reduceBEq, Int.reduceBNe, Int.reduceLT, Int.reduceLE, Int.reduceGT, Int.reduceGE, Int.reduceEq, Int.reduceNe, Int.reduceToNat, List.take_zero, List.drop_zero, List.all_cons, List.all_nil, List.append_nil, List.length_append, List.length_set, List.append_assoc, List.drop_nil, List.take_nil] <;> try simp -dsimp only [if_conj])
  rw [enc_len]
  exact hK h1 k1
end Go.Proofs.Ytlfplmcidfflfaa
