import Derived.Test.YtgpddpdhkhfdjaaCH
import Derived.Test.YtgpddpdhkhfdjaaGD
set_option linter.unusedVariables false
set_option linter.unusedSimpArgs false
set_option maxRecDepth 100000
namespace Go.Proofs.Ytgpddpdhkhfdjaa
open Go.Ab
variable {h : Heap} {K : Kt}

def OnlyP (id : Nat) (ls : AV) (h h' : Heap) : Prop := h.length ≤ h'.length ∧ ∀ j, j < h.length → j ≠ id → otherS ls j → h'.getD j .dead = h.getD j .dead
theorem OnlyP.keeps {id : Nat} {ls : AV} {h' : Heap} (k : Keeps h h') : OnlyP id ls h h' := ⟨k.len, fun _ hj _ _ => k.get hj⟩
theorem rpAdd_ok {L : List (List UInt8)} {id : Nat} {ls : AV} {s : List UInt8} (i : IsP L id ls h) (hr : ∀ s ∈ L, right s) (hl : (cat L).length ≤ 65536) (hs : s.length ≤ 100000)
    (hK : ∀ h' ls', IsP (addR L s).2 id ls' h' → OnlyP id ls h h' → (∀ j, j < h.length → otherS ls j → otherS ls' j) → K.K (.t [U (addR L s).1.1, I (addR L s).1.2]) h') : ACall X 10 [.p id 0, .v (.string (mkStr s))] h K := by
  have hbig : (6000000 : Nat) ≤ bigRoom := by decide
  have hml : (100000 : Nat) ≤ maxLen := by decide
  have hli := hlt i.p (by simp)
  have hcl := cat_le L
  apply i10
  (simp +contextual -dsimp only [R10, evA, evB, ↓a_on_t, ↓a_on_f, ↓a_on_und, ↓a_cond_b, ↓reduceIte, Go.Ab.part, List.getD_cons_zero, List.getD_cons_succ, List.set_cons_zero, List.set_cons_succ, List.length_cons, List.length_nil, List.cons_append, List.nil_append, cond_true, cond_false, Bool.cond_true, reduceCtorEq, Option.map_some, Option.map_none, forall_const, ne_eq, implies_true, Nat.reduceAdd, Nat.reduceLeDiff, Nat.reduceLT, Nat.beq, Option.isNone_none, beq_self_eq_true, bne_self_eq_false, Int.reduceBEq, Int.reduceBNe, Int.reduceLT, Int.reduceLE, Int.reduceGT, Int.reduceGE, Int.reduceEq, Int.reduceNe, Int.reduceToNat, List.take_zero, List.drop_zero, List.all_cons, List.all_nil, List.append_nil, List.length_append, List.length_set, List.append_assoc, List.drop_nil, List.take_nil] <;> try simp -dsimp only [if_conj])
  refine rRight_ok (by omega) ?_
  unfold addR at hK
  by_cases hrs : (txt s).length = s.length ∧ s.length ≤ 200
  · rw [if_neg (not_not_intro hrs)] at hK
    rw [show decide ((txt s).length = s.length ∧ s.length ≤ 200) = true from decide_eq_true hrs]
    (simp +contextual -dsimp only [R10, evA, evB, ↓a_on_t, ↓a_on_f, ↓a_on_und, ↓a_cond_b, ↓reduceIte, Go.Ab.part, List.getD_cons_zero, List.getD_cons_succ, List.set_cons_zero, List.set_cons_succ, List.length_cons, List.length_nil, List.cons_append, List.nil_append, cond_true, cond_false, Bool.cond_true, reduceCtorEq, Option.map_some, Option.map_none, forall_const, ne_eq, implies_true, Nat.reduceAdd, Nat.reduceLeDiff, Nat.reduceLT, Nat.beq, Option.isNone_none, beq_self_eq_true, bne_self_eq_false, Int.reduceBEq, Int.reduceBNe, Int.reduceLT, Int.reduceLE, Int.reduceGT, Int.reduceGE, Int.reduceEq, Int.reduceNe, Int.reduceToNat, List.take_zero, List.drop_zero, List.all_cons, List.all_nil, List.append_nil, List.length_append, List.length_set, List.append_assoc, List.drop_nil, List.take_nil] <;> try simp -dsimp only [if_conj])
    refine rpFind_ok i (by omega) ?_
    cases hp : placeOf 0 L s with
    | some a =>
      rw [hp] at hK
      (simp +contextual -dsimp only [R10, evA, evB, ↓a_on_t, ↓a_on_f, ↓a_on_und, ↓a_cond_b, ↓reduceIte, Go.Ab.part, List.getD_cons_zero, List.getD_cons_succ, List.set_cons_zero, List.set_cons_succ, List.length_cons, List.length_nil, List.cons_append, List.nil_append, cond_true, cond_false, Bool.cond_true, reduceCtorEq, Option.map_some, Option.map_none, forall_const, ne_eq, implies_true, Nat.reduceAdd, Nat.reduceLeDiff, Nat.reduceLT, Nat.beq, Option.isNone_none, beq_self_eq_true, bne_self_eq_false, Int.reduceBEq, Int.reduceBNe, Int.reduceLT, Int.reduceLE, Int.reduceGT, Int.reduceGE, Int.reduceEq, Int.reduceNe, Int.reduceToNat, List.take_zero, List.drop_zero, List.all_cons, List.all_nil, List.append_nil, List.length_append, List.length_set, List.append_assoc, List.drop_nil, List.take_nil, Option.getD_some, Option.isSome_some] <;> try simp -dsimp only [if_conj])
      exact hK _ _ i (OnlyP.keeps (Keeps.refl _)) (fun _ _ h => h)
    | none =>
      rw [hp] at hK
      simp only at hK
      (simp +contextual -dsimp only [R10, evA, evB, ↓a_on_t, ↓a_on_f, ↓a_on_und, ↓a_cond_b, ↓reduceIte, Go.Ab.part, List.getD_cons_zero, List.getD_cons_succ, List.set_cons_zero, List.set_cons_succ, List.length_cons, List.length_nil, List.cons_append, List.nil_append, cond_true, cond_false, Bool.cond_true, reduceCtorEq, Option.map_some, Option.map_none, forall_const, ne_eq, implies_true, Nat.reduceAdd, Nat.reduceLeDiff, Nat.reduceLT, Nat.beq, Option.isNone_none, beq_self_eq_true, bne_self_eq_false, Int.reduceBEq, Int.reduceBNe, Int.reduceLT, Int.reduceLE, Int.reduceGT, Int.reduceGE, Int.reduceEq, Int.reduceNe, Int.reduceToNat, List.take_zero, List.drop_zero, List.all_cons, List.all_nil, List.append_nil, List.length_append, List.length_set, List.append_assoc, List.drop_nil, List.take_nil, Option.getD_none, Option.isSome_none] <;> try simp -dsimp only [if_conj])
      refine rpBytes_ok i hr (by omega) fun h1 r k1 i1 => ?_
      have hlen := fun K => i1.len (K := K)
      have ip1 := i.keeps k1
      have kl := k1.len
      have hw1 : IntKind.i64.wrap (((cat L).length : Int) + (s.length : Nat)) = (((cat L).length + s.length : Nat) : Int) := by rw [wrap_i64 (by omega) (by omega)]; omega
      have hw2 : IntKind.i64.wrap ((((cat L).length + s.length : Nat) : Int) + 1) = (((cat L).length + s.length + 1 : Nat) : Int) := by rw [wrap_i64 (by omega) (by omega)]; omega
      have hw3 : IntKind.u64.wrap ((cat L).length : Int) = ((cat L).length : Nat) := wrap_u64 (by omega) (by omega)
      by_cases hb : (cat L).length + s.length + 1 > 65536
      · rw [if_pos hb] at hK
        have hb' : decide ((((cat L).length + s.length + 1 : Nat) : Int) > 65536) = true := by simp; omega
        (simp +contextual -dsimp only [R10, evA, evB, ↓a_on_t, ↓a_on_f, ↓a_on_und, ↓a_cond_b, ↓reduceIte, Go.Ab.part, List.getD_cons_zero, List.getD_cons_succ, List.set_cons_zero, List.set_cons_succ, List.length_cons, List.length_nil, List.cons_append, List.nil_append, cond_true, cond_false, Bool.cond_true, reduceCtorEq, Option.map_some, Option.map_none, forall_const, ne_eq, implies_true, Nat.reduceAdd, Nat.reduceLeDiff, Nat.reduceLT, Nat.beq, Option.isNone_none, beq_self_eq_true, bne_self_eq_false, Int.reduceBEq, Int.reduceBNe, Int.reduceLT, Int.reduceLE, Int.reduceGT, Int.reduceGE, Int.reduceEq, Int.reduceNe, Int.reduceToNat, List.take_zero, List.drop_zero, List.all_cons, List.all_nil, List.append_nil, List.length_append, List.length_set, List.append_assoc, List.drop_nil, List.take_nil, hlen, mkStr_size, hw1, hw2, hb'] <;> try simp -dsimp only [if_conj])
        exact hK _ _ ip1 (OnlyP.keeps k1) (fun _ _ h => h)
      · rw [if_neg hb] at hK
        have hb' : decide ((((cat L).length + s.length + 1 : Nat) : Int) > 65536) = false := by simp; omega
        have hli1 := hlt ip1.p (by simp)
        rcases ip1.s with ⟨rfl, rfl⟩ | ⟨lid, rfl, gl⟩
        · (simp +contextual -dsimp only [R10, evA, evB, ↓a_on_t, ↓a_on_f, ↓a_on_und, ↓a_cond_b, ↓reduceIte, Go.Ab.part, List.getD_cons_zero, List.getD_cons_succ, List.set_cons_zero, List.set_cons_succ, List.length_cons, List.length_nil, List.cons_append, List.nil_append, cond_true, cond_false, Bool.cond_true, reduceCtorEq, Option.map_some, Option.map_none, forall_const, ne_eq, implies_true, Nat.reduceAdd, Nat.reduceLeDiff, Nat.reduceLT, Nat.beq, Option.isNone_none, beq_self_eq_true, bne_self_eq_false, Int.reduceBEq, Int.reduceBNe, Int.reduceLT, Int.reduceLE, Int.reduceGT, Int.reduceGE, Int.reduceEq, Int.reduceNe, Int.reduceToNat, List.take_zero, List.drop_zero, List.all_cons, List.all_nil, List.append_nil, List.length_append, List.length_set, List.append_assoc, List.drop_nil, List.take_nil, hlen, mkStr_size, hw1, hw2, hb', ip1.p, fill, setAt, hget_new, hget_app ip1.p] <;> try simp -dsimp only [if_conj])
          have hne : ¬ h1.length = id := by omega
          refine ⟨⟨by omega, rfl⟩, ?_⟩
          rw [show IntKind.u64.wrap ((cat ([] : List (List UInt8))).length : Int) = 0 from rfl]
          refine hK _ (.s (h1.length + 1) 0 1) ⟨hget_set (by simp; omega), .inr ⟨h1.length + 1, rfl, by rw [hget_set_ne (by omega), hget_new1]; rfl⟩⟩ ⟨by simp; omega, fun j hj h2 _ => ?_⟩ (fun j hj _ a b c e => by cases e; omega)
          rw [hget_set_ne (Ne.symm h2), Adds.mk.at (by omega)]; exact k1.get hj
        · have et : ∀ x : AV, List.take 1 [x] = [x] := fun _ => rfl
          have eA : (strs L).take L.length = strs L := List.take_of_length_le (by rw [strs_len]; exact Nat.le_refl _)
          have hlid := hlt gl (by simp)
          have hne : lid ≠ id := fun e => by
            rw [e, ip1.p] at gl
            cases L <;> simp [strs] at gl
          have gpx : ∀ a b, ((h1 ++ [a]).set lid .dead ++ [b]).getD id .dead = .o 1 [.s lid 0 L.length] := fun a b => ap_keep ip1.p (by simp) hne
          (simp +contextual -dsimp only [R10, evA, evB, ↓a_on_t, ↓a_on_f, ↓a_on_und, ↓a_cond_b, ↓reduceIte, Go.Ab.part, List.getD_cons_zero, List.getD_cons_succ, List.set_cons_zero, List.set_cons_succ, List.length_cons, List.length_nil, List.cons_append, List.nil_append, cond_true, cond_false, Bool.cond_true, reduceCtorEq, Option.map_some, Option.map_none, forall_const, ne_eq, implies_true, Nat.reduceAdd, Nat.reduceLeDiff, Nat.reduceLT, Nat.beq, Option.isNone_none, beq_self_eq_true, bne_self_eq_false, Int.reduceBEq, Int.reduceBNe, Int.reduceLT, Int.reduceLE, Int.reduceGT, Int.reduceGE, Int.reduceEq, Int.reduceNe, Int.reduceToNat, List.take_zero, List.drop_zero, List.all_cons, List.all_nil, List.append_nil, List.length_append, List.length_set, List.append_assoc, List.drop_nil, List.take_nil, hlen, mkStr_size, hw1, hw2, hb', hw3, ip1.p, fill, setAt, hget_new, hget_app ip1.p, hget_app gl, et, eA, strs_snoc, gpx] <;> try simp -dsimp only [if_conj])
          refine ⟨⟨by omega, by rw [strs_len]; exact Nat.le_refl _, by omega⟩, ?_⟩
          have hn : L.length + 1 = (L ++ [s]).length := by simp
          rw [hn]
          refine hK _ (.s (h1.length + 1) 0 (L ++ [s]).length) ⟨hget_set (by simp; omega), .inr ⟨h1.length + 1, rfl, by rw [hget_set_ne (by omega)]; exact ap_get⟩⟩ ⟨by simp; omega, fun j hj h2 h3 => ?_⟩ (fun j hj _ a b c e => by cases e; omega)
          have hjl : lid ≠ j := h3 _ _ _ rfl
          rw [hget_set_ne (Ne.symm h2), List.getD_eq_getElem?_getD, List.getElem?_append_left (by simp; omega), List.getElem?_set_ne hjl, ← List.getD_eq_getElem?_getD, Adds.mk.at (by omega)]; exact k1.get hj
  · rw [if_pos hrs] at hK
    rw [show decide ((txt s).length = s.length ∧ s.length ≤ 200) = false from decide_eq_false hrs]
    (simp +contextual -dsimp only [R10, evA, evB, ↓a_on_t, ↓a_on_f, ↓a_on_und, ↓a_cond_b, ↓reduceIte, Go.Ab.part, List.getD_cons_zero, List.getD_cons_succ, List.set_cons_zero, List.set_cons_succ, List.length_cons, List.length_nil, List.cons_append, List.nil_append, cond_true, cond_false, Bool.cond_true, reduceCtorEq, Option.map_some, Option.map_none, forall_const, ne_eq, implies_true, Nat.reduceAdd, Nat.reduceLeDiff, Nat.reduceLT, Nat.beq, Option.isNone_none, beq_self_eq_true, bne_self_eq_false, Int.reduceBEq, Int.reduceBNe, Int.reduceLT, Int.reduceLE, Int.reduceGT, Int.reduceGE, Int.reduceEq, Int.reduceNe, Int.reduceToNat, List.take_zero, List.drop_zero, List.all_cons, List.all_nil, List.append_nil, List.length_append, List.length_set, List.append_assoc, List.drop_nil, List.take_nil] <;> try simp -dsimp only [if_conj])
    exact hK _ _ i (OnlyP.keeps (Keeps.refl _)) (fun _ _ h => h)
/-- no pool, or one without a map -/
def NoP (x : AV) (h : Heap) : Prop := x = .v (.pointer none) ∨ ∃ id, x = .p id 0 ∧ h.getD id .dead = .o 1 [.v (.map none), .v (.slice none 0 0)]
theorem nAdd_ok {x s : AV} (i : NoP x h) (hK : K.K (.t [U 0, I 1]) h) : ACall X 9 [x, s] h K := by
  apply i9
  rcases i with rfl | ⟨id, rfl, g⟩
  · (simp +contextual -dsimp only [R9, evA, evB, ↓a_on_t, ↓a_on_f, ↓a_on_und, ↓a_cond_b, ↓reduceIte, Go.Ab.part, List.getD_cons_zero, List.getD_cons_succ, List.set_cons_zero, List.set_cons_succ, List.length_cons, List.length_nil, List.cons_append, List.nil_append, cond_true, cond_false, Bool.cond_true, reduceCtorEq, Option.map_some, Option.map_none, forall_const, ne_eq, implies_true, Nat.reduceAdd, Nat.reduceLeDiff, Nat.reduceLT, Nat.beq, Option.isNone_none, beq_self_eq_true, bne_self_eq_false, Int.reduceBEq, Int.reduceBNe, Int.reduceLT, Int.reduceLE, Int.reduceGT, Int.reduceGE, Int.reduceEq, Int.reduceNe, Int.reduceToNat, List.take_zero, List.drop_zero, List.all_cons, List.all_nil, List.append_nil, List.length_append, List.length_set, List.append_assoc, List.drop_nil, List.take_nil] <;> try simp -dsimp only [if_conj])
    exact hK
  · (simp +contextual -dsimp only [R9, evA, evB, ↓a_on_t, ↓a_on_f, ↓a_on_und, ↓a_cond_b, ↓reduceIte, Go.Ab.part, List.getD_cons_zero, List.getD_cons_succ, List.set_cons_zero, List.set_cons_succ, List.length_cons, List.length_nil, List.cons_append, List.nil_append, cond_true, cond_false, Bool.cond_true, reduceCtorEq, Option.map_some, Option.map_none, forall_const, ne_eq, implies_true, Nat.reduceAdd, Nat.reduceLeDiff, Nat.reduceLT, Nat.beq, Option.isNone_none, beq_self_eq_true, bne_self_eq_false, Int.reduceBEq, Int.reduceBNe, Int.reduceLT, Int.reduceLE, Int.reduceGT, Int.reduceGE, Int.reduceEq, Int.reduceNe, Int.reduceToNat, List.take_zero, List.drop_zero, List.all_cons, List.all_nil, List.append_nil, List.length_append, List.length_set, List.append_assoc, List.drop_nil, List.take_nil, g] <;> try simp -dsimp only [if_conj])
    exact hK
theorem nFind_ok {x s : AV} (i : NoP x h) (hK : K.K (.t [U 0, Bo false]) h) : ACall X 11 [x, s] h K := by
  apply i11
  rcases i with rfl | ⟨id, rfl, g⟩
  · (simp +contextual -dsimp only [R11, evA, evB, ↓a_on_t, ↓a_on_f, ↓a_on_und, ↓a_cond_b, ↓reduceIte, Go.Ab.part, List.getD_cons_zero, List.getD_cons_succ, List.set_cons_zero, List.set_cons_succ, List.length_cons, List.length_nil, List.cons_append, List.nil_append, cond_true, cond_false, Bool.cond_true, reduceCtorEq, Option.map_some, Option.map_none, forall_const, ne_eq, implies_true, Nat.reduceAdd, Nat.reduceLeDiff, Nat.reduceLT, Nat.beq, Option.isNone_none, beq_self_eq_true, bne_self_eq_false, Int.reduceBEq, Int.reduceBNe, Int.reduceLT, Int.reduceLE, Int.reduceGT, Int.reduceGE, Int.reduceEq, Int.reduceNe, Int.reduceToNat, List.take_zero, List.drop_zero, List.all_cons, List.all_nil, List.append_nil, List.length_append, List.length_set, List.append_assoc, List.drop_nil, List.take_nil] <;> try simp -dsimp only [if_conj])
    exact hK
  · (simp +contextual -dsimp only [R11, evA, evB, ↓a_on_t, ↓a_on_f, ↓a_on_und, ↓a_cond_b, ↓reduceIte, Go.Ab.part, List.getD_cons_zero, List.getD_cons_succ, List.set_cons_zero, List.set_cons_succ, List.length_cons, List.length_nil, List.cons_append, List.nil_append, cond_true, cond_false, Bool.cond_true, reduceCtorEq, Option.map_some, Option.map_none, forall_const, ne_eq, implies_true, Nat.reduceAdd, Nat.reduceLeDiff, Nat.reduceLT, Nat.beq, Option.isNone_none, beq_self_eq_true, bne_self_eq_false, Int.reduceBEq, Int.reduceBNe, Int.reduceLT, Int.reduceLE, Int.reduceGT, Int.reduceGE, Int.reduceEq, Int.reduceNe, Int.reduceToNat, List.take_zero, List.drop_zero, List.all_cons, List.all_nil, List.append_nil, List.length_append, List.length_set, List.append_assoc, List.drop_nil, List.take_nil, g] <;> try simp -dsimp only [if_conj])
    exact hK
theorem nCount_ok {x : AV} (i : NoP x h) (hK : K.K (I 0) h) : ACall X 15 [x] h K := by
  apply i15
  rcases i with rfl | ⟨id, rfl, g⟩
  · (simp +contextual -dsimp only [R15, evA, evB, ↓a_on_t, ↓a_on_f, ↓a_on_und, ↓a_cond_b, ↓reduceIte, Go.Ab.part, List.getD_cons_zero, List.getD_cons_succ, List.set_cons_zero, List.set_cons_succ, List.length_cons, List.length_nil, List.cons_append, List.nil_append, cond_true, cond_false, Bool.cond_true, reduceCtorEq, Option.map_some, Option.map_none, forall_const, ne_eq, implies_true, Nat.reduceAdd, Nat.reduceLeDiff, Nat.reduceLT, Nat.beq, Option.isNone_none, beq_self_eq_true, bne_self_eq_false, Int.reduceBEq, Int.reduceBNe, Int.reduceLT, Int.reduceLE, Int.reduceGT, Int.reduceGE, Int.reduceEq, Int.reduceNe, Int.reduceToNat, List.take_zero, List.drop_zero, List.all_cons, List.all_nil, List.append_nil, List.length_append, List.length_set, List.append_assoc, List.drop_nil, List.take_nil] <;> try simp -dsimp only [if_conj])
    exact hK
  · (simp +contextual -dsimp only [R15, evA, evB, ↓a_on_t, ↓a_on_f, ↓a_on_und, ↓a_cond_b, ↓reduceIte, Go.Ab.part, List.getD_cons_zero, List.getD_cons_succ, List.set_cons_zero, List.set_cons_succ, List.length_cons, List.length_nil, List.cons_append, List.nil_append, cond_true, cond_false, Bool.cond_true, reduceCtorEq, Option.map_some, Option.map_none, forall_const, ne_eq, implies_true, Nat.reduceAdd, Nat.reduceLeDiff, Nat.reduceLT, Nat.beq, Option.isNone_none, beq_self_eq_true, bne_self_eq_false, Int.reduceBEq, Int.reduceBNe, Int.reduceLT, Int.reduceLE, Int.reduceGT, Int.reduceGE, Int.reduceEq, Int.reduceNe, Int.reduceToNat, List.take_zero, List.drop_zero, List.all_cons, List.all_nil, List.append_nil, List.length_append, List.length_set, List.append_assoc, List.drop_nil, List.take_nil, g] <;> try simp -dsimp only [if_conj])
    exact hK
theorem nPBytes_ok {x : AV} (i : NoP x h) (hK : ∀ h' r, Keeps h h' → IsB [] r h' → K.K r h') : ACall X 13 [x] h K := by
  apply i13
  rcases i with rfl | ⟨id, rfl, g⟩
  · (simp +contextual -dsimp only [R13, evA, evB, ↓a_on_t, ↓a_on_f, ↓a_on_und, ↓a_cond_b, ↓reduceIte, Go.Ab.part, List.getD_cons_zero, List.getD_cons_succ, List.set_cons_zero, List.set_cons_succ, List.length_cons, List.length_nil, List.cons_append, List.nil_append, cond_true, cond_false, Bool.cond_true, reduceCtorEq, Option.map_some, Option.map_none, forall_const, ne_eq, implies_true, Nat.reduceAdd, Nat.reduceLeDiff, Nat.reduceLT, Nat.beq, Option.isNone_none, beq_self_eq_true, bne_self_eq_false, Int.reduceBEq, Int.reduceBNe, Int.reduceLT, Int.reduceLE, Int.reduceGT, Int.reduceGE, Int.reduceEq, Int.reduceNe, Int.reduceToNat, List.take_zero, List.drop_zero, List.all_cons, List.all_nil, List.append_nil, List.length_append, List.length_set, List.append_assoc, List.drop_nil, List.take_nil] <;> try simp -dsimp only [if_conj])
    exact hK _ _ (Keeps.refl _) (.inl ⟨rfl, rfl⟩)
  · (simp +contextual -dsimp only [R13, evA, evB, ↓a_on_t, ↓a_on_f, ↓a_on_und, ↓a_cond_b, ↓reduceIte, Go.Ab.part, List.getD_cons_zero, List.getD_cons_succ, List.set_cons_zero, List.set_cons_succ, List.length_cons, List.length_nil, List.cons_append, List.nil_append, cond_true, cond_false, Bool.cond_true, reduceCtorEq, Option.map_some, Option.map_none, forall_const, ne_eq, implies_true, Nat.reduceAdd, Nat.reduceLeDiff, Nat.reduceLT, Nat.beq, Option.isNone_none, beq_self_eq_true, bne_self_eq_false, Int.reduceBEq, Int.reduceBNe, Int.reduceLT, Int.reduceLE, Int.reduceGT, Int.reduceGE, Int.reduceEq, Int.reduceNe, Int.reduceToNat, List.take_zero, List.drop_zero, List.all_cons, List.all_nil, List.append_nil, List.length_append, List.length_set, List.append_assoc, List.drop_nil, List.take_nil, g, fill, hget_app g, hget_new] <;> try simp -dsimp only [if_conj])
    refine ⟨trivial, hK _ _ ((Keeps.adds Adds.mk).push (Nat.le_refl _)) (IsB.s (l := []) ?_)⟩
    rw [show h.length + 1 = ((h ++ [AO.o 1 []]).set h.length .dead).length by simp]; exact hget_new
theorem works04_ok (hK : ∀ h', Keeps h h' → K.K (Bo true) h') : ACall X 8 [] h K := by
  apply i8
  (simp +contextual -dsimp only [R8, evA, evB, ↓a_on_t, ↓a_on_f, ↓a_on_und, ↓a_cond_b, ↓reduceIte, Go.Ab.part, List.getD_cons_zero, List.getD_cons_succ, List.set_cons_zero, List.set_cons_succ, List.length_cons, List.length_nil, List.cons_append, List.nil_append, cond_true, cond_false, Bool.cond_true, reduceCtorEq, Option.map_some, Option.map_none, forall_const, ne_eq, implies_true, Nat.reduceAdd, Nat.reduceLeDiff, Nat.reduceLT, Nat.beq, Option.isNone_none, beq_self_eq_true, bne_self_eq_false, Int.reduceBEq, Int.reduceBNe, Int.reduceLT, Int.reduceLE, Int.reduceGT, Int.reduceGE, Int.reduceEq, Int.reduceNe, Int.reduceToNat, List.take_zero, List.drop_zero, List.all_cons, List.all_nil, List.append_nil, List.length_append, List.length_set, List.append_assoc, List.drop_nil, List.take_nil] <;> try simp -dsimp only [if_conj])
  refine New04_ok ?_
  have i0 : IsPool [] (h.length + 1) h.length (.v (.slice none 0 0)) (h ++ [.m [], .o 1 [.m h.length, .v (.slice none 0 0)]]) := ⟨hget_new1, hget_new, .inl ⟨rfl, rfl⟩⟩
  (simp +contextual -dsimp only [R8, evA, evB, ↓a_on_t, ↓a_on_f, ↓a_on_und, ↓a_cond_b, ↓reduceIte, Go.Ab.part, List.getD_cons_zero, List.getD_cons_succ, List.set_cons_zero, List.set_cons_succ, List.length_cons, List.length_nil, List.cons_append, List.nil_append, cond_true, cond_false, Bool.cond_true, reduceCtorEq, Option.map_some, Option.map_none, forall_const, ne_eq, implies_true, Nat.reduceAdd, Nat.reduceLeDiff, Nat.reduceLT, Nat.beq, Option.isNone_none, beq_self_eq_true, bne_self_eq_false, Int.reduceBEq, Int.reduceBNe, Int.reduceLT, Int.reduceLE, Int.reduceGT, Int.reduceGE, Int.reduceEq, Int.reduceNe, Int.reduceToNat, List.take_zero, List.drop_zero, List.all_cons, List.all_nil, List.append_nil, List.length_append, List.length_set, List.append_assoc, List.drop_nil, List.take_nil] <;> try simp -dsimp only [if_conj])
  refine pAdd_ok (s := [97, 98]) i0 (by decide) (by decide) fun h1 t1 i1 o1 q1 => ?_
  have e1 : addR [] [97, 98] = ((0, 0), [[97, 98]]) := by rfl
  rw [e1] at i1 ⊢
  (simp +contextual -dsimp only [R8, evA, evB, ↓a_on_t, ↓a_on_f, ↓a_on_und, ↓a_cond_b, ↓reduceIte, Go.Ab.part, List.getD_cons_zero, List.getD_cons_succ, List.set_cons_zero, List.set_cons_succ, List.length_cons, List.length_nil, List.cons_append, List.nil_append, cond_true, cond_false, Bool.cond_true, reduceCtorEq, Option.map_some, Option.map_none, forall_const, ne_eq, implies_true, Nat.reduceAdd, Nat.reduceLeDiff, Nat.reduceLT, Nat.beq, Option.isNone_none, beq_self_eq_true, bne_self_eq_false, Int.reduceBEq, Int.reduceBNe, Int.reduceLT, Int.reduceLE, Int.reduceGT, Int.reduceGE, Int.reduceEq, Int.reduceNe, Int.reduceToNat, List.take_zero, List.drop_zero, List.all_cons, List.all_nil, List.append_nil, List.length_append, List.length_set, List.append_assoc, List.drop_nil, List.take_nil] <;> try simp -dsimp only [if_conj])
  refine pAdd_ok (s := [99]) i1 (by decide) (by decide) fun h2 t2 i2 o2 q2 => ?_
  have e2 : addR [[97, 98]] [99] = ((3, 0), [[97, 98], [99]]) := by rfl
  rw [e2] at i2 ⊢
  (simp +contextual -dsimp only [R8, evA, evB, ↓a_on_t, ↓a_on_f, ↓a_on_und, ↓a_cond_b, ↓reduceIte, Go.Ab.part, List.getD_cons_zero, List.getD_cons_succ, List.set_cons_zero, List.set_cons_succ, List.length_cons, List.length_nil, List.cons_append, List.nil_append, cond_true, cond_false, Bool.cond_true, reduceCtorEq, Option.map_some, Option.map_none, forall_const, ne_eq, implies_true, Nat.reduceAdd, Nat.reduceLeDiff, Nat.reduceLT, Nat.beq, Option.isNone_none, beq_self_eq_true, bne_self_eq_false, Int.reduceBEq, Int.reduceBNe, Int.reduceLT, Int.reduceLE, Int.reduceGT, Int.reduceGE, Int.reduceEq, Int.reduceNe, Int.reduceToNat, List.take_zero, List.drop_zero, List.all_cons, List.all_nil, List.append_nil, List.length_append, List.length_set, List.append_assoc, List.drop_nil, List.take_nil] <;> try simp -dsimp only [if_conj])
  refine pAdd_ok (s := [97, 98]) i2 (by decide) (by decide) fun h3 t3 i3 o3 q3 => ?_
  have e3 : addR [[97, 98], [99]] [97, 98] = ((0, 0), [[97, 98], [99]]) := by rfl
  rw [e3] at i3 ⊢
  (simp +contextual -dsimp only [R8, evA, evB, ↓a_on_t, ↓a_on_f, ↓a_on_und, ↓a_cond_b, ↓reduceIte, Go.Ab.part, List.getD_cons_zero, List.getD_cons_succ, List.set_cons_zero, List.set_cons_succ, List.length_cons, List.length_nil, List.cons_append, List.nil_append, cond_true, cond_false, Bool.cond_true, reduceCtorEq, Option.map_some, Option.map_none, forall_const, ne_eq, implies_true, Nat.reduceAdd, Nat.reduceLeDiff, Nat.reduceLT, Nat.beq, Option.isNone_none, beq_self_eq_true, bne_self_eq_false, Int.reduceBEq, Int.reduceBNe, Int.reduceLT, Int.reduceLE, Int.reduceGT, Int.reduceGE, Int.reduceEq, Int.reduceNe, Int.reduceToNat, List.take_zero, List.drop_zero, List.all_cons, List.all_nil, List.append_nil, List.length_append, List.length_set, List.append_assoc, List.drop_nil, List.take_nil] <;> try simp -dsimp only [if_conj])
  have n0 : ∀ j, otherS (.v (.slice none 0 0)) j := fun j a b c e => by cases e
  have k3 : Keeps h h3 := by
    have l1 := o1.1; have l2 := o2.1; have l3 := o3.1
    simp only [List.length_append, List.length_cons, List.length_nil] at l1
    refine ⟨by omega, fun {j} hj => ?_⟩
    have t1j := q1 j (by simp; omega) (n0 j)
    have t2j := q2 j (by omega) t1j
    rw [o3.2 j (by omega) (by omega) (by omega) t2j, o2.2 j (by omega) (by omega) (by omega) t1j, o1.2 j (by simp; omega) (by omega) (by omega) (n0 j), Adds.mk.at hj]
  refine ⟨fun e => absurd e (by decide), fun _ => ⟨fun e => absurd e (by decide), fun _ => ?_⟩⟩
  refine pBytes_ok i3 (by decide) fun h4 r k4 _ g4 => ?_
  have s4 := fun K => (IsB.s g4).cstr (K := K)
  have d1 : decide (mkStr (cat [[97, 98], [99]]) = ⟨#[97, 98, 0, 99, 0]⟩) = true := decide_eq_true rfl
  (simp +contextual -dsimp only [R8, evA, evB, ↓a_on_t, ↓a_on_f, ↓a_on_und, ↓a_cond_b, ↓reduceIte, Go.Ab.part, List.getD_cons_zero, List.getD_cons_succ, List.set_cons_zero, List.set_cons_succ, List.length_cons, List.length_nil, List.cons_append, List.nil_append, cond_true, cond_false, Bool.cond_true, reduceCtorEq, Option.map_some, Option.map_none, forall_const, ne_eq, implies_true, Nat.reduceAdd, Nat.reduceLeDiff, Nat.reduceLT, Nat.beq, Option.isNone_none, beq_self_eq_true, bne_self_eq_false, Int.reduceBEq, Int.reduceBNe, Int.reduceLT, Int.reduceLE, Int.reduceGT, Int.reduceGE, Int.reduceEq, Int.reduceNe, Int.reduceToNat, List.take_zero, List.drop_zero, List.all_cons, List.all_nil, List.append_nil, List.length_append, List.length_set, List.append_assoc, List.drop_nil, List.take_nil, s4, d1, fill, setAt] <;> try simp -dsimp only [if_conj])
  have k5 := k3.trans k4
  refine aloop (fun m st => ∃ n h5, m + n = 2 ∧ Keeps (h4 ++ [.o 1 [.v (.map none), .v (.slice none 0 0)], .o 1 [.v (.pointer none), .p h4.length 0]]) h5 ∧ st = ((sl st.1 0 :: sl st.1 1 :: sl st.1 2 :: sl st.1 3 :: sl st.1 4 :: sl st.1 5 :: sl st.1 6 :: sl st.1 7 :: sl st.1 8 :: sl st.1 9 :: sl st.1 10 :: sl st.1 11 :: sl st.1 12 :: sl st.1 13 :: sl st.1 14 :: sl st.1 15 :: sl st.1 16 :: sl st.1 17 :: sl st.1 18 :: sl st.1 19 :: sl st.1 20 :: sl st.1 21 :: sl st.1 22 :: sl st.1 23 :: sl st.1 24 :: sl st.1 25 :: sl st.1 26 :: sl st.1 27 :: sl st.1 28 :: sl st.1 29 :: sl st.1 30 :: sl st.1 31 :: sl st.1 32 :: sl st.1 33 :: sl st.1 34 :: sl st.1 35 :: sl st.1 36 :: sl st.1 37 :: sl st.1 38 :: sl st.1 39 :: sl st.1 40 :: sl st.1 41 :: sl st.1 42 :: sl st.1 43 :: sl st.1 44 :: sl st.1 45 :: sl st.1 46 :: sl st.1 47 :: sl st.1 48 :: sl st.1 49 :: sl st.1 50 :: sl st.1 51 :: sl st.1 52 :: sl st.1 53 :: sl st.1 54 :: sl st.1 55 :: sl st.1 56 :: sl st.1 57 :: sl st.1 58 :: sl st.1 59 :: .s (h4.length + 1) 0 2 :: I 2 :: I n :: sl st.1 63 :: sl st.1 64 :: sl st.1 65 :: sl st.1 66 :: sl st.1 67 :: sl st.1 68 :: sl st.1 69 :: sl st.1 70 :: sl st.1 71 :: sl st.1 72 :: sl st.1 73 :: sl st.1 74 :: sl st.1 75 :: sl st.1 76 :: sl st.1 77 :: sl st.1 78 :: sl st.1 79 :: sl st.1 80 :: sl st.1 81 :: sl st.1 82 :: sl st.1 83 :: sl st.1 84 :: sl st.1 85 :: sl st.1 86 :: sl st.1 87 :: sl st.1 88 :: sl st.1 89 :: sl st.1 90 :: sl st.1 91 :: sl st.1 92 :: []), h5)) 2
    _ (by have := k5.len; simp; omega) (Weak.refl _ (by have := k5.len; simp; omega)) ⟨0, _, by omega, Keeps.refl _, rfl⟩ ?_
  rintro m st ⟨n, h5, hm, k6, hst⟩
  rw [hst]
  have gl : h5.getD (h4.length + 1) .dead = .o 1 [.v (.pointer none), .p h4.length 0] := k6.at hget_new1 (by simp)
  have gp : h5.getD h4.length .dead = .o 1 [.v (.map none), .v (.slice none 0 0)] := k6.at hget_new (by simp)
  have kl6 := k6.len
  have kl5 := k5.len
  simp only [List.length_append, List.length_cons, List.length_nil] at kl6
  by_cases hz : n < 2
  · have hz' : decide ((n : Int) < 2) = true := by simp; omega
    have hn1 : IntKind.i64.wrap ((n : Int) + 1) = ((n + 1 : Nat) : Int) := by rw [wrap_i64 (by omega) (by omega)]; rfl
    obtain ⟨x, hx, gx⟩ : ∃ x, NoP x h5 ∧ [AV.v (.pointer none), .p h4.length 0].getD n .bad = x := by
      match n, hz with
      | 0, _ => exact ⟨_, .inl rfl, rfl⟩
      | 1, _ => exact ⟨_, .inr ⟨_, rfl, gp⟩, rfl⟩
    (simp +contextual -dsimp only [R8, evA, evB, ↓a_on_t, ↓a_on_f, ↓a_on_und, ↓a_cond_b, ↓reduceIte, Go.Ab.part, List.getD_cons_zero, List.getD_cons_succ, List.set_cons_zero, List.set_cons_succ, List.length_cons, List.length_nil, List.cons_append, List.nil_append, cond_true, cond_false, Bool.cond_true, reduceCtorEq, Option.map_some, Option.map_none, forall_const, ne_eq, implies_true, Nat.reduceAdd, Nat.reduceLeDiff, Nat.reduceLT, Nat.beq, Option.isNone_none, beq_self_eq_true, bne_self_eq_false, Int.reduceBEq, Int.reduceBNe, Int.reduceLT, Int.reduceLE, Int.reduceGT, Int.reduceGE, Int.reduceEq, Int.reduceNe, Int.reduceToNat, List.take_zero, List.drop_zero, List.all_cons, List.all_nil, List.append_nil, List.length_append, List.length_set, List.append_assoc, List.drop_nil, List.take_nil, gl, hz', gx] <;> try simp -dsimp only [if_conj])
    refine ⟨⟨by omega, by omega⟩, by omega, ?_⟩
    refine nAdd_ok hx ?_
    (simp +contextual -dsimp only [R8, evA, evB, ↓a_on_t, ↓a_on_f, ↓a_on_und, ↓a_cond_b, ↓reduceIte, Go.Ab.part, List.getD_cons_zero, List.getD_cons_succ, List.set_cons_zero, List.set_cons_succ, List.length_cons, List.length_nil, List.cons_append, List.nil_append, cond_true, cond_false, Bool.cond_true, reduceCtorEq, Option.map_some, Option.map_none, forall_const, ne_eq, implies_true, Nat.reduceAdd, Nat.reduceLeDiff, Nat.reduceLT, Nat.beq, Option.isNone_none, beq_self_eq_true, bne_self_eq_false, Int.reduceBEq, Int.reduceBNe, Int.reduceLT, Int.reduceLE, Int.reduceGT, Int.reduceGE, Int.reduceEq, Int.reduceNe, Int.reduceToNat, List.take_zero, List.drop_zero, List.all_cons, List.all_nil, List.append_nil, List.length_append, List.length_set, List.append_assoc, List.drop_nil, List.take_nil] <;> try simp -dsimp only [if_conj])
    refine nFind_ok hx ?_
    (simp +contextual -dsimp only [R8, evA, evB, ↓a_on_t, ↓a_on_f, ↓a_on_und, ↓a_cond_b, ↓reduceIte, Go.Ab.part, List.getD_cons_zero, List.getD_cons_succ, List.set_cons_zero, List.set_cons_succ, List.length_cons, List.length_nil, List.cons_append, List.nil_append, cond_true, cond_false, Bool.cond_true, reduceCtorEq, Option.map_some, Option.map_none, forall_const, ne_eq, implies_true, Nat.reduceAdd, Nat.reduceLeDiff, Nat.reduceLT, Nat.beq, Option.isNone_none, beq_self_eq_true, bne_self_eq_false, Int.reduceBEq, Int.reduceBNe, Int.reduceLT, Int.reduceLE, Int.reduceGT, Int.reduceGE, Int.reduceEq, Int.reduceNe, Int.reduceToNat, List.take_zero, List.drop_zero, List.all_cons, List.all_nil, List.append_nil, List.length_append, List.length_set, List.append_assoc, List.drop_nil, List.take_nil] <;> try simp -dsimp only [if_conj])
    refine nPBytes_ok hx fun h6 r6 k7 i7 => ?_
    have hl7 : ∀ K, a_len r6 h6 K = K.K (I 0) h6 := fun K => i7.len (K := K)
    have hx7 : NoP x h6 := by
      rcases hx with e | ⟨id, e, g⟩
      · exact .inl e
      · exact .inr ⟨id, e, k7.at g (by simp)⟩
    (simp +contextual -dsimp only [R8, evA, evB, ↓a_on_t, ↓a_on_f, ↓a_on_und, ↓a_cond_b, ↓reduceIte, Go.Ab.part, List.getD_cons_zero, List.getD_cons_succ, List.set_cons_zero, List.set_cons_succ, List.length_cons, List.length_nil, List.cons_append, List.nil_append, cond_true, cond_false, Bool.cond_true, reduceCtorEq, Option.map_some, Option.map_none, forall_const, ne_eq, implies_true, Nat.reduceAdd, Nat.reduceLeDiff, Nat.reduceLT, Nat.beq, Option.isNone_none, beq_self_eq_true, bne_self_eq_false, Int.reduceBEq, Int.reduceBNe, Int.reduceLT, Int.reduceLE, Int.reduceGT, Int.reduceGE, Int.reduceEq, Int.reduceNe, Int.reduceToNat, List.take_zero, List.drop_zero, List.all_cons, List.all_nil, List.append_nil, List.length_append, List.length_set, List.append_assoc, List.drop_nil, List.take_nil, hl7] <;> try simp -dsimp only [if_conj])
    refine nCount_ok hx7 ?_
    (simp +contextual -dsimp only [R8, evA, evB, ↓a_on_t, ↓a_on_f, ↓a_on_und, ↓a_cond_b, ↓reduceIte, Go.Ab.part, List.getD_cons_zero, List.getD_cons_succ, List.set_cons_zero, List.set_cons_succ, List.length_cons, List.length_nil, List.cons_append, List.nil_append, cond_true, cond_false, Bool.cond_true, reduceCtorEq, Option.map_some, Option.map_none, forall_const, ne_eq, implies_true, Nat.reduceAdd, Nat.reduceLeDiff, Nat.reduceLT, Nat.beq, Option.isNone_none, beq_self_eq_true, bne_self_eq_false, Int.reduceBEq, Int.reduceBNe, Int.reduceLT, Int.reduceLE, Int.reduceGT, Int.reduceGE, Int.reduceEq, Int.reduceNe, Int.reduceToNat, List.take_zero, List.drop_zero, List.all_cons, List.all_nil, List.append_nil, List.length_append, List.length_set, List.append_assoc, List.drop_nil, List.take_nil, hn1] <;> try simp -dsimp only [if_conj])
    exact ⟨m - 1, _, by omega, Weak.refl _ (by have := k7.len; show h.length ≤ h6.length; omega), n + 1, _, by omega, k6.trans k7, rfl⟩
  · have hz' : decide ((n : Int) < 2) = false := by simp; omega
    (simp +contextual -dsimp only [R8, evA, evB, ↓a_on_t, ↓a_on_f, ↓a_on_und, ↓a_cond_b, ↓reduceIte, Go.Ab.part, List.getD_cons_zero, List.getD_cons_succ, List.set_cons_zero, List.set_cons_succ, List.length_cons, List.length_nil, List.cons_append, List.nil_append, cond_true, cond_false, Bool.cond_true, reduceCtorEq, Option.map_some, Option.map_none, forall_const, ne_eq, implies_true, Nat.reduceAdd, Nat.reduceLeDiff, Nat.reduceLT, Nat.beq, Option.isNone_none, beq_self_eq_true, bne_self_eq_false, Int.reduceBEq, Int.reduceBNe, Int.reduceLT, Int.reduceLE, Int.reduceGT, Int.reduceGE, Int.reduceEq, Int.reduceNe, Int.reduceToNat, List.take_zero, List.drop_zero, List.all_cons, List.all_nil, List.append_nil, List.length_append, List.length_set, List.append_assoc, List.drop_nil, List.take_nil, hz'] <;> try simp -dsimp only [if_conj])
    exact hK _ (k5.trans ((Keeps.adds Adds.mk).trans k6))
end Go.Proofs.Ytgpddpdhkhfdjaa
