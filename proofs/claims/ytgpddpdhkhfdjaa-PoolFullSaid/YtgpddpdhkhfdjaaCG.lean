import Derived.Test.YtgpddpdhkhfdjaaCF
import Derived.Test.YtgpddpdhkhfdjaaGC
set_option linter.unusedVariables false
set_option linter.unusedSimpArgs false
set_option maxRecDepth 100000
namespace Go.Proofs.Ytgpddpdhkhfdjaa
open Go.Ab
variable {h : Heap} {K : Kt}

/-- texts and where they stand, as a map -/
def kv : Nat → List (List UInt8) → List (AV × AV)
  | _, [] => []
  | o, s :: l => (.v (.string (mkStr s)), U o) :: kv (o + s.length + 1) l
def placeOf : Nat → List (List UInt8) → List UInt8 → Option Nat
  | _, [], _ => none
  | o, x :: l, s => if x = s then some o else placeOf (o + x.length + 1) l s
theorem kv_len : ∀ (o : Nat) (l : List (List UInt8)), (kv o l).length = l.length
  | _, [] => rfl
  | o, s :: l => by simp [kv, kv_len]
theorem kv_get : ∀ (l : List (List UInt8)) (o : Nat) (s : List UInt8), mget true (kv o l) (.v (.string (mkStr s))) = some ((placeOf o l s).map fun n => U n)
  | [], o, s => by simp [kv, mget, keq, placeOf]
  | x :: l, o, s => by
    unfold kv mget placeOf
    by_cases e : x = s
    · subst e; simp [keq]
    · have : decide (mkStr s = mkStr x) = false := by
        simp only [decide_eq_false_iff_not]; intro h; exact e (mkStr_inj.1 h).symm
      simp only [keq, cond_true, this, if_neg e]
      exact kv_get l _ s
theorem kv_put : ∀ (l : List (List UInt8)) (o : Nat) (s : List UInt8), placeOf o l s = none → mput true (kv o l) (.v (.string (mkStr s))) (U (o + (cat l).length : Nat)) = some (kv o (l ++ [s]))
  | [], o, s, _ => by simp [kv, mput, keq, cat]
  | x :: l, o, s, h => by
    unfold placeOf at h
    by_cases e : x = s
    · rw [if_pos e] at h; cases h
    · rw [if_neg e] at h
      have : decide (mkStr s = mkStr x) = false := by
        simp only [decide_eq_false_iff_not]; intro h; exact e (mkStr_inj.1 h).symm
      have ih := kv_put l _ s h
      rw [show o + (cat (x :: l)).length = o + x.length + 1 + (cat l).length by rw [cat_cons, List.length_append, List.length_cons]; omega]
      unfold kv mput
      simp only [keq, cond_true, this]
      rw [ih]; rfl
/-- a pool of such texts -/
structure IsPool (L : List (List UInt8)) (id mid : Nat) (tab : AV) (h : Heap) : Prop where
  p : h.getD id .dead = .o 1 [.m mid, tab]
  m : h.getD mid .dead = .m (kv 0 L)
  t : (tab = .v (.slice none 0 0) ∧ L = []) ∨ ∃ tid, tab = .s tid 0 (cat L).length ∧ h.getD tid .dead = .o 1 (byt (cat L)) ∧ L ≠ []
theorem IsPool.isB {L : List (List UInt8)} {id mid : Nat} {tab : AV} (i : IsPool L id mid tab h) : IsB (cat L) tab h := by
  rcases i.t with ⟨rfl, rfl⟩ | ⟨tid, rfl, e, _⟩
  · exact .inl ⟨rfl, rfl⟩
  · exact IsB.s e
theorem IsPool.move {L : List (List UInt8)} {id mid : Nat} {tab : AV} {h' : Heap} (i : IsPool L id mid tab h) (k : ∀ j o, h.getD j .dead = o → (j = id ∨ j = mid ∨ (∃ o l, tab = .s j o l)) → h'.getD j .dead = o) : IsPool L id mid tab h' := by
  refine ⟨k _ _ i.p (.inl rfl), k _ _ i.m (.inr (.inl rfl)), ?_⟩
  rcases i.t with h0 | ⟨tid, e1, e2, e3⟩
  · exact .inl h0
  · exact .inr ⟨tid, e1, k _ _ e2 (.inr (.inr ⟨_, _, e1⟩)), e3⟩
theorem IsPool.keeps {L : List (List UInt8)} {id mid : Nat} {tab : AV} {h' : Heap} (i : IsPool L id mid tab h) (k : Keeps h h') : IsPool L id mid tab h' :=
  ⟨k.at i.p (by simp), k.at i.m (by simp), by
    rcases i.t with h0 | ⟨tid, e1, e2, e3⟩
    · exact .inl h0
    · exact .inr ⟨tid, e1, k.at e2 (by simp), e3⟩⟩
theorem New04_ok (hK : K.K (.p (h.length + 1) 0) (h ++ [.m [], .o 1 [.m h.length, .v (.slice none 0 0)]])) : ACall X 7 [] h K := by
  apply i7
  (simp +contextual -dsimp only [R7, evA, evB, ↓a_on_t, ↓a_on_f, ↓a_on_und, ↓a_cond_b, ↓reduceIte, Go.Ab.part, List.getD_cons_zero, List.getD_cons_succ, List.set_cons_zero, List.set_cons_succ, List.length_cons, List.length_nil, List.cons_append, List.nil_append, cond_true, cond_false, Bool.cond_true, reduceCtorEq, Option.map_some, Option.map_none, forall_const, ne_eq, implies_true, Nat.reduceAdd, Nat.reduceLeDiff, Nat.reduceLT, Nat.beq, Option.isNone_none, beq_self_eq_true, bne_self_eq_false, Int.reduceBEq, Int.reduceBNe, Int.reduceLT, Int.reduceLE, Int.reduceGT, Int.reduceGE, Int.reduceEq, Int.reduceNe, Int.reduceToNat, List.take_zero, List.drop_zero, List.all_cons, List.all_nil, List.append_nil, List.length_append, List.length_set, List.append_assoc, List.drop_nil, List.take_nil, fill, setAt] <;> try simp -dsimp only [if_conj])
  exact hK
theorem pFind_ok {L : List (List UInt8)} {id mid : Nat} {tab : AV} {s : List UInt8} (i : IsPool L id mid tab h) (hK : K.K (.t [U ((placeOf 0 L s).getD 0 : Nat), Bo (placeOf 0 L s).isSome]) h) : ACall X 11 [.p id 0, .v (.string (mkStr s))] h K := by
  apply i11
  cases hp : placeOf 0 L s with
  | none =>
    have hg : mget true (kv 0 L) (.v (.string (mkStr s))) = some none := by rw [kv_get, hp]; rfl
    rw [hp] at hK
    (simp +contextual -dsimp only [R11, evA, evB, ↓a_on_t, ↓a_on_f, ↓a_on_und, ↓a_cond_b, ↓reduceIte, Go.Ab.part, List.getD_cons_zero, List.getD_cons_succ, List.set_cons_zero, List.set_cons_succ, List.length_cons, List.length_nil, List.cons_append, List.nil_append, cond_true, cond_false, Bool.cond_true, reduceCtorEq, Option.map_some, Option.map_none, forall_const, ne_eq, implies_true, Nat.reduceAdd, Nat.reduceLeDiff, Nat.reduceLT, Nat.beq, Option.isNone_none, beq_self_eq_true, bne_self_eq_false, Int.reduceBEq, Int.reduceBNe, Int.reduceLT, Int.reduceLE, Int.reduceGT, Int.reduceGE, Int.reduceEq, Int.reduceNe, Int.reduceToNat, List.take_zero, List.drop_zero, List.all_cons, List.all_nil, List.append_nil, List.length_append, List.length_set, List.append_assoc, List.drop_nil, List.take_nil, i.p, i.m, hg] <;> try simp -dsimp only [if_conj])
    exact hK
  | some n =>
    have hg : mget true (kv 0 L) (.v (.string (mkStr s))) = some (some (U n)) := by rw [kv_get, hp]; rfl
    rw [hp] at hK
    (simp +contextual -dsimp only [R11, evA, evB, ↓a_on_t, ↓a_on_f, ↓a_on_und, ↓a_cond_b, ↓reduceIte, Go.Ab.part, List.getD_cons_zero, List.getD_cons_succ, List.set_cons_zero, List.set_cons_succ, List.length_cons, List.length_nil, List.cons_append, List.nil_append, cond_true, cond_false, Bool.cond_true, reduceCtorEq, Option.map_some, Option.map_none, forall_const, ne_eq, implies_true, Nat.reduceAdd, Nat.reduceLeDiff, Nat.reduceLT, Nat.beq, Option.isNone_none, beq_self_eq_true, bne_self_eq_false, Int.reduceBEq, Int.reduceBNe, Int.reduceLT, Int.reduceLE, Int.reduceGT, Int.reduceGE, Int.reduceEq, Int.reduceNe, Int.reduceToNat, List.take_zero, List.drop_zero, List.all_cons, List.all_nil, List.append_nil, List.length_append, List.length_set, List.append_assoc, List.drop_nil, List.take_nil, i.p, i.m, hg] <;> try simp -dsimp only [if_conj])
    exact hK
theorem pBytes_ok {L : List (List UInt8)} {id mid : Nat} {tab : AV} (i : IsPool L id mid tab h) (hl : (cat L).length ≤ 1000000) (hK : ∀ h' r, Keeps h h' → h.length ≤ r → h'.getD r .dead = .o 1 (byt (cat L)) → K.K (.s r 0 (cat L).length) h') : ACall X 13 [.p id 0] h K := by
  have hbig : (6000000 : Nat) ≤ bigRoom := by decide
  apply i13
  have hs : srcCells 1 tab (h ++ [.o 1 []]) = some ((cat L).length, byt (cat L)) := (i.isB.adds Adds.mk).src
  have lp := hlt i.p (by simp)
  (simp +contextual -dsimp only [R13, evA, evB, ↓a_on_t, ↓a_on_f, ↓a_on_und, ↓a_cond_b, ↓reduceIte, Go.Ab.part, List.getD_cons_zero, List.getD_cons_succ, List.set_cons_zero, List.set_cons_succ, List.length_cons, List.length_nil, List.cons_append, List.nil_append, cond_true, cond_false, Bool.cond_true, reduceCtorEq, Option.map_some, Option.map_none, forall_const, ne_eq, implies_true, Nat.reduceAdd, Nat.reduceLeDiff, Nat.reduceLT, Nat.beq, Option.isNone_none, beq_self_eq_true, bne_self_eq_false, Int.reduceBEq, Int.reduceBNe, Int.reduceLT, Int.reduceLE, Int.reduceGT, Int.reduceGE, Int.reduceEq, Int.reduceNe, Int.reduceToNat, List.take_zero, List.drop_zero, List.all_cons, List.all_nil, List.append_nil, List.length_append, List.length_set, List.append_assoc, List.drop_nil, List.take_nil, i.p, fill, hget_app i.p, hs, hget_new] <;> try simp -dsimp only [if_conj])
  refine ⟨⟨by omega, i.isB.ne (Nat.le_refl _)⟩, hK _ _ ((Keeps.adds Adds.mk).push (Nat.le_refl _)) (by omega) ?_⟩
  rw [show h.length + 1 = ((h ++ [AO.o 1 []]).set h.length .dead).length by simp]; exact hget_new
theorem pCount_ok {L : List (List UInt8)} {id mid : Nat} {tab : AV} (i : IsPool L id mid tab h) (hK : K.K (I L.length) h) : ACall X 15 [.p id 0] h K := by
  apply i15
  (simp +contextual -dsimp only [R15, evA, evB, ↓a_on_t, ↓a_on_f, ↓a_on_und, ↓a_cond_b, ↓reduceIte, Go.Ab.part, List.getD_cons_zero, List.getD_cons_succ, List.set_cons_zero, List.set_cons_succ, List.length_cons, List.length_nil, List.cons_append, List.nil_append, cond_true, cond_false, Bool.cond_true, reduceCtorEq, Option.map_some, Option.map_none, forall_const, ne_eq, implies_true, Nat.reduceAdd, Nat.reduceLeDiff, Nat.reduceLT, Nat.beq, Option.isNone_none, beq_self_eq_true, bne_self_eq_false, Int.reduceBEq, Int.reduceBNe, Int.reduceLT, Int.reduceLE, Int.reduceGT, Int.reduceGE, Int.reduceEq, Int.reduceNe, Int.reduceToNat, List.take_zero, List.drop_zero, List.all_cons, List.all_nil, List.append_nil, List.length_append, List.length_set, List.append_assoc, List.drop_nil, List.take_nil, i.p, i.m, kv_len] <;> try simp -dsimp only [if_conj])
  exact hK
/-- what a text comes to that is added -/
def addR (L : List (List UInt8)) (s : List UInt8) : (Nat × Int) × List (List UInt8) :=
  if ¬ ((txt s).length = s.length ∧ s.length ≤ 200) then ((0, 12), L) else match placeOf 0 L s with
    | some a => ((a, 0), L)
    | none => if (cat L).length + s.length + 1 > 65536 then ((0, 3), L) else (((cat L).length, 0), L ++ [s])
/-- what happened to a pool left all else alone -/
def Only (id mid : Nat) (tab : AV) (h h' : Heap) : Prop := h.length ≤ h'.length ∧ ∀ j, j < h.length → j ≠ id → j ≠ mid → otherS tab j → h'.getD j .dead = h.getD j .dead
theorem cat_le : ∀ L : List (List UInt8), L.length ≤ (cat L).length
  | [] => by simp [cat]
  | s :: l => by have := cat_le l; rw [cat_cons, List.length_append, List.length_cons, List.length_cons]; omega
theorem pAdd_ok {L : List (List UInt8)} {id mid : Nat} {tab : AV} {s : List UInt8} (i : IsPool L id mid tab h) (hl : (cat L).length ≤ 65536) (hs : s.length ≤ 100000)
    (hK : ∀ h' tab', IsPool (addR L s).2 id mid tab' h' → Only id mid tab h h' → (∀ j, j < h.length → otherS tab j → otherS tab' j) → K.K (.t [U (addR L s).1.1, I (addR L s).1.2]) h') : ACall X 9 [.p id 0, .v (.string (mkStr s))] h K := by
  have hbig : (6000000 : Nat) ≤ bigRoom := by decide
  have hli := hlt i.p (by simp)
  have hlm := hlt i.m (by simp)
  have hne : id ≠ mid := fun e => by have h1 := i.p; rw [e, i.m] at h1; cases h1
  have only0 : Only id mid tab h h := ⟨Nat.le_refl _, fun _ _ _ _ _ => rfl⟩
  apply i9
  (simp +contextual -dsimp only [R9, evA, evB, ↓a_on_t, ↓a_on_f, ↓a_on_und, ↓a_cond_b, ↓reduceIte, Go.Ab.part, List.getD_cons_zero, List.getD_cons_succ, List.set_cons_zero, List.set_cons_succ, List.length_cons, List.length_nil, List.cons_append, List.nil_append, cond_true, cond_false, Bool.cond_true, reduceCtorEq, Option.map_some, Option.map_none, forall_const, ne_eq, implies_true, Nat.reduceAdd, Nat.reduceLeDiff, Nat.reduceLT, Nat.beq, Option.isNone_none, beq_self_eq_true, bne_self_eq_false, Int.reduceBEq, Int.reduceBNe, Int.reduceLT, Int.reduceLE, Int.reduceGT, Int.reduceGE, Int.reduceEq, Int.reduceNe, Int.reduceToNat, List.take_zero, List.drop_zero, List.all_cons, List.all_nil, List.append_nil, List.length_append, List.length_set, List.append_assoc, List.drop_nil, List.take_nil, i.p] <;> try simp -dsimp only [if_conj])
  refine Right_ok ?_
  unfold addR at hK
  by_cases hr : (txt s).length = s.length ∧ s.length ≤ 200
  · rw [if_neg (not_not_intro hr)] at hK
    have hd : decide ((txt s).length = s.length ∧ s.length ≤ 200) = true := decide_eq_true hr
    rw [hd]
    (simp +contextual -dsimp only [R9, evA, evB, ↓a_on_t, ↓a_on_f, ↓a_on_und, ↓a_cond_b, ↓reduceIte, Go.Ab.part, List.getD_cons_zero, List.getD_cons_succ, List.set_cons_zero, List.set_cons_succ, List.length_cons, List.length_nil, List.cons_append, List.nil_append, cond_true, cond_false, Bool.cond_true, reduceCtorEq, Option.map_some, Option.map_none, forall_const, ne_eq, implies_true, Nat.reduceAdd, Nat.reduceLeDiff, Nat.reduceLT, Nat.beq, Option.isNone_none, beq_self_eq_true, bne_self_eq_false, Int.reduceBEq, Int.reduceBNe, Int.reduceLT, Int.reduceLE, Int.reduceGT, Int.reduceGE, Int.reduceEq, Int.reduceNe, Int.reduceToNat, List.take_zero, List.drop_zero, List.all_cons, List.all_nil, List.append_nil, List.length_append, List.length_set, List.append_assoc, List.drop_nil, List.take_nil, i.p] <;> try simp -dsimp only [if_conj])
    refine pFind_ok i ?_
    cases hp : placeOf 0 L s with
    | some a =>
      rw [hp] at hK
      (simp +contextual -dsimp only [R9, evA, evB, ↓a_on_t, ↓a_on_f, ↓a_on_und, ↓a_cond_b, ↓reduceIte, Go.Ab.part, List.getD_cons_zero, List.getD_cons_succ, List.set_cons_zero, List.set_cons_succ, List.length_cons, List.length_nil, List.cons_append, List.nil_append, cond_true, cond_false, Bool.cond_true, reduceCtorEq, Option.map_some, Option.map_none, forall_const, ne_eq, implies_true, Nat.reduceAdd, Nat.reduceLeDiff, Nat.reduceLT, Nat.beq, Option.isNone_none, beq_self_eq_true, bne_self_eq_false, Int.reduceBEq, Int.reduceBNe, Int.reduceLT, Int.reduceLE, Int.reduceGT, Int.reduceGE, Int.reduceEq, Int.reduceNe, Int.reduceToNat, List.take_zero, List.drop_zero, List.all_cons, List.all_nil, List.append_nil, List.length_append, List.length_set, List.append_assoc, List.drop_nil, List.take_nil, i.p, Option.getD_some, Option.isSome_some] <;> try simp -dsimp only [if_conj])
      exact hK _ _ i only0 (fun _ _ h => h)
    | none =>
      rw [hp] at hK
      simp only at hK
      have hlen := fun K => i.isB.len (K := K)
      have hw1 : IntKind.i64.wrap (((cat L).length : Int) + (s.length : Nat)) = (((cat L).length + s.length : Nat) : Int) := by rw [wrap_i64 (by omega) (by omega)]; omega
      have hw2 : IntKind.i64.wrap ((((cat L).length + s.length : Nat) : Int) + 1) = (((cat L).length + s.length + 1 : Nat) : Int) := by rw [wrap_i64 (by omega) (by omega)]; omega
      have hw3 : IntKind.u64.wrap ((cat L).length : Int) = ((cat L).length : Nat) := wrap_u64 (by omega) (by omega)
      by_cases hb : (cat L).length + s.length + 1 > 65536
      · rw [if_pos hb] at hK
        have hb' : decide ((((cat L).length + s.length + 1 : Nat) : Int) > 65536) = true := by simp; omega
        (simp +contextual -dsimp only [R9, evA, evB, ↓a_on_t, ↓a_on_f, ↓a_on_und, ↓a_cond_b, ↓reduceIte, Go.Ab.part, List.getD_cons_zero, List.getD_cons_succ, List.set_cons_zero, List.set_cons_succ, List.length_cons, List.length_nil, List.cons_append, List.nil_append, cond_true, cond_false, Bool.cond_true, reduceCtorEq, Option.map_some, Option.map_none, forall_const, ne_eq, implies_true, Nat.reduceAdd, Nat.reduceLeDiff, Nat.reduceLT, Nat.beq, Option.isNone_none, beq_self_eq_true, bne_self_eq_false, Int.reduceBEq, Int.reduceBNe, Int.reduceLT, Int.reduceLE, Int.reduceGT, Int.reduceGE, Int.reduceEq, Int.reduceNe, Int.reduceToNat, List.take_zero, List.drop_zero, List.all_cons, List.all_nil, List.append_nil, List.length_append, List.length_set, List.append_assoc, List.drop_nil, List.take_nil, i.p, Option.getD_none, Option.isSome_none, hlen, mkStr_size, hw1, hw2, hb'] <;> try simp -dsimp only [if_conj])
        exact hK _ _ i only0 (fun _ _ h => h)
      · rw [if_neg hb] at hK
        have hb' : decide ((((cat L).length + s.length + 1 : Nat) : Int) > 65536) = false := by simp; omega
        have hput := kv_put L 0 s hp
        rw [Nat.zero_add] at hput
        have gp2 : (h.set mid (.m (kv 0 (L ++ [s])))).getD id .dead = .o 1 [.m mid, tab] := by rw [hget_set_ne (Ne.symm hne)]; exact i.p
        have gm2 : (h.set mid (.m (kv 0 (L ++ [s])))).getD mid .dead = .m (kv 0 (L ++ [s])) := hget_set hlm
        have ht2 : (tab = .v (.slice none 0 0) ∧ L = []) ∨ ∃ tid, tab = .s tid 0 (cat L).length ∧ (h.set mid (.m (kv 0 (L ++ [s])))).getD tid .dead = .o 1 (byt (cat L)) ∧ L ≠ [] ∧ tid ≠ id ∧ tid ≠ mid := by
          rcases i.t with h0 | ⟨tid, e1, e2, e3⟩
          · exact .inl h0
          · have n1 : tid ≠ mid := fun e => by rw [e, i.m] at e2; cases e2
            have n2 : tid ≠ id := fun e => by
              rw [e, i.p] at e2
              have := AO.o.inj e2
              cases L with
              | nil => exact e3 rfl
              | cons x l => rw [cat_cons] at this; cases x <;> simp [byt] at this
            exact .inr ⟨tid, e1, by rw [hget_set_ne (Ne.symm n1)]; exact e2, e3, n2, n1⟩
        have keep2 : ∀ j, j < h.length → j ≠ mid → (h.set mid (.m (kv 0 (L ++ [s])))).getD j .dead = h.getD j .dead := fun j _ hj => hget_set_ne (Ne.symm hj)
        have l2 : (h.set mid (.m (kv 0 (L ++ [s])))).length = h.length := by simp
        (simp +contextual -dsimp only [R9, evA, evB, ↓a_on_t, ↓a_on_f, ↓a_on_und, ↓a_cond_b, ↓reduceIte, Go.Ab.part, List.getD_cons_zero, List.getD_cons_succ, List.set_cons_zero, List.set_cons_succ, List.length_cons, List.length_nil, List.cons_append, List.nil_append, cond_true, cond_false, Bool.cond_true, reduceCtorEq, Option.map_some, Option.map_none, forall_const, ne_eq, implies_true, Nat.reduceAdd, Nat.reduceLeDiff, Nat.reduceLT, Nat.beq, Option.isNone_none, beq_self_eq_true, bne_self_eq_false, Int.reduceBEq, Int.reduceBNe, Int.reduceLT, Int.reduceLE, Int.reduceGT, Int.reduceGE, Int.reduceEq, Int.reduceNe, Int.reduceToNat, List.take_zero, List.drop_zero, List.all_cons, List.all_nil, List.append_nil, List.length_append, List.length_set, List.append_assoc, List.drop_nil, List.take_nil, i.p, i.m, Option.getD_none, Option.isSome_none, hlen, mkStr_size, hw1, hw2, hb', hw3, hput, gp2] <;> try simp -dsimp only [if_conj])
        generalize h.set mid (.m (kv 0 (L ++ [s]))) = h2 at *
        have txs : txt s = s := right_txt hr
        have hc : cat (L ++ [s]) = cat L ++ s ++ [0] := cat_snoc L s
        have fin : ∀ h3 id3 tid n, n = (cat L ++ txt s ++ [0]).length → Grown h2 tid h3 id3 (.o 1 (byt (cat L ++ txt s ++ [0]))) → tid ≠ id → tid ≠ mid → (∀ j, j < h.length → otherS tab j → tid ≠ j) →
            IsPool (L ++ [s]) id mid (.s id3 0 n) (h3.set id (.o 1 [.m mid, .s id3 0 n])) ∧ Only id mid tab h (h3.set id (.o 1 [.m mid, .s id3 0 n])) ∧ (∀ j, j < h.length → otherS tab j → otherS (.s id3 0 n) j) ∧ h3.getD id .dead = .o 1 [.m mid, tab] := by
          intro h3 id3 tid n hn g n1 n2 n3
          have gl := g.len
          have n4 : id3 ≠ id := by rcases g.is with e | e <;> omega
          have gp3 : h3.getD id .dead = .o 1 [.m mid, tab] := by rw [g.keep id (by omega) (Ne.symm n1)]; exact gp2
          have gm3 : h3.getD mid .dead = .m (kv 0 (L ++ [s])) := by rw [g.keep mid (by omega) (Ne.symm n2)]; exact gm2
          refine ⟨⟨hget_set (by omega), by rw [hget_set_ne hne]; exact gm3, .inr ⟨id3, by rw [hn, hc, txs], by rw [hget_set_ne (Ne.symm n4), g.get, hc, txs], by simp⟩⟩, ⟨by simp; omega, fun j hj h1 h3 h4 => ?_⟩, fun j hj ho a b c e => ?_, gp3⟩
          · rw [hget_set_ne (Ne.symm h1), g.keep j (by omega) (Ne.symm (n3 j hj h4)), keep2 j hj h3]
          · cases e
            have := n3 j hj ho
            rcases g.is with e | e <;> omega
        rcases ht2 with ⟨rfl, rfl⟩ | ⟨tid, rfl, g2, e3, n1, n2⟩
        · refine acall_weak (weak_nil_at (pre := []) (Nat.le_refl _) (.s h2.length 0 0) ⟨_, _, rfl⟩ (sz := 1)) (by simp) ?_
          refine SPut_ok (l := []) hget_new (by simp; omega) fun h3 id3 g => ?_
          have g' : Grown h2 h2.length h3 id3 (.o 1 (byt (cat [] ++ txt s ++ [0]))) := ⟨g.keepsNew.len, fun j hj _ => g.keepsNew.get hj, g.get, by rcases g.is with e | e <;> (try simp at e) <;> omega⟩
          obtain ⟨q1, q2, q3, q4⟩ := fin h3 id3 h2.length ((txt s).length + 1) (by simp [cat]) g' (by omega) (by omega) (fun j hj _ => by omega)
          (simp +contextual -dsimp only [R9, evA, evB, ↓a_on_t, ↓a_on_f, ↓a_on_und, ↓a_cond_b, ↓reduceIte, Go.Ab.part, List.getD_cons_zero, List.getD_cons_succ, List.set_cons_zero, List.set_cons_succ, List.length_cons, List.length_nil, List.cons_append, List.nil_append, cond_true, cond_false, Bool.cond_true, reduceCtorEq, Option.map_some, Option.map_none, forall_const, ne_eq, implies_true, Nat.reduceAdd, Nat.reduceLeDiff, Nat.reduceLT, Nat.beq, Option.isNone_none, beq_self_eq_true, bne_self_eq_false, Int.reduceBEq, Int.reduceBNe, Int.reduceLT, Int.reduceLE, Int.reduceGT, Int.reduceGE, Int.reduceEq, Int.reduceNe, Int.reduceToNat, List.take_zero, List.drop_zero, List.all_cons, List.all_nil, List.append_nil, List.length_append, List.length_set, List.append_assoc, List.drop_nil, List.take_nil, q4, setAt] <;> try simp -dsimp only [if_conj])
          exact hK _ _ q1 q2 q3
        · refine SPut_ok g2 (by omega) fun h3 id3 g => ?_
          obtain ⟨q1, q2, q3, q4⟩ := fin h3 id3 tid ((cat L).length + ((txt s).length + 1)) (by simp) g n1 n2 (fun j hj ho => ho _ _ _ rfl)
          (simp +contextual -dsimp only [R9, evA, evB, ↓a_on_t, ↓a_on_f, ↓a_on_und, ↓a_cond_b, ↓reduceIte, Go.Ab.part, List.getD_cons_zero, List.getD_cons_succ, List.set_cons_zero, List.set_cons_succ, List.length_cons, List.length_nil, List.cons_append, List.nil_append, cond_true, cond_false, Bool.cond_true, reduceCtorEq, Option.map_some, Option.map_none, forall_const, ne_eq, implies_true, Nat.reduceAdd, Nat.reduceLeDiff, Nat.reduceLT, Nat.beq, Option.isNone_none, beq_self_eq_true, bne_self_eq_false, Int.reduceBEq, Int.reduceBNe, Int.reduceLT, Int.reduceLE, Int.reduceGT, Int.reduceGE, Int.reduceEq, Int.reduceNe, Int.reduceToNat, List.take_zero, List.drop_zero, List.all_cons, List.all_nil, List.append_nil, List.length_append, List.length_set, List.append_assoc, List.drop_nil, List.take_nil, q4, setAt] <;> try simp -dsimp only [if_conj])
          exact hK _ _ q1 q2 q3
  · rw [if_pos hr] at hK
    have hd : decide ((txt s).length = s.length ∧ s.length ≤ 200) = false := decide_eq_false hr
    rw [hd]
    (simp +contextual -dsimp only [R9, evA, evB, ↓a_on_t, ↓a_on_f, ↓a_on_und, ↓a_cond_b, ↓reduceIte, Go.Ab.part, List.getD_cons_zero, List.getD_cons_succ, List.set_cons_zero, List.set_cons_succ, List.length_cons, List.length_nil, List.cons_append, List.nil_append, cond_true, cond_false, Bool.cond_true, reduceCtorEq, Option.map_some, Option.map_none, forall_const, ne_eq, implies_true, Nat.reduceAdd, Nat.reduceLeDiff, Nat.reduceLT, Nat.beq, Option.isNone_none, beq_self_eq_true, bne_self_eq_false, Int.reduceBEq, Int.reduceBNe, Int.reduceLT, Int.reduceLE, Int.reduceGT, Int.reduceGE, Int.reduceEq, Int.reduceNe, Int.reduceToNat, List.take_zero, List.drop_zero, List.all_cons, List.all_nil, List.append_nil, List.length_append, List.length_set, List.append_assoc, List.drop_nil, List.take_nil, i.p] <;> try simp -dsimp only [if_conj])
    exact hK _ _ i only0 (fun _ _ h => h)
end Go.Proofs.Ytgpddpdhkhfdjaa
