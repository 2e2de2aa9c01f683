import Derived.Test.YtlngajfpplebmaaDoorCE
set_option linter.unusedVariables false
set_option linter.unusedSimpArgs false
set_option maxRecDepth 100000
namespace Go.Proofs.YtlngajfpplebmaaDoor
open Go.Ab
variable {c : Cur} {h : Heap} {id : Nat} {K : Kt}

theorem take_snoc {α : Type} [Inhabited α] {l : List α} {n : Nat} (h : n < l.length) : l.take (n + 1) = l.take n ++ [l.getD n default] := by
  rw [List.take_add_one, List.getElem?_eq_getElem h, List.getD_eq_getElem?_getD, List.getElem?_eq_getElem h]; rfl
theorem tab_at {l : List Tab} {n j : Nat} (h : n < l.length) (hj : j < 3) : (tabs l).getD (n * 3 + j) .bad = (Tab.row (l.getD n default)).getD j .bad := rows_at Tab.row_len h hj
theorem tab_row {l : List Tab} {n : Nat} (h : n < l.length) : ((tabs l).drop (n * 3)).take 3 = Tab.row (l.getD n default) := rows_row Tab.row_len h
theorem tabs_len (l : List Tab) : (tabs l).length = l.length * 3 := rows_len Tab.row_len l
theorem told_ok {l : List Tab} {r : AV} (hl : l.length ≤ 300000) (i : IsR Tab.row 3 l r h) (hK : ∀ h' r', Keeps h h' → IsR Tab.row 3 l r' h' → K.K r' h') : ACall X 14 [r] h K := by
  have hbig : (30000000 : Nat) ≤ bigRoom := by decide
  obtain ⟨id, h0, W, ad, g0⟩ := i.seen (X := X) [] [] (Nat.le_refl _)
  have g0 : h0.getD id .dead = .o 3 (tabs l) := g0
  refine acall_weak W ad.len ?_
  have hl0 := hlt g0 (by simp)
  have hll := tabs_len l
  apply i14
  (simp +contextual -dsimp only [R14, evA, evB, ↓a_on_t, ↓a_on_f, ↓a_on_und, ↓a_cond_b, ↓reduceIte, Go.Ab.part, List.getD_cons_zero, List.getD_cons_succ, List.set_cons_zero, List.set_cons_succ, List.length_cons, List.length_nil, List.cons_append, List.nil_append, cond_true, cond_false, Bool.cond_true, reduceCtorEq, Option.map_some, Option.map_none, forall_const, ne_eq, implies_true, Nat.reduceAdd, Nat.reduceLeDiff, Nat.reduceLT, Nat.beq, Option.isNone_none, beq_self_eq_true, bne_self_eq_false, Int.reduceBEq, Int.reduceBNe, Int.reduceLT, Int.reduceLE, Int.reduceGT, Int.reduceGE, Int.reduceEq, Int.reduceNe, Int.reduceToNat, List.take_zero, List.drop_zero, List.all_cons, List.all_nil, List.append_nil, List.length_append, List.length_set, List.append_assoc, List.drop_nil, List.take_nil] <;> try simp -dsimp only [if_conj])
  refine aloop (fun m st => ∃ n h1 ido, m + n = l.length ∧ Keeps h0 h1 ∧ h0.length ≤ ido ∧ h1.getD ido .dead = .o 3 (tabs (l.take n)) ∧ st = ((sl st.1 0 :: sl st.1 1 :: sl st.1 2 :: .s ido 0 n :: sl st.1 4 :: sl st.1 5 :: .s id 0 l.length :: I l.length :: I n :: sl st.1 9 :: sl st.1 10 :: sl st.1 11 :: sl st.1 12 :: sl st.1 13 :: sl st.1 14 :: sl st.1 15 :: sl st.1 16 :: sl st.1 17 :: []), h1)) l.length
    ((.bad :: .bad :: .bad :: .s h0.length 0 0 :: .bad :: .bad :: .s id 0 l.length :: I l.length :: I 0 :: .bad :: .bad :: .bad :: .bad :: .bad :: .bad :: .bad :: .bad :: .bad :: []), h0 ++ [.o 3 []]) (Nat.le_refl _) (weak_nils (Nat.le_refl _) (by simp [NilOk])) ⟨0, _, h0.length, by omega, Keeps.adds Adds.mk, Nat.le_refl _, hget_new, rfl⟩ ?_
  rintro m st ⟨n, h1, ido, hm, k1, ho, g1, hst⟩
  rw [hst]
  have e1 := k1.at g0 (by simp)
  have lo := hlt g1 (by simp)
  by_cases hz : n < l.length
  · have hz' : decide ((n : Int) < l.length) = true := by simp; omega
    have hn1 : IntKind.i64.wrap ((n : Int) + 1) = ((n + 1 : Nat) : Int) := by rw [wrap_i64 (by omega) (by omega)]; rfl
    have et : ∀ (x : AV) (y : AV) (z : AV), List.take 3 [x, y, z] = [x, y, z] := fun _ _ _ => rfl
    have tl : (tabs (l.take n)).length = n * 3 := by rw [tabs_len, List.length_take]; rw [Nat.min_eq_left (by omega)]
    have eA : (tabs (l.take n)).take (n * 3) = tabs (l.take n) := List.take_of_length_le (by omega)
    have hno : ¬ h1.length + 1 = ido := by omega
    have eS : tabs (l.take n) ++ [Bo (l.getD n default).w, U (l.getD n default).base, .z (nums (l.getD n default).items) (l.getD n default).items.length] = tabs (l.take (n + 1)) := by rw [take_snoc hz]; exact (rows_snoc _ _).symm
    have go2 : ∀ a b, (h1 ++ [a, b]).getD ido .dead = .o 3 (tabs (l.take n)) := fun a b => hget_app g1 (by simp)
    (simp +contextual -dsimp only [R14, evA, evB, ↓a_on_t, ↓a_on_f, ↓a_on_und, ↓a_cond_b, ↓reduceIte, Go.Ab.part, List.getD_cons_zero, List.getD_cons_succ, List.set_cons_zero, List.set_cons_succ, List.length_cons, List.length_nil, List.cons_append, List.nil_append, cond_true, cond_false, Bool.cond_true, reduceCtorEq, Option.map_some, Option.map_none, forall_const, ne_eq, implies_true, Nat.reduceAdd, Nat.reduceLeDiff, Nat.reduceLT, Nat.beq, Option.isNone_none, beq_self_eq_true, bne_self_eq_false, Int.reduceBEq, Int.reduceBNe, Int.reduceLT, Int.reduceLE, Int.reduceGT, Int.reduceGE, Int.reduceEq, Int.reduceNe, Int.reduceToNat, List.take_zero, List.drop_zero, List.all_cons, List.all_nil, List.append_nil, List.length_append, List.length_set, List.append_assoc, List.drop_nil, List.take_nil, hz', e1, tab_row hz, Tab.row, hget_new, hset_new, setAt, hn1, et, eA, hget_app g1, go2, hget_new1, List.append_assoc, eS] <;> try simp -dsimp only [if_conj])
    have hll := tabs_len l
    refine ⟨⟨by omega, by omega⟩, by omega, ⟨by omega, by omega, hno⟩, m - 1, _, by omega, Weak.refl _ (by simp; have := k1.len; omega), n + 1, _, h1.length + 2, by omega, ?_, by have := k1.len; omega, ?_, rfl⟩
    · exact (k1.trans (Keeps.adds Adds.mk)).push ho
    · rw [show h1.length + 2 = ((h1 ++ [AO.o 1 [Bo (l.getD n default).w, U (l.getD n default).base, .z (nums (l.getD n default).items) (l.getD n default).items.length], AO.o 3 [Bo (l.getD n default).w, U (l.getD n default).base, .z (nums (l.getD n default).items) (l.getD n default).items.length]]).set ido .dead).length by simp]
      exact hget_new
  · have hz' : decide ((n : Int) < l.length) = false := by simp; omega
    (simp +contextual -dsimp only [R14, evA, evB, ↓a_on_t, ↓a_on_f, ↓a_on_und, ↓a_cond_b, ↓reduceIte, Go.Ab.part, List.getD_cons_zero, List.getD_cons_succ, List.set_cons_zero, List.set_cons_succ, List.length_cons, List.length_nil, List.cons_append, List.nil_append, cond_true, cond_false, Bool.cond_true, reduceCtorEq, Option.map_some, Option.map_none, forall_const, ne_eq, implies_true, Nat.reduceAdd, Nat.reduceLeDiff, Nat.reduceLT, Nat.beq, Option.isNone_none, beq_self_eq_true, bne_self_eq_false, Int.reduceBEq, Int.reduceBNe, Int.reduceLT, Int.reduceLE, Int.reduceGT, Int.reduceGE, Int.reduceEq, Int.reduceNe, Int.reduceToNat, List.take_zero, List.drop_zero, List.all_cons, List.all_nil, List.append_nil, List.length_append, List.length_set, List.append_assoc, List.drop_nil, List.take_nil, hz'] <;> try simp -dsimp only [if_conj])
    have : n = l.length := by omega
    subst this
    rw [List.take_length] at g1
    exact hK _ _ ((Keeps.adds ad).trans k1) (.inr ⟨ido, rfl, g1⟩)
/-- the item of a base and a number -/
def tabAt : List Tab → Nat → Nat → Nat × Bool
  | [], _, _ => (0, false)
  | t :: l, b, i => if t.base = b then (if i < t.items.length then (t.items.getD i 0, true) else (0, false)) else tabAt l b i
theorem tabAt_drop {l : List Tab} {b i n : Nat} (h : n < l.length) : tabAt (l.drop n) b i = if (l.getD n default).base = b then (if i < (l.getD n default).items.length then ((l.getD n default).items.getD i 0, true) else (0, false)) else tabAt (l.drop (n + 1)) b i := by
  rw [List.drop_eq_getElem_cons h, List.getD_eq_getElem?_getD, List.getElem?_eq_getElem h]; rfl
theorem tAt_ok {l : List Tab} {r : AV} {b i : Nat} (hl : l.length ≤ 300000) (hit : ∀ x ∈ l, x.items.length ≤ 300000) (is : IsR Tab.row 3 l r h) (hK : ∀ h', Keeps h h' → K.K (.t [U (tabAt l b i).1, Bo (tabAt l b i).2]) h') : ACall X 15 [r, U b, U i] h K := by
  have hbig : (30000000 : Nat) ≤ bigRoom := by decide
  obtain ⟨id, h0, W, ad, g0⟩ := is.seen (X := X) [] [U b, U i] (Nat.le_refl _)
  have g0 : h0.getD id .dead = .o 3 (tabs l) := g0
  refine acall_weak W ad.len ?_
  have hl0 := hlt g0 (by simp)
  have hll := tabs_len l
  apply i15
  (simp +contextual -dsimp only [R15, evA, evB, ↓a_on_t, ↓a_on_f, ↓a_on_und, ↓a_cond_b, ↓reduceIte, Go.Ab.part, List.getD_cons_zero, List.getD_cons_succ, List.set_cons_zero, List.set_cons_succ, List.length_cons, List.length_nil, List.cons_append, List.nil_append, cond_true, cond_false, Bool.cond_true, reduceCtorEq, Option.map_some, Option.map_none, forall_const, ne_eq, implies_true, Nat.reduceAdd, Nat.reduceLeDiff, Nat.reduceLT, Nat.beq, Option.isNone_none, beq_self_eq_true, bne_self_eq_false, Int.reduceBEq, Int.reduceBNe, Int.reduceLT, Int.reduceLE, Int.reduceGT, Int.reduceGE, Int.reduceEq, Int.reduceNe, Int.reduceToNat, List.take_zero, List.drop_zero, List.all_cons, List.all_nil, List.append_nil, List.length_append, List.length_set, List.append_assoc, List.drop_nil, List.take_nil] <;> try simp -dsimp only [if_conj])
  refine aloop (fun m st => ∃ n h1, m + n = l.length ∧ Keeps h0 h1 ∧ tabAt l b i = tabAt (l.drop n) b i ∧ st = ((sl st.1 0 :: U b :: U i :: sl st.1 3 :: sl st.1 4 :: sl st.1 5 :: sl st.1 6 :: sl st.1 7 :: sl st.1 8 :: sl st.1 9 :: .s id 0 l.length :: I l.length :: I n :: sl st.1 13 :: sl st.1 14 :: sl st.1 15 :: sl st.1 16 :: sl st.1 17 :: sl st.1 18 :: sl st.1 19 :: sl st.1 20 :: sl st.1 21 :: sl st.1 22 :: sl st.1 23 :: sl st.1 24 :: sl st.1 25 :: sl st.1 26 :: sl st.1 27 :: sl st.1 28 :: sl st.1 29 :: sl st.1 30 :: sl st.1 31 :: []), h1)) l.length
    _ (Nat.le_refl _) (Weak.refl _ (Nat.le_refl _)) ⟨0, _, by omega, Keeps.refl _, rfl, rfl⟩ ?_
  rintro m st ⟨n, h1, hm, k1, ht, hst⟩
  rw [hst]
  have e1 := k1.at g0 (by simp)
  by_cases hz : n < l.length
  · have hz' : decide ((n : Int) < l.length) = true := by simp; omega
    have hn1 : IntKind.i64.wrap ((n : Int) + 1) = ((n + 1 : Nat) : Int) := by rw [wrap_i64 (by omega) (by omega)]; rfl
    rw [tabAt_drop hz] at ht
    have hil : (l.getD n default).items.length ≤ 300000 := hit _ (by rw [List.getD_eq_getElem?_getD, List.getElem?_eq_getElem hz]; exact List.getElem_mem hz)
    have hw : IntKind.u64.wrap (((l.getD n default).items.length : Nat) : Int) = ((l.getD n default).items.length : Nat) := wrap_u64 (by omega) (by omega)
    have tr := tab_row hz
    generalize l.getD n default = x at *
    have kk : ∀ o, Keeps h (h1 ++ [o]) := fun o => (Keeps.adds ad).trans (k1.trans (Keeps.adds Adds.mk))
    by_cases eb : x.base = b
    · have eb' : (((x.base : Nat) : Int) == (b : Int)) = true := by simp [eb]
      rw [if_pos eb] at ht
      by_cases ei : i < x.items.length
      · have ei' : decide ((i : Int) < (x.items.length : Nat)) = true := by simp; omega
        rw [if_pos ei] at ht
        rw [ht] at hK
        (simp +contextual -dsimp only [R15, evA, evB, ↓a_on_t, ↓a_on_f, ↓a_on_und, ↓a_cond_b, ↓reduceIte, Go.Ab.part, List.getD_cons_zero, List.getD_cons_succ, List.set_cons_zero, List.set_cons_succ, List.length_cons, List.length_nil, List.cons_append, List.nil_append, cond_true, cond_false, Bool.cond_true, reduceCtorEq, Option.map_some, Option.map_none, forall_const, ne_eq, implies_true, Nat.reduceAdd, Nat.reduceLeDiff, Nat.reduceLT, Nat.beq, Option.isNone_none, beq_self_eq_true, bne_self_eq_false, Int.reduceBEq, Int.reduceBNe, Int.reduceLT, Int.reduceLE, Int.reduceGT, Int.reduceGE, Int.reduceEq, Int.reduceNe, Int.reduceToNat, List.take_zero, List.drop_zero, List.all_cons, List.all_nil, List.append_nil, List.length_append, List.length_set, List.append_assoc, List.drop_nil, List.take_nil, hz', e1, tr, Tab.row, hget_new, hset_new, setAt, hw, eb', ei', nums_at ei] <;> try simp -dsimp only [if_conj])
        repeat' apply And.intro
        all_goals first | omega | (rw [nums_len]; omega) | exact hK _ (kk _)
      · have ei' : decide ((i : Int) < (x.items.length : Nat)) = false := by simp; omega
        rw [if_neg ei] at ht
        rw [ht] at hK
        (simp +contextual -dsimp only [R15, evA, evB, ↓a_on_t, ↓a_on_f, ↓a_on_und, ↓a_cond_b, ↓reduceIte, Go.Ab.part, List.getD_cons_zero, List.getD_cons_succ, List.set_cons_zero, List.set_cons_succ, List.length_cons, List.length_nil, List.cons_append, List.nil_append, cond_true, cond_false, Bool.cond_true, reduceCtorEq, Option.map_some, Option.map_none, forall_const, ne_eq, implies_true, Nat.reduceAdd, Nat.reduceLeDiff, Nat.reduceLT, Nat.beq, Option.isNone_none, beq_self_eq_true, bne_self_eq_false, Int.reduceBEq, Int.reduceBNe, Int.reduceLT, Int.reduceLE, Int.reduceGT, Int.reduceGE, Int.reduceEq, Int.reduceNe, Int.reduceToNat, List.take_zero, List.drop_zero, List.all_cons, List.all_nil, List.append_nil, List.length_append, List.length_set, List.append_assoc, List.drop_nil, List.take_nil, hz', e1, tr, Tab.row, hget_new, hset_new, setAt, hw, eb', ei'] <;> try simp -dsimp only [if_conj])
        repeat' apply And.intro
        all_goals first | omega | exact hK _ (kk _)
    · have eb' : (((x.base : Nat) : Int) == (b : Int)) = false := by simp; omega
      rw [if_neg eb] at ht
      (simp +contextual -dsimp only [R15, evA, evB, ↓a_on_t, ↓a_on_f, ↓a_on_und, ↓a_cond_b, ↓reduceIte, Go.Ab.part, List.getD_cons_zero, List.getD_cons_succ, List.set_cons_zero, List.set_cons_succ, List.length_cons, List.length_nil, List.cons_append, List.nil_append, cond_true, cond_false, Bool.cond_true, reduceCtorEq, Option.map_some, Option.map_none, forall_const, ne_eq, implies_true, Nat.reduceAdd, Nat.reduceLeDiff, Nat.reduceLT, Nat.beq, Option.isNone_none, beq_self_eq_true, bne_self_eq_false, Int.reduceBEq, Int.reduceBNe, Int.reduceLT, Int.reduceLE, Int.reduceGT, Int.reduceGE, Int.reduceEq, Int.reduceNe, Int.reduceToNat, List.take_zero, List.drop_zero, List.all_cons, List.all_nil, List.append_nil, List.length_append, List.length_set, List.append_assoc, List.drop_nil, List.take_nil, hz', e1, tr, Tab.row, hget_new, hset_new, setAt, hw, eb', hn1] <;> try simp -dsimp only [if_conj])
      exact ⟨⟨by omega, by omega⟩, by omega, m - 1, _, by omega, Weak.refl _ (by simp; have := k1.len; omega), n + 1, _, by omega, k1.trans (Keeps.adds Adds.mk), ht, rfl⟩
  · have hz' : decide ((n : Int) < l.length) = false := by simp; omega
    rw [show l.drop n = [] from List.drop_eq_nil_of_le (by omega)] at ht
    rw [ht] at hK
    (simp +contextual -dsimp only [R15, evA, evB, ↓a_on_t, ↓a_on_f, ↓a_on_und, ↓a_cond_b, ↓reduceIte, Go.Ab.part, List.getD_cons_zero, List.getD_cons_succ, List.set_cons_zero, List.set_cons_succ, List.length_cons, List.length_nil, List.cons_append, List.nil_append, cond_true, cond_false, Bool.cond_true, reduceCtorEq, Option.map_some, Option.map_none, forall_const, ne_eq, implies_true, Nat.reduceAdd, Nat.reduceLeDiff, Nat.reduceLT, Nat.beq, Option.isNone_none, beq_self_eq_true, bne_self_eq_false, Int.reduceBEq, Int.reduceBNe, Int.reduceLT, Int.reduceLE, Int.reduceGT, Int.reduceGE, Int.reduceEq, Int.reduceNe, Int.reduceToNat, List.take_zero, List.drop_zero, List.all_cons, List.all_nil, List.append_nil, List.length_append, List.length_set, List.append_assoc, List.drop_nil, List.take_nil, hz'] <;> try simp -dsimp only [if_conj])
    exact hK _ ((Keeps.adds ad).trans k1)
theorem rtAt_ok {l : List Tab} {r : AV} {b i : Nat} (hl : l.length ≤ 300000) (hit : ∀ x ∈ l, x.items.length ≤ 300000) (is : IsR Tab.row 3 l r h) (hK : ∀ h', Keeps h h' → K.K (.t [U (tabAt l b i).1, Bo (tabAt l b i).2]) h') : ACall X 16 [r, U b, U i] h K := by
  have hbig : (30000000 : Nat) ≤ bigRoom := by decide
  obtain ⟨id, h0, W, ad, g0⟩ := is.seen (X := X) [] [U b, U i] (Nat.le_refl _)
  have g0 : h0.getD id .dead = .o 3 (tabs l) := g0
  refine acall_weak W ad.len ?_
  have hl0 := hlt g0 (by simp)
  have hll := tabs_len l
  apply i16
  (simp +contextual -dsimp only [R16, evA, evB, ↓a_on_t, ↓a_on_f, ↓a_on_und, ↓a_cond_b, ↓reduceIte, Go.Ab.part, List.getD_cons_zero, List.getD_cons_succ, List.set_cons_zero, List.set_cons_succ, List.length_cons, List.length_nil, List.cons_append, List.nil_append, cond_true, cond_false, Bool.cond_true, reduceCtorEq, Option.map_some, Option.map_none, forall_const, ne_eq, implies_true, Nat.reduceAdd, Nat.reduceLeDiff, Nat.reduceLT, Nat.beq, Option.isNone_none, beq_self_eq_true, bne_self_eq_false, Int.reduceBEq, Int.reduceBNe, Int.reduceLT, Int.reduceLE, Int.reduceGT, Int.reduceGE, Int.reduceEq, Int.reduceNe, Int.reduceToNat, List.take_zero, List.drop_zero, List.all_cons, List.all_nil, List.append_nil, List.length_append, List.length_set, List.append_assoc, List.drop_nil, List.take_nil] <;> try simp -dsimp only [if_conj])
  refine aloop (fun m st => ∃ n, m + n = l.length ∧ tabAt l b i = tabAt (l.drop n) b i ∧ st = ((.s id 0 l.length :: U b :: U i :: sl st.1 3 :: sl st.1 4 :: sl st.1 5 :: sl st.1 6 :: sl st.1 7 :: I n :: sl st.1 9 :: sl st.1 10 :: sl st.1 11 :: sl st.1 12 :: sl st.1 13 :: sl st.1 14 :: sl st.1 15 :: sl st.1 16 :: sl st.1 17 :: sl st.1 18 :: sl st.1 19 :: sl st.1 20 :: sl st.1 21 :: sl st.1 22 :: sl st.1 23 :: sl st.1 24 :: sl st.1 25 :: sl st.1 26 :: sl st.1 27 :: sl st.1 28 :: sl st.1 29 :: sl st.1 30 :: sl st.1 31 :: sl st.1 32 :: sl st.1 33 :: sl st.1 34 :: sl st.1 35 :: sl st.1 36 :: sl st.1 37 :: sl st.1 38 :: sl st.1 39 :: []), h0)) l.length
    _ (Nat.le_refl _) (Weak.refl _ (Nat.le_refl _)) ⟨0, by omega, rfl, rfl⟩ ?_
  rintro m st ⟨n, hm, ht, hst⟩
  rw [hst]
  have kk := Keeps.adds ad
  by_cases hz : n < l.length
  · have hz' : decide ((n : Int) < l.length) = true := by simp; omega
    have hn1 : IntKind.i64.wrap ((n : Int) + 1) = ((n + 1 : Nat) : Int) := by rw [wrap_i64 (by omega) (by omega)]; rfl
    rw [tabAt_drop hz] at ht
    have hil : (l.getD n default).items.length ≤ 300000 := hit _ (by rw [List.getD_eq_getElem?_getD, List.getElem?_eq_getElem hz]; exact List.getElem_mem hz)
    have hw : IntKind.u64.wrap (((l.getD n default).items.length : Nat) : Int) = ((l.getD n default).items.length : Nat) := wrap_u64 (by omega) (by omega)
    have c1 : (tabs l).getD (n * 3 + 1) .bad = U (l.getD n default).base := tab_at hz (by decide)
    have c2 : (tabs l).getD (n * 3 + 2) .bad = .z (nums (l.getD n default).items) (l.getD n default).items.length := tab_at hz (by decide)
    generalize l.getD n default = x at *
    by_cases eb : x.base = b
    · have eb' : (((x.base : Nat) : Int) == (b : Int)) = true := by simp [eb]
      rw [if_pos eb] at ht
      by_cases ei : i < x.items.length
      · have ei' : decide ((i : Int) ≥ (x.items.length : Nat)) = false := by simp; omega
        have hwi : IntKind.i64.wrap (i : Int) = (i : Int) := wrap_i64 (by omega) (by omega)
        rw [if_pos ei] at ht
        rw [ht] at hK
        (simp +contextual -dsimp only [R16, evA, evB, ↓a_on_t, ↓a_on_f, ↓a_on_und, ↓a_cond_b, ↓reduceIte, Go.Ab.part, List.getD_cons_zero, List.getD_cons_succ, List.set_cons_zero, List.set_cons_succ, List.length_cons, List.length_nil, List.cons_append, List.nil_append, cond_true, cond_false, Bool.cond_true, reduceCtorEq, Option.map_some, Option.map_none, forall_const, ne_eq, implies_true, Nat.reduceAdd, Nat.reduceLeDiff, Nat.reduceLT, Nat.beq, Option.isNone_none, beq_self_eq_true, bne_self_eq_false, Int.reduceBEq, Int.reduceBNe, Int.reduceLT, Int.reduceLE, Int.reduceGT, Int.reduceGE, Int.reduceEq, Int.reduceNe, Int.reduceToNat, List.take_zero, List.drop_zero, List.all_cons, List.all_nil, List.append_nil, List.length_append, List.length_set, List.append_assoc, List.drop_nil, List.take_nil, hz', g0, c1, c2, hw, eb', ei', hwi, nums_at ei] <;> try simp -dsimp only [if_conj])
        repeat' apply And.intro
        all_goals first | omega | (rw [nums_len]; omega) | exact hK _ kk
      · have ei' : decide ((i : Int) ≥ (x.items.length : Nat)) = true := by simp; omega
        rw [if_neg ei] at ht
        rw [ht] at hK
        (simp +contextual -dsimp only [R16, evA, evB, ↓a_on_t, ↓a_on_f, ↓a_on_und, ↓a_cond_b, ↓reduceIte, Go.Ab.part, List.getD_cons_zero, List.getD_cons_succ, List.set_cons_zero, List.set_cons_succ, List.length_cons, List.length_nil, List.cons_append, List.nil_append, cond_true, cond_false, Bool.cond_true, reduceCtorEq, Option.map_some, Option.map_none, forall_const, ne_eq, implies_true, Nat.reduceAdd, Nat.reduceLeDiff, Nat.reduceLT, Nat.beq, Option.isNone_none, beq_self_eq_true, bne_self_eq_false, Int.reduceBEq, Int.reduceBNe, Int.reduceLT, Int.reduceLE, Int.reduceGT, Int.reduceGE, Int.reduceEq, Int.reduceNe, Int.reduceToNat, List.take_zero, List.drop_zero, List.all_cons, List.all_nil, List.append_nil, List.length_append, List.length_set, List.append_assoc, List.drop_nil, List.take_nil, hz', g0, c1, c2, hw, eb', ei'] <;> try simp -dsimp only [if_conj])
        repeat' apply And.intro
        all_goals first | omega | exact hK _ kk
    · have eb' : (((x.base : Nat) : Int) == (b : Int)) = false := by simp; omega
      rw [if_neg eb] at ht
      (simp +contextual -dsimp only [R16, evA, evB, ↓a_on_t, ↓a_on_f, ↓a_on_und, ↓a_cond_b, ↓reduceIte, Go.Ab.part, List.getD_cons_zero, List.getD_cons_succ, List.set_cons_zero, List.set_cons_succ, List.length_cons, List.length_nil, List.cons_append, List.nil_append, cond_true, cond_false, Bool.cond_true, reduceCtorEq, Option.map_some, Option.map_none, forall_const, ne_eq, implies_true, Nat.reduceAdd, Nat.reduceLeDiff, Nat.reduceLT, Nat.beq, Option.isNone_none, beq_self_eq_true, bne_self_eq_false, Int.reduceBEq, Int.reduceBNe, Int.reduceLT, Int.reduceLE, Int.reduceGT, Int.reduceGE, Int.reduceEq, Int.reduceNe, Int.reduceToNat, List.take_zero, List.drop_zero, List.all_cons, List.all_nil, List.append_nil, List.length_append, List.length_set, List.append_assoc, List.drop_nil, List.take_nil, hz', g0, c1, c2, hw, eb', hn1] <;> try simp -dsimp only [if_conj])
      exact ⟨⟨by omega, by omega⟩, by omega, m - 1, _, by omega, Weak.refl _ (Nat.le_refl _), n + 1, by omega, ht, rfl⟩
  · have hz' : decide ((n : Int) < l.length) = false := by simp; omega
    rw [show l.drop n = [] from List.drop_eq_nil_of_le (by omega)] at ht
    rw [ht] at hK
    (simp +contextual -dsimp only [R16, evA, evB, ↓a_on_t, ↓a_on_f, ↓a_on_und, ↓a_cond_b, ↓reduceIte, Go.Ab.part, List.getD_cons_zero, List.getD_cons_succ, List.set_cons_zero, List.set_cons_succ, List.length_cons, List.length_nil, List.cons_append, List.nil_append, cond_true, cond_false, Bool.cond_true, reduceCtorEq, Option.map_some, Option.map_none, forall_const, ne_eq, implies_true, Nat.reduceAdd, Nat.reduceLeDiff, Nat.reduceLT, Nat.beq, Option.isNone_none, beq_self_eq_true, bne_self_eq_false, Int.reduceBEq, Int.reduceBNe, Int.reduceLT, Int.reduceLE, Int.reduceGT, Int.reduceGE, Int.reduceEq, Int.reduceNe, Int.reduceToNat, List.take_zero, List.drop_zero, List.all_cons, List.all_nil, List.append_nil, List.length_append, List.length_set, List.append_assoc, List.drop_nil, List.take_nil, hz'] <;> try simp -dsimp only [if_conj])
    exact hK _ kk
theorem tSame_ok {l : List Tab} {ra rb : AV} (hl : l.length ≤ 300000) (hit : ∀ x ∈ l, x.items.length ≤ 300000) (ia : IsR Tab.row 3 l ra h) (ib : IsR Tab.row 3 l rb h) (hK : ∀ h', Keeps h h' → K.K (Bo true) h') : ACall X 13 [ra, rb] h K := by
  obtain ⟨id, h0, W, ad, g0⟩ := ia.seen (X := X) [] [rb] (Nat.le_refl _)
  have g0 : h0.getD id .dead = .o 3 (tabs l) := g0
  refine acall_weak W ad.len ?_
  obtain ⟨jd, h1, W2, ad2, g1⟩ := (ib.keeps (Keeps.adds ad)).seen (X := X) [.s id 0 l.length] [] (Nat.le_refl _)
  have g1 : h1.getD jd .dead = .o 3 (tabs l) := g1
  refine acall_weak W2 ad2.len ?_
  have g0 := ad2.get g0 (by simp)
  have hll := tabs_len l
  apply i13
  (simp +contextual -dsimp only [R13, evA, evB, ↓a_on_t, ↓a_on_f, ↓a_on_und, ↓a_cond_b, ↓reduceIte, Go.Ab.part, List.getD_cons_zero, List.getD_cons_succ, List.set_cons_zero, List.set_cons_succ, List.length_cons, List.length_nil, List.cons_append, List.nil_append, cond_true, cond_false, Bool.cond_true, reduceCtorEq, Option.map_some, Option.map_none, forall_const, ne_eq, implies_true, Nat.reduceAdd, Nat.reduceLeDiff, Nat.reduceLT, Nat.beq, Option.isNone_none, beq_self_eq_true, bne_self_eq_false, Int.reduceBEq, Int.reduceBNe, Int.reduceLT, Int.reduceLE, Int.reduceGT, Int.reduceGE, Int.reduceEq, Int.reduceNe, Int.reduceToNat, List.take_zero, List.drop_zero, List.all_cons, List.all_nil, List.append_nil, List.length_append, List.length_set, List.append_assoc, List.drop_nil, List.take_nil] <;> try simp -dsimp only [if_conj])
  refine aloop (fun m st => ∃ n, m + n = l.length ∧ st = ((.s id 0 l.length :: .s jd 0 l.length :: sl st.1 2 :: sl st.1 3 :: sl st.1 4 :: I n :: sl st.1 6 :: sl st.1 7 :: sl st.1 8 :: sl st.1 9 :: sl st.1 10 :: sl st.1 11 :: sl st.1 12 :: sl st.1 13 :: sl st.1 14 :: sl st.1 15 :: sl st.1 16 :: sl st.1 17 :: sl st.1 18 :: sl st.1 19 :: sl st.1 20 :: sl st.1 21 :: sl st.1 22 :: sl st.1 23 :: sl st.1 24 :: sl st.1 25 :: sl st.1 26 :: sl st.1 27 :: sl st.1 28 :: sl st.1 29 :: sl st.1 30 :: sl st.1 31 :: sl st.1 32 :: sl st.1 33 :: sl st.1 34 :: sl st.1 35 :: sl st.1 36 :: sl st.1 37 :: sl st.1 38 :: sl st.1 39 :: sl st.1 40 :: sl st.1 41 :: sl st.1 42 :: sl st.1 43 :: sl st.1 44 :: sl st.1 45 :: sl st.1 46 :: sl st.1 47 :: sl st.1 48 :: sl st.1 49 :: sl st.1 50 :: sl st.1 51 :: sl st.1 52 :: sl st.1 53 :: sl st.1 54 :: sl st.1 55 :: sl st.1 56 :: sl st.1 57 :: sl st.1 58 :: sl st.1 59 :: sl st.1 60 :: sl st.1 61 :: sl st.1 62 :: sl st.1 63 :: sl st.1 64 :: sl st.1 65 :: sl st.1 66 :: sl st.1 67 :: sl st.1 68 :: sl st.1 69 :: sl st.1 70 :: sl st.1 71 :: sl st.1 72 :: sl st.1 73 :: sl st.1 74 :: sl st.1 75 :: sl st.1 76 :: sl st.1 77 :: sl st.1 78 :: sl st.1 79 :: sl st.1 80 :: sl st.1 81 :: sl st.1 82 :: sl st.1 83 :: []), h1)) l.length _ (Nat.le_refl _) (Weak.refl _ (Nat.le_refl _)) ⟨0, by omega, rfl⟩ ?_
  rintro m st ⟨n, hm, hst⟩
  rw [hst]
  by_cases hz : n < l.length
  · have hz' : decide ((n : Int) < l.length) = true := by simp; omega
    have hn1 : IntKind.i64.wrap ((n : Int) + 1) = ((n + 1 : Nat) : Int) := by rw [wrap_i64 (by omega) (by omega)]; rfl
    have hil : (l.getD n default).items.length ≤ 300000 := hit _ (by rw [List.getD_eq_getElem?_getD, List.getElem?_eq_getElem hz]; exact List.getElem_mem hz)
    have c0 : (tabs l).getD (n * 3) .bad = Bo (l.getD n default).w := tab_at (j := 0) hz (by decide)
    have c1 : (tabs l).getD (n * 3 + 1) .bad = U (l.getD n default).base := tab_at hz (by decide)
    have c2 : (tabs l).getD (n * 3 + 2) .bad = .z (nums (l.getD n default).items) (l.getD n default).items.length := tab_at hz (by decide)
    generalize l.getD n default = x at *
    (simp +contextual -dsimp only [R13, evA, evB, ↓a_on_t, ↓a_on_f, ↓a_on_und, ↓a_cond_b, ↓reduceIte, Go.Ab.part, List.getD_cons_zero, List.getD_cons_succ, List.set_cons_zero, List.set_cons_succ, List.length_cons, List.length_nil, List.cons_append, List.nil_append, cond_true, cond_false, Bool.cond_true, reduceCtorEq, Option.map_some, Option.map_none, forall_const, ne_eq, implies_true, Nat.reduceAdd, Nat.reduceLeDiff, Nat.reduceLT, Nat.beq, Option.isNone_none, beq_self_eq_true, bne_self_eq_false, Int.reduceBEq, Int.reduceBNe, Int.reduceLT, Int.reduceLE, Int.reduceGT, Int.reduceGE, Int.reduceEq, Int.reduceNe, Int.reduceToNat, List.take_zero, List.drop_zero, List.all_cons, List.all_nil, List.append_nil, List.length_append, List.length_set, List.append_assoc, List.drop_nil, List.take_nil, hz', g0, g1, c0, c1, c2] <;> try simp -dsimp only [if_conj])
    refine ⟨⟨by omega, by omega⟩, by omega, ⟨by omega, by omega⟩, by omega, ⟨by omega, by omega⟩, by omega, ⟨by omega, by omega⟩, by omega, ⟨by omega, by omega⟩, by omega, ⟨by omega, by omega⟩, by omega, ?_⟩
    refine aloop (fun m2 st => ∃ q, m2 + q = x.items.length ∧ st = ((.s id 0 l.length :: .s jd 0 l.length :: sl st.1 2 :: sl st.1 3 :: sl st.1 4 :: I n :: I q :: sl st.1 7 :: sl st.1 8 :: sl st.1 9 :: sl st.1 10 :: sl st.1 11 :: sl st.1 12 :: sl st.1 13 :: sl st.1 14 :: sl st.1 15 :: sl st.1 16 :: sl st.1 17 :: sl st.1 18 :: sl st.1 19 :: sl st.1 20 :: sl st.1 21 :: sl st.1 22 :: sl st.1 23 :: sl st.1 24 :: sl st.1 25 :: sl st.1 26 :: sl st.1 27 :: sl st.1 28 :: sl st.1 29 :: sl st.1 30 :: sl st.1 31 :: sl st.1 32 :: sl st.1 33 :: sl st.1 34 :: sl st.1 35 :: sl st.1 36 :: sl st.1 37 :: sl st.1 38 :: sl st.1 39 :: sl st.1 40 :: sl st.1 41 :: sl st.1 42 :: sl st.1 43 :: sl st.1 44 :: sl st.1 45 :: sl st.1 46 :: sl st.1 47 :: sl st.1 48 :: sl st.1 49 :: sl st.1 50 :: sl st.1 51 :: sl st.1 52 :: sl st.1 53 :: sl st.1 54 :: sl st.1 55 :: sl st.1 56 :: sl st.1 57 :: sl st.1 58 :: sl st.1 59 :: sl st.1 60 :: sl st.1 61 :: sl st.1 62 :: sl st.1 63 :: sl st.1 64 :: sl st.1 65 :: sl st.1 66 :: sl st.1 67 :: sl st.1 68 :: sl st.1 69 :: sl st.1 70 :: sl st.1 71 :: sl st.1 72 :: sl st.1 73 :: sl st.1 74 :: sl st.1 75 :: sl st.1 76 :: sl st.1 77 :: sl st.1 78 :: sl st.1 79 :: sl st.1 80 :: sl st.1 81 :: sl st.1 82 :: sl st.1 83 :: []), h1)) x.items.length _ (Nat.le_refl _) (Weak.refl _ (Nat.le_refl _)) ⟨0, by omega, rfl⟩ ?_
    rintro m2 st2 ⟨q, hq, hst2⟩
    rw [hst2]
    by_cases hz2 : q < x.items.length
    · have hz2' : decide ((q : Int) < x.items.length) = true := by simp; omega
      have hn2 : IntKind.i64.wrap ((q : Int) + 1) = ((q + 1 : Nat) : Int) := by rw [wrap_i64 (by omega) (by omega)]; rfl
      (simp +contextual -dsimp only [R13, evA, evB, ↓a_on_t, ↓a_on_f, ↓a_on_und, ↓a_cond_b, ↓reduceIte, Go.Ab.part, List.getD_cons_zero, List.getD_cons_succ, List.set_cons_zero, List.set_cons_succ, List.length_cons, List.length_nil, List.cons_append, List.nil_append, cond_true, cond_false, Bool.cond_true, reduceCtorEq, Option.map_some, Option.map_none, forall_const, ne_eq, implies_true, Nat.reduceAdd, Nat.reduceLeDiff, Nat.reduceLT, Nat.beq, Option.isNone_none, beq_self_eq_true, bne_self_eq_false, Int.reduceBEq, Int.reduceBNe, Int.reduceLT, Int.reduceLE, Int.reduceGT, Int.reduceGE, Int.reduceEq, Int.reduceNe, Int.reduceToNat, List.take_zero, List.drop_zero, List.all_cons, List.all_nil, List.append_nil, List.length_append, List.length_set, List.append_assoc, List.drop_nil, List.take_nil, hz2', g0, g1, c2, nums_at hz2, hn2] <;> try simp -dsimp only [if_conj])
      repeat' apply And.intro
      all_goals first | omega | (rw [nums_len]; omega) | exact ⟨m2 - 1, _, by omega, Weak.refl _ (Nat.le_refl _), q + 1, by omega, rfl⟩
    · have hz2' : decide ((q : Int) < x.items.length) = false := by simp; omega
      (simp +contextual -dsimp only [R13, evA, evB, ↓a_on_t, ↓a_on_f, ↓a_on_und, ↓a_cond_b, ↓reduceIte, Go.Ab.part, List.getD_cons_zero, List.getD_cons_succ, List.set_cons_zero, List.set_cons_succ, List.length_cons, List.length_nil, List.cons_append, List.nil_append, cond_true, cond_false, Bool.cond_true, reduceCtorEq, Option.map_some, Option.map_none, forall_const, ne_eq, implies_true, Nat.reduceAdd, Nat.reduceLeDiff, Nat.reduceLT, Nat.beq, Option.isNone_none, beq_self_eq_true, bne_self_eq_false, Int.reduceBEq, Int.reduceBNe, Int.reduceLT, Int.reduceLE, Int.reduceGT, Int.reduceGE, Int.reduceEq, Int.reduceNe, Int.reduceToNat, List.take_zero, List.drop_zero, List.all_cons, List.all_nil, List.append_nil, List.length_append, List.length_set, List.append_assoc, List.drop_nil, List.take_nil, hz2', g0, g1, c2, hn1] <;> try simp -dsimp only [if_conj])
      repeat' apply And.intro
      all_goals first | omega | exact ⟨m - 1, _, by omega, Weak.refl _ (Nat.le_refl _), n + 1, by omega, rfl⟩
  · have hz' : decide ((n : Int) < l.length) = false := by simp; omega
    (simp +contextual -dsimp only [R13, evA, evB, ↓a_on_t, ↓a_on_f, ↓a_on_und, ↓a_cond_b, ↓reduceIte, Go.Ab.part, List.getD_cons_zero, List.getD_cons_succ, List.set_cons_zero, List.set_cons_succ, List.length_cons, List.length_nil, List.cons_append, List.nil_append, cond_true, cond_false, Bool.cond_true, reduceCtorEq, Option.map_some, Option.map_none, forall_const, ne_eq, implies_true, Nat.reduceAdd, Nat.reduceLeDiff, Nat.reduceLT, Nat.beq, Option.isNone_none, beq_self_eq_true, bne_self_eq_false, Int.reduceBEq, Int.reduceBNe, Int.reduceLT, Int.reduceLE, Int.reduceGT, Int.reduceGE, Int.reduceEq, Int.reduceNe, Int.reduceToNat, List.take_zero, List.drop_zero, List.all_cons, List.all_nil, List.append_nil, List.length_append, List.length_set, List.append_assoc, List.drop_nil, List.take_nil, hz'] <;> try simp -dsimp only [if_conj])
    exact hK _ (Keeps.adds (ad.trans ad2))
theorem Strs_ok {t : List UInt8} {x : AV} (ht : t.length ≤ 300000) (ix : IsB t x h) (hK : ∀ h' r, Keeps h h' → IsR Tab.row 3 (tabR false t).1 r h' → K.K (.t [r, I (tabR false t).2]) h') : ACall X 10 [x] h K := by
  apply i10
  (simp +contextual -dsimp only [R10, evA, evB, ↓a_on_t, ↓a_on_f, ↓a_on_und, ↓a_cond_b, ↓reduceIte, Go.Ab.part, List.getD_cons_zero, List.getD_cons_succ, List.set_cons_zero, List.set_cons_succ, List.length_cons, List.length_nil, List.cons_append, List.nil_append, cond_true, cond_false, Bool.cond_true, reduceCtorEq, Option.map_some, Option.map_none, forall_const, ne_eq, implies_true, Nat.reduceAdd, Nat.reduceLeDiff, Nat.reduceLT, Nat.beq, Option.isNone_none, beq_self_eq_true, bne_self_eq_false, Int.reduceBEq, Int.reduceBNe, Int.reduceLT, Int.reduceLE, Int.reduceGT, Int.reduceGE, Int.reduceEq, Int.reduceNe, Int.reduceToNat, List.take_zero, List.drop_zero, List.all_cons, List.all_nil, List.append_nil, List.length_append, List.length_set, List.append_assoc, List.drop_nil, List.take_nil] <;> try simp -dsimp only [if_conj])
  refine all_ok ht ix Strs1_ok (fun hK => Off_ok hK) fun h' r k i => ?_
  (simp +contextual -dsimp only [R10, evA, evB, ↓a_on_t, ↓a_on_f, ↓a_on_und, ↓a_cond_b, ↓reduceIte, Go.Ab.part, List.getD_cons_zero, List.getD_cons_succ, List.set_cons_zero, List.set_cons_succ, List.length_cons, List.length_nil, List.cons_append, List.nil_append, cond_true, cond_false, Bool.cond_true, reduceCtorEq, Option.map_some, Option.map_none, forall_const, ne_eq, implies_true, Nat.reduceAdd, Nat.reduceLeDiff, Nat.reduceLT, Nat.beq, Option.isNone_none, beq_self_eq_true, bne_self_eq_false, Int.reduceBEq, Int.reduceBNe, Int.reduceLT, Int.reduceLE, Int.reduceGT, Int.reduceGE, Int.reduceEq, Int.reduceNe, Int.reduceToNat, List.take_zero, List.drop_zero, List.all_cons, List.all_nil, List.append_nil, List.length_append, List.length_set, List.append_assoc, List.drop_nil, List.take_nil] <;> try simp -dsimp only [if_conj])
  exact hK _ _ k i
theorem Addrs_ok {t : List UInt8} {x : AV} (ht : t.length ≤ 300000) (ix : IsB t x h) (hK : ∀ h' r, Keeps h h' → IsR Tab.row 3 (tabR true t).1 r h' → K.K (.t [r, I (tabR true t).2]) h') : ACall X 12 [x] h K := by
  apply i12
  (simp +contextual -dsimp only [R12, evA, evB, ↓a_on_t, ↓a_on_f, ↓a_on_und, ↓a_cond_b, ↓reduceIte, Go.Ab.part, List.getD_cons_zero, List.getD_cons_succ, List.set_cons_zero, List.set_cons_succ, List.length_cons, List.length_nil, List.cons_append, List.nil_append, cond_true, cond_false, Bool.cond_true, reduceCtorEq, Option.map_some, Option.map_none, forall_const, ne_eq, implies_true, Nat.reduceAdd, Nat.reduceLeDiff, Nat.reduceLT, Nat.beq, Option.isNone_none, beq_self_eq_true, bne_self_eq_false, Int.reduceBEq, Int.reduceBNe, Int.reduceLT, Int.reduceLE, Int.reduceGT, Int.reduceGE, Int.reduceEq, Int.reduceNe, Int.reduceToNat, List.take_zero, List.drop_zero, List.all_cons, List.all_nil, List.append_nil, List.length_append, List.length_set, List.append_assoc, List.drop_nil, List.take_nil] <;> try simp -dsimp only [if_conj])
  refine all_ok ht ix Addrs1_ok (fun hK => Addrs2_ok hK) fun h' r k i => ?_
  (simp +contextual -dsimp only [R12, evA, evB, ↓a_on_t, ↓a_on_f, ↓a_on_und, ↓a_cond_b, ↓reduceIte, Go.Ab.part, List.getD_cons_zero, List.getD_cons_succ, List.set_cons_zero, List.set_cons_succ, List.length_cons, List.length_nil, List.cons_append, List.nil_append, cond_true, cond_false, Bool.cond_true, reduceCtorEq, Option.map_some, Option.map_none, forall_const, ne_eq, implies_true, Nat.reduceAdd, Nat.reduceLeDiff, Nat.reduceLT, Nat.beq, Option.isNone_none, beq_self_eq_true, bne_self_eq_false, Int.reduceBEq, Int.reduceBNe, Int.reduceLT, Int.reduceLE, Int.reduceGT, Int.reduceGE, Int.reduceEq, Int.reduceNe, Int.reduceToNat, List.take_zero, List.drop_zero, List.all_cons, List.all_nil, List.append_nil, List.length_append, List.length_set, List.append_assoc, List.drop_nil, List.take_nil] <;> try simp -dsimp only [if_conj])
  exact hK _ _ k i
theorem numsAt_le {n q b : Nat} {l : List UInt8} (h : q ≤ b) : (numsAt n l q).length ≤ b := by rw [numsAt_len]; exact h
/-- no table has more items than there are bytes; there are no more tables than 60 -/
theorem tab_len {a : Bool} {c : Cur} (hi : c.inv) (h : (c.tab a).2.1 = 0) : (c.tab a).1.items.length ≤ c.b.length := by
  unfold Cur.tab at h ⊢
  split at h
  · rename_i h0; exact absurd h h0
  · rename_i h0
    rw [if_neg h0]
    split at h
    · exact absurd h (by simp)
    · rename_i h1
      rw [if_neg h1]
      split at h
      · exact absurd h (by simp)
      · rename_i h2
        rw [if_neg h2]
        refine numsAt_le (Nat.le_trans (Nat.div_le_self _ _) ?_)
        refine Nat.le_trans ?_ (bd2_len c)
        unfold Cur.left; split
        · rw [skip_b, skip_b]; omega
        · omega
theorem tabAll_len {a : Bool} {B : Nat} : ∀ (f : Nat) (c : Cur) (acc : List Tab), c.inv → c.b.length = B → acc.length ≤ 60 → (∀ x ∈ acc, x.items.length ≤ B) → (tabAll a f c acc).1.length ≤ 60 ∧ ∀ x ∈ (tabAll a f c acc).1, x.items.length ≤ B
  | 0, c, acc, hi, hb, h1, h2 => ⟨h1, h2⟩
  | f + 1, c, acc, hi, hb, h1, h2 => by
    unfold tabAll
    split
    · exact ⟨h1, h2⟩
    · split
      · exact ⟨by simp, by simp⟩
      · rename_i h3
        split
        · exact ⟨by simp, by simp⟩
        · have h3 : (c.tab a).2.1 = 0 := Decidable.not_not.1 h3
          obtain ⟨e1, e2, e3, e4, e5, e6⟩ := tab_next hi h3
          refine tabAll_len f _ _ (by rw [e1]; exact e6) (by rw [e1, e5]; exact hb) (by simp; omega) fun x hx => ?_
          rcases List.mem_append.1 hx with h0 | h0
          · exact h2 x h0
          · simp only [List.mem_singleton] at h0; rw [h0, ← hb]; exact tab_len hi h3
theorem tabR_len {a : Bool} {t : List UInt8} (ht : t.length ≤ 300000) : (tabR a t).1.length ≤ 60 ∧ ∀ x ∈ (tabR a t).1, x.items.length ≤ 300000 := by
  obtain ⟨h1, h2⟩ := tabAll_len (a := a) (B := t.length) (t.length + 1) ⟨t, 0, 0⟩ [] (Cur.mki (Nat.zero_le _) (by omega)) rfl (by simp) (by simp)
  exact ⟨h1, fun x hx => Nat.le_trans (h2 x hx) ht⟩
end Go.Proofs.YtlngajfpplebmaaDoor
