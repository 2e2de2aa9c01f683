import Derived.Test.YtaejegndbaahnaaGD
import Derived.Test.YtaejegndbaahnaaGA
set_option linter.unusedVariables false
set_option linter.unusedSimpArgs false
set_option maxRecDepth 100000
set_option maxHeartbeats 1000000
namespace Go.Proofs.Ytaejegndbaahnaa
open Go.Ab
variable {h : Heap} {K : Kt}
/-- a row of a line table -/
structure Rw where
  addr : Nat
  file : Int
  line : Int
  col : Int
  st : Bool
  bl : Bool
  pr : Bool
  ep : Bool
  en : Bool
  isa : Nat
  disc : Nat
instance : Inhabited Rw := ⟨⟨0, 0, 0, 0, false, false, false, false, false, 0, 0⟩⟩
def Rw.row (x : Rw) : List AV := (U x.addr :: I x.file :: I x.line :: I x.col :: Bo x.st :: Bo x.bl :: Bo x.pr :: Bo x.ep :: Bo x.en :: U x.isa :: U x.disc :: [])
theorem Rw.row_len (x : Rw) : x.row.length = 11 := rfl
abbrev rws (l : List Rw) : List AV := rows Rw.row l
theorem rws_len (l : List Rw) : (rws l).length = l.length * 11 := rows_len Rw.row_len l
theorem rw_at {l : List Rw} {n j : Nat} (h : n < l.length) (hj : j < 11) : (rws l).getD (n * 11 + j) .bad = (Rw.row (l.getD n default)).getD j .bad := rows_at Rw.row_len h hj
theorem rw_row {l : List Rw} {n : Nat} (h : n < l.length) : ((rws l).drop (n * 11)).take 11 = Rw.row (l.getD n default) := rows_row Rw.row_len h
/-- what a row says -/
structure Fa where
  file : List UInt8
  line : Int
  col : Int
  st : Bool
  bl : Bool
  pr : Bool
  ep : Bool
  isa : Nat
  disc : Nat
instance : Inhabited Fa := ⟨⟨[], 0, 0, false, false, false, false, 0, 0⟩⟩
def Fa.row (x : Fa) : List AV := (.v (.string (mkStr x.file)) :: I x.line :: I x.col :: Bo x.st :: Bo x.bl :: Bo x.pr :: Bo x.ep :: U x.isa :: U x.disc :: [])
theorem Fa.row_len (x : Fa) : x.row.length = 9 := rfl
abbrev fas (l : List Fa) : List AV := rows Fa.row l
theorem fas_len (l : List Fa) : (fas l).length = l.length * 9 := rows_len Fa.row_len l
theorem fa_row {l : List Fa} {n : Nat} (h : n < l.length) : ((fas l).drop (n * 9)).take 9 = Fa.row (l.getD n default) := rows_row Fa.row_len h
/-- a file's full name -/
def fullN (fs : List (List UInt8)) (n : Int) : List UInt8 := if 0 ≤ n then fs.getD n.toNat [] else []
theorem fullN_in {fs : List (List UInt8)} {n : Nat} : fullN fs n = fs.getD n [] := by unfold fullN; rw [if_pos (by omega)]; rfl
theorem fullN_out {fs : List (List UInt8)} {n : Int} (h : n < 0 ∨ (fs.length : Int) ≤ n) : fullN fs n = [] := by
  unfold fullN; split
  · rw [List.getD_eq_getElem?_getD, List.getElem?_eq_none (by omega)]; rfl
  · rfl
def factOf (x : Rw) (fs : List (List UInt8)) : Fa := ⟨fullN fs x.file, x.line, x.col, x.st, x.bl, x.pr, x.ep, x.isa, x.disc⟩
theorem Full_ok {fs : List (List UInt8)} {n : Int} (hK : K.K (.v (.string (mkStr (fullN fs n)))) h) : ACall X 14 [.z (strs fs) fs.length, I n] h K := by
  apply i14
  by_cases h0 : n < 0
  · have d0 : decide (n < 0) = true := decide_eq_true h0
    rw [fullN_out (.inl h0)] at hK
    (simp +contextual -dsimp only [R14, evA, evB, ↓a_on_t, ↓a_on_f, ↓a_on_und, ↓a_cond_b, ↓reduceIte, Go.Ab.part, List.getD_cons_zero, List.getD_cons_succ, List.set_cons_zero, List.set_cons_succ, List.length_cons, List.length_nil, List.cons_append, List.nil_append, cond_true, cond_false, Bool.cond_true, reduceCtorEq, Option.map_some, Option.map_none, forall_const, ne_eq, implies_true, Nat.reduceAdd, Nat.reduceLeDiff, Nat.reduceLT, Nat.beq, Option.isNone_none, beq_self_eq_true, bne_self_eq_false, Int.reduceBEq, Int.reduceBNe, Int.reduceLT, Int.reduceLE, Int.reduceGT, Int.reduceGE, Int.reduceEq, Int.reduceNe, Int.reduceToNat, List.take_zero, List.drop_zero, List.all_cons, List.all_nil, List.append_nil, List.length_append, List.length_set, List.append_assoc, List.drop_nil, List.take_nil, d0] <;> try simp -dsimp only [if_conj])
    exact hK
  · have d0 : decide (n < 0) = false := decide_eq_false h0
    by_cases h1 : (fs.length : Int) ≤ n
    · have d1 : decide (n ≥ (fs.length : Int)) = true := decide_eq_true h1
      rw [fullN_out (.inr h1)] at hK
      (simp +contextual -dsimp only [R14, evA, evB, ↓a_on_t, ↓a_on_f, ↓a_on_und, ↓a_cond_b, ↓reduceIte, Go.Ab.part, List.getD_cons_zero, List.getD_cons_succ, List.set_cons_zero, List.set_cons_succ, List.length_cons, List.length_nil, List.cons_append, List.nil_append, cond_true, cond_false, Bool.cond_true, reduceCtorEq, Option.map_some, Option.map_none, forall_const, ne_eq, implies_true, Nat.reduceAdd, Nat.reduceLeDiff, Nat.reduceLT, Nat.beq, Option.isNone_none, beq_self_eq_true, bne_self_eq_false, Int.reduceBEq, Int.reduceBNe, Int.reduceLT, Int.reduceLE, Int.reduceGT, Int.reduceGE, Int.reduceEq, Int.reduceNe, Int.reduceToNat, List.take_zero, List.drop_zero, List.all_cons, List.all_nil, List.append_nil, List.length_append, List.length_set, List.append_assoc, List.drop_nil, List.take_nil, d0, d1] <;> try simp -dsimp only [if_conj])
      exact hK
    · have d1 : decide (n ≥ (fs.length : Int)) = false := decide_eq_false h1
      obtain ⟨k, rfl⟩ : ∃ k : Nat, n = k := ⟨n.toNat, by omega⟩
      rw [fullN_in] at hK
      (simp +contextual -dsimp only [R14, evA, evB, ↓a_on_t, ↓a_on_f, ↓a_on_und, ↓a_cond_b, ↓reduceIte, Go.Ab.part, List.getD_cons_zero, List.getD_cons_succ, List.set_cons_zero, List.set_cons_succ, List.length_cons, List.length_nil, List.cons_append, List.nil_append, cond_true, cond_false, Bool.cond_true, reduceCtorEq, Option.map_some, Option.map_none, forall_const, ne_eq, implies_true, Nat.reduceAdd, Nat.reduceLeDiff, Nat.reduceLT, Nat.beq, Option.isNone_none, beq_self_eq_true, bne_self_eq_false, Int.reduceBEq, Int.reduceBNe, Int.reduceLT, Int.reduceLE, Int.reduceGT, Int.reduceGE, Int.reduceEq, Int.reduceNe, Int.reduceToNat, List.take_zero, List.drop_zero, List.all_cons, List.all_nil, List.append_nil, List.length_append, List.length_set, List.append_assoc, List.drop_nil, List.take_nil, d0, d1, strs_at (show k < fs.length by omega)] <;> try simp -dsimp only [if_conj])
      rw [strs_len]
      refine ⟨⟨by omega, by omega, by omega⟩, by omega, ?_⟩
      exact hK
theorem rFull_ok {fs : List (List UInt8)} {n : Int} (hK : K.K (.v (.string (mkStr (fullN fs n)))) h) : ACall X 15 [.z (strs fs) fs.length, I n] h K := by
  apply i15
  by_cases h0 : n < 0
  · have d0 : decide (n ≥ 0) = false := decide_eq_false (by omega)
    rw [fullN_out (.inl h0)] at hK
    (simp +contextual -dsimp only [R15, evA, evB, ↓a_on_t, ↓a_on_f, ↓a_on_und, ↓a_cond_b, ↓reduceIte, Go.Ab.part, List.getD_cons_zero, List.getD_cons_succ, List.set_cons_zero, List.set_cons_succ, List.length_cons, List.length_nil, List.cons_append, List.nil_append, cond_true, cond_false, Bool.cond_true, reduceCtorEq, Option.map_some, Option.map_none, forall_const, ne_eq, implies_true, Nat.reduceAdd, Nat.reduceLeDiff, Nat.reduceLT, Nat.beq, Option.isNone_none, beq_self_eq_true, bne_self_eq_false, Int.reduceBEq, Int.reduceBNe, Int.reduceLT, Int.reduceLE, Int.reduceGT, Int.reduceGE, Int.reduceEq, Int.reduceNe, Int.reduceToNat, List.take_zero, List.drop_zero, List.all_cons, List.all_nil, List.append_nil, List.length_append, List.length_set, List.append_assoc, List.drop_nil, List.take_nil, d0] <;> try simp -dsimp only [if_conj])
    exact hK
  · have d0 : decide (n ≥ 0) = true := decide_eq_true (by omega)
    by_cases h1 : (fs.length : Int) ≤ n
    · have d1 : decide (n < (fs.length : Int)) = false := decide_eq_false (by omega)
      rw [fullN_out (.inr h1)] at hK
      (simp +contextual -dsimp only [R15, evA, evB, ↓a_on_t, ↓a_on_f, ↓a_on_und, ↓a_cond_b, ↓reduceIte, Go.Ab.part, List.getD_cons_zero, List.getD_cons_succ, List.set_cons_zero, List.set_cons_succ, List.length_cons, List.length_nil, List.cons_append, List.nil_append, cond_true, cond_false, Bool.cond_true, reduceCtorEq, Option.map_some, Option.map_none, forall_const, ne_eq, implies_true, Nat.reduceAdd, Nat.reduceLeDiff, Nat.reduceLT, Nat.beq, Option.isNone_none, beq_self_eq_true, bne_self_eq_false, Int.reduceBEq, Int.reduceBNe, Int.reduceLT, Int.reduceLE, Int.reduceGT, Int.reduceGE, Int.reduceEq, Int.reduceNe, Int.reduceToNat, List.take_zero, List.drop_zero, List.all_cons, List.all_nil, List.append_nil, List.length_append, List.length_set, List.append_assoc, List.drop_nil, List.take_nil, d0, d1] <;> try simp -dsimp only [if_conj])
      exact hK
    · have d1 : decide (n < (fs.length : Int)) = true := decide_eq_true (by omega)
      obtain ⟨k, rfl⟩ : ∃ k : Nat, n = k := ⟨n.toNat, by omega⟩
      rw [fullN_in] at hK
      (simp +contextual -dsimp only [R15, evA, evB, ↓a_on_t, ↓a_on_f, ↓a_on_und, ↓a_cond_b, ↓reduceIte, Go.Ab.part, List.getD_cons_zero, List.getD_cons_succ, List.set_cons_zero, List.set_cons_succ, List.length_cons, List.length_nil, List.cons_append, List.nil_append, cond_true, cond_false, Bool.cond_true, reduceCtorEq, Option.map_some, Option.map_none, forall_const, ne_eq, implies_true, Nat.reduceAdd, Nat.reduceLeDiff, Nat.reduceLT, Nat.beq, Option.isNone_none, beq_self_eq_true, bne_self_eq_false, Int.reduceBEq, Int.reduceBNe, Int.reduceLT, Int.reduceLE, Int.reduceGT, Int.reduceGE, Int.reduceEq, Int.reduceNe, Int.reduceToNat, List.take_zero, List.drop_zero, List.all_cons, List.all_nil, List.append_nil, List.length_append, List.length_set, List.append_assoc, List.drop_nil, List.take_nil, d0, d1, strs_at (show k < fs.length by omega)] <;> try simp -dsimp only [if_conj])
      rw [strs_len]
      refine ⟨⟨by omega, by omega, by omega⟩, by omega, ?_⟩
      exact hK
theorem fact_ok {fs : List (List UInt8)} {x : Rw} (hK : ∀ h', Keeps h h' → K.K (.g (factOf x fs).row) h') : ACall X 27 [.g x.row, .z (strs fs) fs.length] h K := by
  have e9 : ∀ a b c d e f g h i : AV, List.take 9 (a :: b :: c :: d :: e :: f :: g :: h :: i :: []) = (a :: b :: c :: d :: e :: f :: g :: h :: i :: []) := fun _ _ _ _ _ _ _ _ _ => rfl
  have g0 : ∀ o o', (h ++ [o, o']).getD h.length .dead = o := fun o o' => hget_new
  have g1 : ∀ o o' p, ((h ++ [o, o']).set (h.length + 1) p).getD (h.length + 1) .dead = p := fun o o' p => hget_set (by simp)
  apply i27
  (simp +contextual -dsimp only [R27, evA, evB, ↓a_on_t, ↓a_on_f, ↓a_on_und, ↓a_cond_b, ↓reduceIte, Go.Ab.part, List.getD_cons_zero, List.getD_cons_succ, List.set_cons_zero, List.set_cons_succ, List.length_cons, List.length_nil, List.cons_append, List.nil_append, cond_true, cond_false, Bool.cond_true, reduceCtorEq, Option.map_some, Option.map_none, forall_const, ne_eq, implies_true, Nat.reduceAdd, Nat.reduceLeDiff, Nat.reduceLT, Nat.beq, Option.isNone_none, beq_self_eq_true, bne_self_eq_false, Int.reduceBEq, Int.reduceBNe, Int.reduceLT, Int.reduceLE, Int.reduceGT, Int.reduceGE, Int.reduceEq, Int.reduceNe, Int.reduceToNat, List.take_zero, List.drop_zero, List.all_cons, List.all_nil, List.append_nil, List.length_append, List.length_set, List.append_assoc, List.drop_nil, List.take_nil, Rw.row, g0, hget_new1, fill, List.append_assoc] <;> try simp -dsimp only [if_conj])
  refine Full_ok ?_
  (simp +contextual -dsimp only [R27, evA, evB, ↓a_on_t, ↓a_on_f, ↓a_on_und, ↓a_cond_b, ↓reduceIte, Go.Ab.part, List.getD_cons_zero, List.getD_cons_succ, List.set_cons_zero, List.set_cons_succ, List.length_cons, List.length_nil, List.cons_append, List.nil_append, cond_true, cond_false, Bool.cond_true, reduceCtorEq, Option.map_some, Option.map_none, forall_const, ne_eq, implies_true, Nat.reduceAdd, Nat.reduceLeDiff, Nat.reduceLT, Nat.beq, Option.isNone_none, beq_self_eq_true, bne_self_eq_false, Int.reduceBEq, Int.reduceBNe, Int.reduceLT, Int.reduceLE, Int.reduceGT, Int.reduceGE, Int.reduceEq, Int.reduceNe, Int.reduceToNat, List.take_zero, List.drop_zero, List.all_cons, List.all_nil, List.append_nil, List.length_append, List.length_set, List.append_assoc, List.drop_nil, List.take_nil, g0, hget_new1, setAt, g1, e9] <;> try simp -dsimp only [if_conj])
  exact hK _ ⟨by simp, fun {j} hj => by rw [hget_set_ne (by omega)]; exact Adds.mk.at hj⟩
theorem Same_ok {l : List Fa} {ra rb : AV} (hl : l.length ≤ 30000) (ia : IsR Fa.row 9 l ra h) (ib : IsR Fa.row 9 l rb h) (hK : ∀ h', Keeps h h' → K.K (Bo true) h') : ACall X 7 [ra, rb] h K := by
  obtain ⟨id, h0, W, ad, g0⟩ := ia.seen (X := X) [] [rb] (Nat.le_refl _)
  have g0 : h0.getD id .dead = .o 9 (fas l) := g0
  refine acall_weak W ad.len ?_
  obtain ⟨jd, h1, W2, ad2, g1⟩ := (ib.keeps (Keeps.adds ad)).seen (X := X) [.s id 0 l.length] [] (Nat.le_refl _)
  have g1 : h1.getD jd .dead = .o 9 (fas l) := g1
  refine acall_weak W2 ad2.len ?_
  have g0 := ad2.get g0 (by simp)
  have hll := fas_len l
  apply i7
  (simp +contextual -dsimp only [R7, evA, evB, ↓a_on_t, ↓a_on_f, ↓a_on_und, ↓a_cond_b, ↓reduceIte, Go.Ab.part, List.getD_cons_zero, List.getD_cons_succ, List.set_cons_zero, List.set_cons_succ, List.length_cons, List.length_nil, List.cons_append, List.nil_append, cond_true, cond_false, Bool.cond_true, reduceCtorEq, Option.map_some, Option.map_none, forall_const, ne_eq, implies_true, Nat.reduceAdd, Nat.reduceLeDiff, Nat.reduceLT, Nat.beq, Option.isNone_none, beq_self_eq_true, bne_self_eq_false, Int.reduceBEq, Int.reduceBNe, Int.reduceLT, Int.reduceLE, Int.reduceGT, Int.reduceGE, Int.reduceEq, Int.reduceNe, Int.reduceToNat, List.take_zero, List.drop_zero, List.all_cons, List.all_nil, List.append_nil, List.length_append, List.length_set, List.append_assoc, List.drop_nil, List.take_nil] <;> try simp -dsimp only [if_conj])
  refine aloop (fun m st => ∃ n, m + n = l.length ∧ st = ((.s id 0 l.length :: .s jd 0 l.length :: sl st.1 2 :: sl st.1 3 :: sl st.1 4 :: I n :: sl st.1 6 :: sl st.1 7 :: sl st.1 8 :: sl st.1 9 :: sl st.1 10 :: sl st.1 11 :: sl st.1 12 :: sl st.1 13 :: sl st.1 14 :: sl st.1 15 :: sl st.1 16 :: sl st.1 17 :: sl st.1 18 :: sl st.1 19 :: sl st.1 20 :: sl st.1 21 :: sl st.1 22 :: sl st.1 23 :: sl st.1 24 :: sl st.1 25 :: []), h1)) l.length _ (Nat.le_refl _) (Weak.refl _ (Nat.le_refl _)) ⟨0, by omega, rfl⟩ ?_
  rintro m st ⟨n, hm, hst⟩
  rw [hst]
  by_cases hz : n < l.length
  · have hz' : decide ((n : Int) < l.length) = true := by simp; omega
    have hn1 : IntKind.i64.wrap ((n : Int) + 1) = ((n + 1 : Nat) : Int) := by rw [wrap_i64 (by omega) (by omega)]; rfl
    have tr := fa_row hz
    generalize l.getD n default = R at *
    (simp +contextual -dsimp only [R7, evA, evB, ↓a_on_t, ↓a_on_f, ↓a_on_und, ↓a_cond_b, ↓reduceIte, Go.Ab.part, List.getD_cons_zero, List.getD_cons_succ, List.set_cons_zero, List.set_cons_succ, List.length_cons, List.length_nil, List.cons_append, List.nil_append, cond_true, cond_false, Bool.cond_true, reduceCtorEq, Option.map_some, Option.map_none, forall_const, ne_eq, implies_true, Nat.reduceAdd, Nat.reduceLeDiff, Nat.reduceLT, Nat.beq, Option.isNone_none, beq_self_eq_true, bne_self_eq_false, Int.reduceBEq, Int.reduceBNe, Int.reduceLT, Int.reduceLE, Int.reduceGT, Int.reduceGE, Int.reduceEq, Int.reduceNe, Int.reduceToNat, List.take_zero, List.drop_zero, List.all_cons, List.all_nil, List.append_nil, List.length_append, List.length_set, List.append_assoc, List.drop_nil, List.take_nil, hz', g0, g1, tr, Fa.row, hn1] <;> try simp -dsimp only [if_conj])
    repeat' apply And.intro
    all_goals first | omega | exact ⟨m - 1, _, by omega, Weak.refl _ (Nat.le_refl _), n + 1, by omega, rfl⟩
  · have hz' : decide ((n : Int) < l.length) = false := by simp; omega
    (simp +contextual -dsimp only [R7, evA, evB, ↓a_on_t, ↓a_on_f, ↓a_on_und, ↓a_cond_b, ↓reduceIte, Go.Ab.part, List.getD_cons_zero, List.getD_cons_succ, List.set_cons_zero, List.set_cons_succ, List.length_cons, List.length_nil, List.cons_append, List.nil_append, cond_true, cond_false, Bool.cond_true, reduceCtorEq, Option.map_some, Option.map_none, forall_const, ne_eq, implies_true, Nat.reduceAdd, Nat.reduceLeDiff, Nat.reduceLT, Nat.beq, Option.isNone_none, beq_self_eq_true, bne_self_eq_false, Int.reduceBEq, Int.reduceBNe, Int.reduceLT, Int.reduceLE, Int.reduceGT, Int.reduceGE, Int.reduceEq, Int.reduceNe, Int.reduceToNat, List.take_zero, List.drop_zero, List.all_cons, List.all_nil, List.append_nil, List.length_append, List.length_set, List.append_assoc, List.drop_nil, List.take_nil, hz'] <;> try simp -dsimp only [if_conj])
    exact hK _ (Keeps.adds (ad.trans ad2))
/-- ranges -/
def raRow (x : Nat × Nat) : List AV := [U x.1, U x.2]
theorem raRow_len (x : Nat × Nat) : (raRow x).length = 2 := rfl
abbrev ras (l : List (Nat × Nat)) : List AV := rows raRow l
theorem ras_len (l : List (Nat × Nat)) : (ras l).length = l.length * 2 := rows_len raRow_len l
theorem ra_row {l : List (Nat × Nat)} {n : Nat} (h : n < l.length) : ((ras l).drop (n * 2)).take 2 = raRow (l.getD n default) := rows_row raRow_len h
theorem Ranges_ok {l : List (Nat × Nat)} {ra rb : AV} (hl : l.length ≤ 30000) (ia : IsR raRow 2 l ra h) (ib : IsR raRow 2 l rb h) (hK : ∀ h', Keeps h h' → K.K (Bo true) h') : ACall X 11 [ra, rb] h K := by
  obtain ⟨id, h0, W, ad, g0⟩ := ia.seen (X := X) [] [rb] (Nat.le_refl _)
  have g0 : h0.getD id .dead = .o 2 (ras l) := g0
  refine acall_weak W ad.len ?_
  obtain ⟨jd, h1, W2, ad2, g1⟩ := (ib.keeps (Keeps.adds ad)).seen (X := X) [.s id 0 l.length] [] (Nat.le_refl _)
  have g1 : h1.getD jd .dead = .o 2 (ras l) := g1
  refine acall_weak W2 ad2.len ?_
  have g0 := ad2.get g0 (by simp)
  have hll := ras_len l
  apply i11
  (simp +contextual -dsimp only [R11, evA, evB, ↓a_on_t, ↓a_on_f, ↓a_on_und, ↓a_cond_b, ↓reduceIte, Go.Ab.part, List.getD_cons_zero, List.getD_cons_succ, List.set_cons_zero, List.set_cons_succ, List.length_cons, List.length_nil, List.cons_append, List.nil_append, cond_true, cond_false, Bool.cond_true, reduceCtorEq, Option.map_some, Option.map_none, forall_const, ne_eq, implies_true, Nat.reduceAdd, Nat.reduceLeDiff, Nat.reduceLT, Nat.beq, Option.isNone_none, beq_self_eq_true, bne_self_eq_false, Int.reduceBEq, Int.reduceBNe, Int.reduceLT, Int.reduceLE, Int.reduceGT, Int.reduceGE, Int.reduceEq, Int.reduceNe, Int.reduceToNat, List.take_zero, List.drop_zero, List.all_cons, List.all_nil, List.append_nil, List.length_append, List.length_set, List.append_assoc, List.drop_nil, List.take_nil] <;> try simp -dsimp only [if_conj])
  refine aloop (fun m st => ∃ n, m + n = l.length ∧ st = ((.s id 0 l.length :: .s jd 0 l.length :: sl st.1 2 :: sl st.1 3 :: sl st.1 4 :: I n :: sl st.1 6 :: sl st.1 7 :: sl st.1 8 :: sl st.1 9 :: sl st.1 10 :: sl st.1 11 :: sl st.1 12 :: sl st.1 13 :: sl st.1 14 :: sl st.1 15 :: sl st.1 16 :: sl st.1 17 :: sl st.1 18 :: sl st.1 19 :: sl st.1 20 :: sl st.1 21 :: sl st.1 22 :: sl st.1 23 :: sl st.1 24 :: sl st.1 25 :: []), h1)) l.length _ (Nat.le_refl _) (Weak.refl _ (Nat.le_refl _)) ⟨0, by omega, rfl⟩ ?_
  rintro m st ⟨n, hm, hst⟩
  rw [hst]
  by_cases hz : n < l.length
  · have hz' : decide ((n : Int) < l.length) = true := by simp; omega
    have hn1 : IntKind.i64.wrap ((n : Int) + 1) = ((n + 1 : Nat) : Int) := by rw [wrap_i64 (by omega) (by omega)]; rfl
    have tr := ra_row hz
    generalize l.getD n default = R at *
    (simp +contextual -dsimp only [R11, evA, evB, ↓a_on_t, ↓a_on_f, ↓a_on_und, ↓a_cond_b, ↓reduceIte, Go.Ab.part, List.getD_cons_zero, List.getD_cons_succ, List.set_cons_zero, List.set_cons_succ, List.length_cons, List.length_nil, List.cons_append, List.nil_append, cond_true, cond_false, Bool.cond_true, reduceCtorEq, Option.map_some, Option.map_none, forall_const, ne_eq, implies_true, Nat.reduceAdd, Nat.reduceLeDiff, Nat.reduceLT, Nat.beq, Option.isNone_none, beq_self_eq_true, bne_self_eq_false, Int.reduceBEq, Int.reduceBNe, Int.reduceLT, Int.reduceLE, Int.reduceGT, Int.reduceGE, Int.reduceEq, Int.reduceNe, Int.reduceToNat, List.take_zero, List.drop_zero, List.all_cons, List.all_nil, List.append_nil, List.length_append, List.length_set, List.append_assoc, List.drop_nil, List.take_nil, hz', g0, g1, tr, raRow, hn1] <;> try simp -dsimp only [if_conj])
    repeat' apply And.intro
    all_goals first | omega | exact ⟨m - 1, _, by omega, Weak.refl _ (Nat.le_refl _), n + 1, by omega, rfl⟩
  · have hz' : decide ((n : Int) < l.length) = false := by simp; omega
    (simp +contextual -dsimp only [R11, evA, evB, ↓a_on_t, ↓a_on_f, ↓a_on_und, ↓a_cond_b, ↓reduceIte, Go.Ab.part, List.getD_cons_zero, List.getD_cons_succ, List.set_cons_zero, List.set_cons_succ, List.length_cons, List.length_nil, List.cons_append, List.nil_append, cond_true, cond_false, Bool.cond_true, reduceCtorEq, Option.map_some, Option.map_none, forall_const, ne_eq, implies_true, Nat.reduceAdd, Nat.reduceLeDiff, Nat.reduceLT, Nat.beq, Option.isNone_none, beq_self_eq_true, bne_self_eq_false, Int.reduceBEq, Int.reduceBNe, Int.reduceLT, Int.reduceLE, Int.reduceGT, Int.reduceGE, Int.reduceEq, Int.reduceNe, Int.reduceToNat, List.take_zero, List.drop_zero, List.all_cons, List.all_nil, List.append_nil, List.length_append, List.length_set, List.append_assoc, List.drop_nil, List.take_nil, hz'] <;> try simp -dsimp only [if_conj])
    exact hK _ (Keeps.adds (ad.trans ad2))
theorem take_snoc {α : Type} [Inhabited α] {l : List α} {n : Nat} (h : n < l.length) : l.take (n + 1) = l.take n ++ [l.getD n default] := by
  rw [List.take_add_one, List.getElem?_eq_getElem h, List.getD_eq_getElem?_getD, List.getElem?_eq_getElem h]; rfl
theorem told24_ok {l : List Fa} {r : AV} (hl : l.length ≤ 30000) (i : IsR Fa.row 9 l r h) (hK : ∀ h' r', Keeps h h' → IsR Fa.row 9 l r' h' → K.K r' h') : ACall X 8 [r] h K := by
  have hbig : (30000000 : Nat) ≤ bigRoom := by decide
  obtain ⟨id, h0, W, ad, g0⟩ := i.seen (X := X) [] [] (Nat.le_refl _)
  have g0 : h0.getD id .dead = .o 9 (fas l) := g0
  refine acall_weak W ad.len ?_
  have hl0 := hlt g0 (by simp)
  have hll := fas_len l
  have e9 : ∀ a b c d e f g h i : AV, List.take 9 (a :: b :: c :: d :: e :: f :: g :: h :: i :: []) = (a :: b :: c :: d :: e :: f :: g :: h :: i :: []) := fun _ _ _ _ _ _ _ _ _ => rfl
  apply i8
  (simp +contextual -dsimp only [R8, evA, evB, ↓a_on_t, ↓a_on_f, ↓a_on_und, ↓a_cond_b, ↓reduceIte, Go.Ab.part, List.getD_cons_zero, List.getD_cons_succ, List.set_cons_zero, List.set_cons_succ, List.length_cons, List.length_nil, List.cons_append, List.nil_append, cond_true, cond_false, Bool.cond_true, reduceCtorEq, Option.map_some, Option.map_none, forall_const, ne_eq, implies_true, Nat.reduceAdd, Nat.reduceLeDiff, Nat.reduceLT, Nat.beq, Option.isNone_none, beq_self_eq_true, bne_self_eq_false, Int.reduceBEq, Int.reduceBNe, Int.reduceLT, Int.reduceLE, Int.reduceGT, Int.reduceGE, Int.reduceEq, Int.reduceNe, Int.reduceToNat, List.take_zero, List.drop_zero, List.all_cons, List.all_nil, List.append_nil, List.length_append, List.length_set, List.append_assoc, List.drop_nil, List.take_nil] <;> try simp -dsimp only [if_conj])
  refine aloop (fun m st => ∃ n h1 ido, m + n = l.length ∧ Keeps h0 h1 ∧ h0.length ≤ ido ∧ h1.getD ido .dead = .o 9 (fas (l.take n)) ∧ st = ((sl st.1 0 :: sl st.1 1 :: sl st.1 2 :: .s ido 0 n :: sl st.1 4 :: sl st.1 5 :: .s id 0 l.length :: I l.length :: I n :: sl st.1 9 :: sl st.1 10 :: sl st.1 11 :: sl st.1 12 :: sl st.1 13 :: sl st.1 14 :: sl st.1 15 :: sl st.1 16 :: sl st.1 17 :: []), h1)) l.length
    ((.bad :: .bad :: .bad :: .s h0.length 0 0 :: .bad :: .bad :: .s id 0 l.length :: I l.length :: I 0 :: .bad :: .bad :: .bad :: .bad :: .bad :: .bad :: .bad :: .bad :: .bad :: []), h0 ++ [.o 9 []]) (Nat.le_refl _) (weak_nils (Nat.le_refl _) (by simp [NilOk])) ⟨0, _, h0.length, by omega, Keeps.adds Adds.mk, Nat.le_refl _, hget_new, rfl⟩ ?_
  rintro m st ⟨n, h1, ido, hm, k1, ho, g1, hst⟩
  rw [hst]
  have e1 := k1.at g0 (by simp)
  have lo := hlt g1 (by simp)
  by_cases hz : n < l.length
  · have hz' : decide ((n : Int) < l.length) = true := by simp; omega
    have hn1 : IntKind.i64.wrap ((n : Int) + 1) = ((n + 1 : Nat) : Int) := by rw [wrap_i64 (by omega) (by omega)]; rfl
    have tl : (fas (l.take n)).length = n * 9 := by rw [fas_len, List.length_take]; rw [Nat.min_eq_left (by omega)]
    have eA : (fas (l.take n)).take (n * 9) = fas (l.take n) := List.take_of_length_le (by omega)
    have hno : ¬ h1.length + 1 = ido := by omega
    have eS : fas (l.take n) ++ (l.getD n default).row = fas (l.take (n + 1)) := by rw [take_snoc hz]; exact (rows_snoc _ _).symm
    have tr := fa_row hz
    generalize l.getD n default = R at *
    rw [Fa.row] at eS
    have go2 : ∀ a b, (h1 ++ [a, b]).getD ido .dead = .o 9 (fas (l.take n)) := fun a b => hget_app g1 (by simp)
    (simp +contextual -dsimp only [R8, evA, evB, ↓a_on_t, ↓a_on_f, ↓a_on_und, ↓a_cond_b, ↓reduceIte, Go.Ab.part, List.getD_cons_zero, List.getD_cons_succ, List.set_cons_zero, List.set_cons_succ, List.length_cons, List.length_nil, List.cons_append, List.nil_append, cond_true, cond_false, Bool.cond_true, reduceCtorEq, Option.map_some, Option.map_none, forall_const, ne_eq, implies_true, Nat.reduceAdd, Nat.reduceLeDiff, Nat.reduceLT, Nat.beq, Option.isNone_none, beq_self_eq_true, bne_self_eq_false, Int.reduceBEq, Int.reduceBNe, Int.reduceLT, Int.reduceLE, Int.reduceGT, Int.reduceGE, Int.reduceEq, Int.reduceNe, Int.reduceToNat, List.take_zero, List.drop_zero, List.all_cons, List.all_nil, List.append_nil, List.length_append, List.length_set, List.append_assoc, List.drop_nil, List.take_nil, hz', e1, tr, Fa.row, hget_new, hset_new, setAt, fill, hn1, e9, eA, hget_app g1, go2, hget_new1, List.append_assoc, eS] <;> try simp -dsimp only [if_conj])
    refine ⟨⟨by omega, by omega⟩, by omega, ⟨by omega, by omega, hno⟩, m - 1, _, by omega, Weak.refl _ (by simp; have := k1.len; omega), n + 1, _, h1.length + 2, by omega, ?_, by have := k1.len; omega, ?_, rfl⟩
    · exact (k1.trans (Keeps.adds Adds.mk)).push ho
    · rw [show h1.length + 2 = ((h1 ++ [AO.o 1 (Fa.row R), AO.o 9 (Fa.row R)]).set ido .dead).length by simp]
      exact hget_new
  · have hz' : decide ((n : Int) < l.length) = false := by simp; omega
    (simp +contextual -dsimp only [R8, evA, evB, ↓a_on_t, ↓a_on_f, ↓a_on_und, ↓a_cond_b, ↓reduceIte, Go.Ab.part, List.getD_cons_zero, List.getD_cons_succ, List.set_cons_zero, List.set_cons_succ, List.length_cons, List.length_nil, List.cons_append, List.nil_append, cond_true, cond_false, Bool.cond_true, reduceCtorEq, Option.map_some, Option.map_none, forall_const, ne_eq, implies_true, Nat.reduceAdd, Nat.reduceLeDiff, Nat.reduceLT, Nat.beq, Option.isNone_none, beq_self_eq_true, bne_self_eq_false, Int.reduceBEq, Int.reduceBNe, Int.reduceLT, Int.reduceLE, Int.reduceGT, Int.reduceGE, Int.reduceEq, Int.reduceNe, Int.reduceToNat, List.take_zero, List.drop_zero, List.all_cons, List.all_nil, List.append_nil, List.length_append, List.length_set, List.append_assoc, List.drop_nil, List.take_nil, hz'] <;> try simp -dsimp only [if_conj])
    have : n = l.length := by omega
    subst this
    rw [List.take_length] at g1
    exact hK _ _ ((Keeps.adds ad).trans k1) (.inr ⟨ido, rfl, g1⟩)
end Go.Proofs.Ytaejegndbaahnaa
