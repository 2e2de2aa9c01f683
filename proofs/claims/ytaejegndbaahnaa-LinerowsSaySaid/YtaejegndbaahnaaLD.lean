import Derived.Test.YtaejegndbaahnaaLC
set_option linter.unusedVariables false
set_option linter.unusedSimpArgs false
set_option maxRecDepth 100000
set_option maxHeartbeats 1000000
namespace Go.Proofs.Ytaejegndbaahnaa
open Go.Ab
variable {h : Heap} {K : Kt}
/-- a sequence's addresses -/
def covE (s : List Rw) : Bool := (s.getD (s.length - 1) default).en
def covR (s : List Rw) : Nat × Nat := ((s.getD 0 default).addr, (s.getD (s.length - 1) default).addr)
def covOk (s : List Rw) : Prop := s ≠ [] ∧ covE s = true ∧ (covR s).1 < (covR s).2
instance (s : List Rw) : Decidable (covOk s) := by unfold covOk; infer_instance
def coverR (s : List Rw) : (Nat × Nat) × Bool := if s ≠ [] ∧ covE s = true then (covR s, decide ((covR s).1 < (covR s).2)) else ((0, 0), false)
def coversR (l : List (List Rw)) : List (Nat × Nat) := (l.filter (fun s => decide (covOk s))).map covR
theorem cover_ok {s : List Rw} (hl : s.length ≤ 30000) (hK : ∀ h', Keeps h h' → K.K (.t [.g (raRow (coverR s).1), Bo (coverR s).2]) h') : ACall X 29 [.z (rws s) s.length] h K := by
  have hll := rws_len s
  have e2 : ∀ a b : AV, List.take 2 [a, b] = [a, b] := fun _ _ => rfl
  have g0 : ∀ o L, (h ++ o :: L).getD h.length .dead = o := fun o L => hget_new
  have s0 : ∀ o o', (h ++ [o]).set h.length o' = h ++ [o'] := fun o o' => by simp
  apply i29
  by_cases hz : s = []
  · have hc : coverR s = ((0, 0), false) := if_neg (fun h => h.1 hz)
    rw [hc] at hK
    subst hz
    have d0 : (((0 : Nat) : Int) == 0) = true := rfl
    (simp +contextual -dsimp only [R29, evA, evB, ↓a_on_t, ↓a_on_f, ↓a_on_und, ↓a_cond_b, ↓reduceIte, Go.Ab.part, List.getD_cons_zero, List.getD_cons_succ, List.set_cons_zero, List.set_cons_succ, List.length_cons, List.length_nil, List.cons_append, List.nil_append, cond_true, cond_false, Bool.cond_true, reduceCtorEq, Option.map_some, Option.map_none, forall_const, ne_eq, implies_true, Nat.reduceAdd, Nat.reduceLeDiff, Nat.reduceLT, Nat.beq, Option.isNone_none, beq_self_eq_true, bne_self_eq_false, Int.reduceBEq, Int.reduceBNe, Int.reduceLT, Int.reduceLE, Int.reduceGT, Int.reduceGE, Int.reduceEq, Int.reduceNe, Int.reduceToNat, List.take_zero, List.drop_zero, List.all_cons, List.all_nil, List.append_nil, List.length_append, List.length_set, List.append_assoc, List.drop_nil, List.take_nil, d0, fill, setAt, g0, s0, e2] <;> try simp -dsimp only [if_conj])
    exact hK _ (Keeps.adds Adds.mk)
  · have hp := List.length_pos_iff.2 hz
    have d0 : ((s.length : Int) == 0) = false := by simp; omega
    obtain ⟨k, hk⟩ : ∃ k, s.length = k + 1 := ⟨s.length - 1, by omega⟩
    have hn1 : IntKind.i64.wrap ((s.length : Int) - 1) = (k : Int) := by rw [wrap_i64 (by omega) (by omega)]; omega
    have c8 : (rws s).getD (k * 11 + 8) .bad = Bo (s.getD k default).en := rw_at (by omega) (by decide)
    have c0 : (rws s).getD (k * 11) .bad = U (s.getD k default).addr := rw_at (j := 0) (by omega) (by decide)
    have c00 : (rws s).getD 0 .bad = U (s.getD 0 default).addr := rw_at (l := s) (n := 0) (j := 0) (by omega) (by decide)
    have hce : covE s = (s.getD k default).en := by unfold covE; rw [hk]; rfl
    have hcr : covR s = ((s.getD 0 default).addr, (s.getD k default).addr) := by unfold covR; rw [hk]; rfl
    cases hen : (s.getD k default).en with
    | false =>
      have hc : coverR s = ((0, 0), false) := if_neg (fun h => by rw [hce, hen] at h; cases h.2)
      rw [hc] at hK
      rw [hen] at c8
      (simp +contextual -dsimp only [R29, evA, evB, ↓a_on_t, ↓a_on_f, ↓a_on_und, ↓a_cond_b, ↓reduceIte, Go.Ab.part, List.getD_cons_zero, List.getD_cons_succ, List.set_cons_zero, List.set_cons_succ, List.length_cons, List.length_nil, List.cons_append, List.nil_append, cond_true, cond_false, Bool.cond_true, reduceCtorEq, Option.map_some, Option.map_none, forall_const, ne_eq, implies_true, Nat.reduceAdd, Nat.reduceLeDiff, Nat.reduceLT, Nat.beq, Option.isNone_none, beq_self_eq_true, bne_self_eq_false, Int.reduceBEq, Int.reduceBNe, Int.reduceLT, Int.reduceLE, Int.reduceGT, Int.reduceGE, Int.reduceEq, Int.reduceNe, Int.reduceToNat, List.take_zero, List.drop_zero, List.all_cons, List.all_nil, List.append_nil, List.length_append, List.length_set, List.append_assoc, List.drop_nil, List.take_nil, d0, fill, setAt, g0, s0, e2, hn1, c8] <;> try simp -dsimp only [if_conj])
      refine ⟨⟨by omega, by omega, by omega⟩, by omega, ?_⟩
      exact hK _ (Keeps.adds Adds.mk)
    | true =>
      have hc : coverR s = (covR s, decide ((covR s).1 < (covR s).2)) := if_pos ⟨hz, by rw [hce, hen]⟩
      rw [hc, hcr] at hK
      rw [hen] at c8
      have g1 : ∀ o o', (h ++ [o, o']).getD (h.length + 1) .dead = o' := fun o o' => hget_new1
      have sA : ∀ o o' p : AO, (h ++ [o, o']).set (h.length + 1) p = h ++ [o, p] := fun o o' p => hset_new1
      have sB : ∀ o o' p : AO, (h ++ [o, o']).set h.length p = h ++ [p, o'] := fun o o' p => hset_new
      (simp +contextual -dsimp only [R29, evA, evB, ↓a_on_t, ↓a_on_f, ↓a_on_und, ↓a_cond_b, ↓reduceIte, Go.Ab.part, List.getD_cons_zero, List.getD_cons_succ, List.set_cons_zero, List.set_cons_succ, List.length_cons, List.length_nil, List.cons_append, List.nil_append, cond_true, cond_false, Bool.cond_true, reduceCtorEq, Option.map_some, Option.map_none, forall_const, ne_eq, implies_true, Nat.reduceAdd, Nat.reduceLeDiff, Nat.reduceLT, Nat.beq, Option.isNone_none, beq_self_eq_true, bne_self_eq_false, Int.reduceBEq, Int.reduceBNe, Int.reduceLT, Int.reduceLE, Int.reduceGT, Int.reduceGE, Int.reduceEq, Int.reduceNe, Int.reduceToNat, List.take_zero, List.drop_zero, List.all_cons, List.all_nil, List.append_nil, List.length_append, List.length_set, List.append_assoc, List.drop_nil, List.take_nil, d0, fill, setAt, g0, s0, e2, hn1, c8, c0, c00, g1, List.append_assoc, sA, sB] <;> try simp -dsimp only [if_conj])
      have hd : decide (((s.getD 0 default).addr : Int) < (s.getD k default).addr) = decide ((s.getD 0 default).addr < (s.getD k default).addr) := by
        by_cases hlt : (s.getD 0 default).addr < (s.getD k default).addr
        · rw [decide_eq_true hlt, decide_eq_true (by omega)]
        · rw [decide_eq_false hlt, decide_eq_false (by omega)]
      rw [hd]
      repeat' apply And.intro
      any_goals omega
      exact hK _ (Keeps.adds Adds.mk)
theorem coversR_snoc {A : List (List Rw)} {s : List Rw} : coversR (A ++ [s]) = if covOk s then coversR A ++ [covR s] else coversR A := by
  unfold coversR; rw [List.filter_append, List.map_append]
  by_cases hc : covOk s
  · rw [if_pos hc, show [s].filter (fun s => decide (covOk s)) = [s] by rw [List.filter_cons, if_pos (decide_eq_true hc)]; rfl]; rfl
  · rw [if_neg hc, show [s].filter (fun s => decide (covOk s)) = [] by rw [List.filter_cons, if_neg (by simpa using hc)]; rfl]; simp
theorem coversR_len (A : List (List Rw)) : (coversR A).length ≤ A.length := by
  unfold coversR; rw [List.length_map]; exact List.length_filter_le _ _
/-- the ranges of sequences -/
theorem Covers_ok {l : List Rw} {r : AV} (hl : l.length ≤ 30000) (iz : IsZ Rw.row 11 l r h) (hK : ∀ h' r', Keeps h h' → IsR raRow 2 (coversR (seqs l)) r' h' → K.K r' h') : ACall X 12 [r] h K := by
  have hbig : (30000000 : Nat) ≤ bigRoom := by decide
  apply i12
  (simp +contextual -dsimp only [R12, evA, evB, ↓a_on_t, ↓a_on_f, ↓a_on_und, ↓a_cond_b, ↓reduceIte, Go.Ab.part, List.getD_cons_zero, List.getD_cons_succ, List.set_cons_zero, List.set_cons_succ, List.length_cons, List.length_nil, List.cons_append, List.nil_append, cond_true, cond_false, Bool.cond_true, reduceCtorEq, Option.map_some, Option.map_none, forall_const, ne_eq, implies_true, Nat.reduceAdd, Nat.reduceLeDiff, Nat.reduceLT, Nat.beq, Option.isNone_none, beq_self_eq_true, bne_self_eq_false, Int.reduceBEq, Int.reduceBNe, Int.reduceLT, Int.reduceLE, Int.reduceGT, Int.reduceGE, Int.reduceEq, Int.reduceNe, Int.reduceToNat, List.take_zero, List.drop_zero, List.all_cons, List.all_nil, List.append_nil, List.length_append, List.length_set, List.append_assoc, List.drop_nil, List.take_nil] <;> try simp -dsimp only [if_conj])
  refine Seqs_ok hl iz fun h0 rs k0 is => ?_
  have hql : (seqs l).length ≤ l.length + 1 := seqGo_len l []
  have hqs : ∀ s ∈ seqs l, s.length ≤ l.length ∧ s ≠ [] := fun s hs => by have := seqGo_sum l [] s hs; simpa using this
  generalize seqs l = Q at *
  have hQ := sqs_len Q
  have e2 : ∀ a b : AV, List.take 2 [a, b] = [a, b] := fun _ _ => rfl
  have hlen := fun K => is.len (K := K)
  have kl0 := k0.len
  (simp +contextual -dsimp only [R12, evA, evB, ↓a_on_t, ↓a_on_f, ↓a_on_und, ↓a_cond_b, ↓reduceIte, Go.Ab.part, List.getD_cons_zero, List.getD_cons_succ, List.set_cons_zero, List.set_cons_succ, List.length_cons, List.length_nil, List.cons_append, List.nil_append, cond_true, cond_false, Bool.cond_true, reduceCtorEq, Option.map_some, Option.map_none, forall_const, ne_eq, implies_true, Nat.reduceAdd, Nat.reduceLeDiff, Nat.reduceLT, Nat.beq, Option.isNone_none, beq_self_eq_true, bne_self_eq_false, Int.reduceBEq, Int.reduceBNe, Int.reduceLT, Int.reduceLE, Int.reduceGT, Int.reduceGE, Int.reduceEq, Int.reduceNe, Int.reduceToNat, List.take_zero, List.drop_zero, List.all_cons, List.all_nil, List.append_nil, List.length_append, List.length_set, List.append_assoc, List.drop_nil, List.take_nil, hlen] <;> try simp -dsimp only [if_conj])
  have W1 := weak_nils (X := X) (n := h.length) (h := h0) (sz := 2) (tm := (.bad :: .bad :: .bad :: .v (.slice none 0 0) :: .bad :: .bad :: .bad :: .bad :: .bad :: rs :: I Q.length :: I 0 :: .bad :: .bad :: .bad :: .bad :: .bad :: .bad :: .bad :: .bad :: .bad :: .bad :: .bad :: .bad :: .bad :: .bad :: .bad :: [])) (tm' := (.bad :: .bad :: .bad :: .s h0.length 0 0 :: .bad :: .bad :: .bad :: .bad :: .bad :: rs :: I Q.length :: I 0 :: .bad :: .bad :: .bad :: .bad :: .bad :: .bad :: .bad :: .bad :: .bad :: .bad :: .bad :: .bad :: .bad :: .bad :: .bad :: [])) kl0 (by simp [NilOk])
  refine aloop (fun m st => ∃ n h1 ido, m + n = Q.length ∧ Keeps h0 h1 ∧ h0.length ≤ ido ∧ h1.getD ido .dead = .o 2 (ras (coversR (Q.take n))) ∧ st = ((sl st.1 0 :: sl st.1 1 :: sl st.1 2 :: .s ido 0 (coversR (Q.take n)).length :: sl st.1 4 :: sl st.1 5 :: sl st.1 6 :: sl st.1 7 :: sl st.1 8 :: rs :: I Q.length :: I n :: sl st.1 12 :: sl st.1 13 :: sl st.1 14 :: sl st.1 15 :: sl st.1 16 :: sl st.1 17 :: sl st.1 18 :: sl st.1 19 :: sl st.1 20 :: sl st.1 21 :: sl st.1 22 :: sl st.1 23 :: sl st.1 24 :: sl st.1 25 :: sl st.1 26 :: []), h1)) Q.length
    ((.bad :: .bad :: .bad :: .s h0.length 0 0 :: .bad :: .bad :: .bad :: .bad :: .bad :: rs :: I Q.length :: I 0 :: .bad :: .bad :: .bad :: .bad :: .bad :: .bad :: .bad :: .bad :: .bad :: .bad :: .bad :: .bad :: .bad :: .bad :: .bad :: []), h0 ++ [.o 2 []]) kl0 (Weak.trans (weak_slots kl0 (by simp [SeeL, See])) W1 (Nat.le_refl _))
    ⟨0, _, h0.length, by omega, Keeps.adds Adds.mk, Nat.le_refl _, hget_new, rfl⟩ ?_
  rintro m st ⟨n, h1, ido, hm, k1, ho, go, hst⟩
  rw [hst]
  have lo := hlt go (by simp)
  have kl := k1.len
  by_cases hz : n < Q.length
  · have hz' : decide ((n : Int) < Q.length) = true := by simp; omega
    have hn1 : IntKind.i64.wrap ((n : Int) + 1) = ((n + 1 : Nat) : Int) := by rw [wrap_i64 (by omega) (by omega)]; rfl
    have ts := take_snoc hz
    have hmem : Q.getD n default ∈ Q := by rw [List.getD_eq_getElem?_getD, List.getElem?_eq_getElem hz]; exact List.getElem_mem hz
    have cz : (sqs Q).getD n .bad = .z (rws (Q.getD n default)) (Q.getD n default).length := by have := rows_at sRow_len hz (j := 0) (by decide); rw [Nat.mul_one] at this; exact this
    have hsl := (hqs _ hmem).1
    have hsn := (hqs _ hmem).2
    have hfl := coversR_snoc (A := Q.take n) (s := Q.getD n default)
    rw [← ts] at hfl
    generalize Q.getD n default = s at *
    rcases is with ⟨_, e⟩ | ⟨id, rfl, gq⟩
    · rw [e] at hz; simp at hz
    have gq1 : h1.getD id .dead = .o 1 (sqs Q) := k1.at gq (by simp)
    have hcl : (coversR (Q.take n)).length ≤ n := by have := coversR_len (Q.take n); rw [List.length_take] at this; omega
    have hrl := ras_len (coversR (Q.take n))
    (simp +contextual -dsimp only [R12, evA, evB, ↓a_on_t, ↓a_on_f, ↓a_on_und, ↓a_cond_b, ↓reduceIte, Go.Ab.part, List.getD_cons_zero, List.getD_cons_succ, List.set_cons_zero, List.set_cons_succ, List.length_cons, List.length_nil, List.cons_append, List.nil_append, cond_true, cond_false, Bool.cond_true, reduceCtorEq, Option.map_some, Option.map_none, forall_const, ne_eq, implies_true, Nat.reduceAdd, Nat.reduceLeDiff, Nat.reduceLT, Nat.beq, Option.isNone_none, beq_self_eq_true, bne_self_eq_false, Int.reduceBEq, Int.reduceBNe, Int.reduceLT, Int.reduceLE, Int.reduceGT, Int.reduceGE, Int.reduceEq, Int.reduceNe, Int.reduceToNat, List.take_zero, List.drop_zero, List.all_cons, List.all_nil, List.append_nil, List.length_append, List.length_set, List.append_assoc, List.drop_nil, List.take_nil, hz', gq1, cz] <;> try simp -dsimp only [if_conj])
    refine ⟨⟨by omega, by omega⟩, by omega, ?_⟩
    refine cover_ok (by omega) fun h3 k3 => ?_
    have go3 := k3.at go (by simp)
    have lo3 := hlt go3 (by simp)
    have kl3 := k3.len
    have g3 : ∀ o, (h3 ++ [o]).getD h3.length .dead = o := fun o => hget_new
    have s3 : ∀ o o', (h3 ++ [o]).set h3.length o' = h3 ++ [o'] := fun o o' => by simp
    by_cases hc : covOk s
    · have hcr : coverR s = (covR s, true) := by unfold coverR; rw [if_pos ⟨hsn, hc.2.1⟩, decide_eq_true hc.2.2]
      rw [hcr]
      rw [if_pos hc] at hfl
      have go4 : ∀ a L, (h3 ++ a :: L).getD ido .dead = .o 2 (ras (coversR (Q.take n))) := fun a L => hget_app go3 (by simp)
      have eA : (ras (coversR (Q.take n))).take ((coversR (Q.take n)).length * 2) = ras (coversR (Q.take n)) := List.take_of_length_le (by omega)
      have eS : ras (coversR (Q.take n)) ++ [U (covR s).1, U (covR s).2] = ras (coversR (Q.take (n + 1))) := by rw [hfl]; exact (rows_snoc _ _).symm
      (simp +contextual -dsimp only [R12, evA, evB, ↓a_on_t, ↓a_on_f, ↓a_on_und, ↓a_cond_b, ↓reduceIte, Go.Ab.part, List.getD_cons_zero, List.getD_cons_succ, List.set_cons_zero, List.set_cons_succ, List.length_cons, List.length_nil, List.cons_append, List.nil_append, cond_true, cond_false, Bool.cond_true, reduceCtorEq, Option.map_some, Option.map_none, forall_const, ne_eq, implies_true, Nat.reduceAdd, Nat.reduceLeDiff, Nat.reduceLT, Nat.beq, Option.isNone_none, beq_self_eq_true, bne_self_eq_false, Int.reduceBEq, Int.reduceBNe, Int.reduceLT, Int.reduceLE, Int.reduceGT, Int.reduceGE, Int.reduceEq, Int.reduceNe, Int.reduceToNat, List.take_zero, List.drop_zero, List.all_cons, List.all_nil, List.append_nil, List.length_append, List.length_set, List.append_assoc, List.drop_nil, List.take_nil, raRow, fill, setAt, g3, s3, e2, hn1, hget_new1, go4, List.append_assoc, eA, eS] <;> try simp -dsimp only [if_conj])
      have kk := (k1.trans k3).trans (Keeps.adds (Adds.mk (h := h3) (l := [AO.o 1 [U (covR s).1, U (covR s).2], AO.o 2 [U (covR s).1, U (covR s).2]])))
      have kp := kk.push (id := ido) (p := AO.o 2 (ras (coversR (Q.take (n + 1))))) ho
      refine ⟨⟨by omega, by omega, by omega⟩, m - 1, _, by omega, Weak.refl _ (by have := kp.len; exact Nat.le_trans kl0 this), n + 1, _, h3.length + 2, by omega, kp, by omega, ?_, by rw [hfl, List.length_append]; rfl⟩
      rw [show h3.length + 2 = ((h3 ++ [AO.o 1 [U (covR s).1, U (covR s).2], AO.o 2 [U (covR s).1, U (covR s).2]]).set ido .dead).length by simp]; exact hget_new
    · rw [if_neg hc] at hfl
      have hcr : (coverR s).2 = false := by
        unfold coverR; split
        · rename_i h2; exact decide_eq_false fun h3 => hc ⟨h2.1, h2.2, h3⟩
        · rfl
      generalize coverR s = cv at *
      obtain ⟨cv1, cv2⟩ := cv
      have hcr : cv2 = false := hcr
      subst hcr
      (simp +contextual -dsimp only [R12, evA, evB, ↓a_on_t, ↓a_on_f, ↓a_on_und, ↓a_cond_b, ↓reduceIte, Go.Ab.part, List.getD_cons_zero, List.getD_cons_succ, List.set_cons_zero, List.set_cons_succ, List.length_cons, List.length_nil, List.cons_append, List.nil_append, cond_true, cond_false, Bool.cond_true, reduceCtorEq, Option.map_some, Option.map_none, forall_const, ne_eq, implies_true, Nat.reduceAdd, Nat.reduceLeDiff, Nat.reduceLT, Nat.beq, Option.isNone_none, beq_self_eq_true, bne_self_eq_false, Int.reduceBEq, Int.reduceBNe, Int.reduceLT, Int.reduceLE, Int.reduceGT, Int.reduceGE, Int.reduceEq, Int.reduceNe, Int.reduceToNat, List.take_zero, List.drop_zero, List.all_cons, List.all_nil, List.append_nil, List.length_append, List.length_set, List.append_assoc, List.drop_nil, List.take_nil, raRow, fill, setAt, g3, s3, e2, hn1] <;> try simp -dsimp only [if_conj])
      exact ⟨m - 1, _, by omega, Weak.refl _ (by simp; omega), n + 1, h3 ++ [AO.o 1 [U cv1.1, U cv1.2]], ido, by omega, (k1.trans k3).trans (Keeps.adds Adds.mk), ho, by rw [hfl]; exact hget_app go3 (by simp), by rw [hfl]; rfl⟩
  · have hz' : decide ((n : Int) < Q.length) = false := by simp; omega
    rw [List.take_of_length_le (by omega)] at go ⊢
    (simp +contextual -dsimp only [R12, evA, evB, ↓a_on_t, ↓a_on_f, ↓a_on_und, ↓a_cond_b, ↓reduceIte, Go.Ab.part, List.getD_cons_zero, List.getD_cons_succ, List.set_cons_zero, List.set_cons_succ, List.length_cons, List.length_nil, List.cons_append, List.nil_append, cond_true, cond_false, Bool.cond_true, reduceCtorEq, Option.map_some, Option.map_none, forall_const, ne_eq, implies_true, Nat.reduceAdd, Nat.reduceLeDiff, Nat.reduceLT, Nat.beq, Option.isNone_none, beq_self_eq_true, bne_self_eq_false, Int.reduceBEq, Int.reduceBNe, Int.reduceLT, Int.reduceLE, Int.reduceGT, Int.reduceGE, Int.reduceEq, Int.reduceNe, Int.reduceToNat, List.take_zero, List.drop_zero, List.all_cons, List.all_nil, List.append_nil, List.length_append, List.length_set, List.append_assoc, List.drop_nil, List.take_nil, hz'] <;> try simp -dsimp only [if_conj])
    exact hK _ _ (k0.trans k1) (.inr ⟨ido, rfl, go⟩)
theorem rCovers_ok {l : List Rw} (hl : l.length ≤ 30000) (hK : ∀ h' r', Keeps h h' → IsR raRow 2 (coversR (seqs l)) r' h' → K.K r' h') : ACall X 13 [.z (rws l) l.length] h K := by
  have hbig : (30000000 : Nat) ≤ bigRoom := by decide
  apply i13
  (simp +contextual -dsimp only [R13, evA, evB, ↓a_on_t, ↓a_on_f, ↓a_on_und, ↓a_cond_b, ↓reduceIte, Go.Ab.part, List.getD_cons_zero, List.getD_cons_succ, List.set_cons_zero, List.set_cons_succ, List.length_cons, List.length_nil, List.cons_append, List.nil_append, cond_true, cond_false, Bool.cond_true, reduceCtorEq, Option.map_some, Option.map_none, forall_const, ne_eq, implies_true, Nat.reduceAdd, Nat.reduceLeDiff, Nat.reduceLT, Nat.beq, Option.isNone_none, beq_self_eq_true, bne_self_eq_false, Int.reduceBEq, Int.reduceBNe, Int.reduceLT, Int.reduceLE, Int.reduceGT, Int.reduceGE, Int.reduceEq, Int.reduceNe, Int.reduceToNat, List.take_zero, List.drop_zero, List.all_cons, List.all_nil, List.append_nil, List.length_append, List.length_set, List.append_assoc, List.drop_nil, List.take_nil] <;> try simp -dsimp only [if_conj])
  refine rSeqs_ok hl fun h0 rs k0 is => ?_
  have hql : (seqs l).length ≤ l.length + 1 := seqGo_len l []
  have hqs : ∀ s ∈ seqs l, s.length ≤ l.length ∧ s ≠ [] := fun s hs => by have := seqGo_sum l [] s hs; simpa using this
  generalize seqs l = Q at *
  have hQ := sqs_len Q
  have e2 : ∀ a b : AV, List.take 2 [a, b] = [a, b] := fun _ _ => rfl
  have hlen : ∀ hh K, a_len rs hh K = K.K (I Q.length) hh := fun hh K => by rcases is with ⟨rfl, e⟩ | ⟨id, rfl, _⟩ <;> first | (rw [e]; rfl) | rfl
  have kl0 := k0.len
  (simp +contextual -dsimp only [R13, evA, evB, ↓a_on_t, ↓a_on_f, ↓a_on_und, ↓a_cond_b, ↓reduceIte, Go.Ab.part, List.getD_cons_zero, List.getD_cons_succ, List.set_cons_zero, List.set_cons_succ, List.length_cons, List.length_nil, List.cons_append, List.nil_append, cond_true, cond_false, Bool.cond_true, reduceCtorEq, Option.map_some, Option.map_none, forall_const, ne_eq, implies_true, Nat.reduceAdd, Nat.reduceLeDiff, Nat.reduceLT, Nat.beq, Option.isNone_none, beq_self_eq_true, bne_self_eq_false, Int.reduceBEq, Int.reduceBNe, Int.reduceLT, Int.reduceLE, Int.reduceGT, Int.reduceGE, Int.reduceEq, Int.reduceNe, Int.reduceToNat, List.take_zero, List.drop_zero, List.all_cons, List.all_nil, List.append_nil, List.length_append, List.length_set, List.append_assoc, List.drop_nil, List.take_nil] <;> try simp -dsimp only [if_conj])
  have W1 := weak_nils (X := X) (n := h.length) (h := h0) (sz := 2) (tm := (.bad :: .bad :: .bad :: .v (.slice none 0 0) :: rs :: I 0 :: .bad :: .bad :: .bad :: .bad :: .bad :: .bad :: .bad :: .bad :: .bad :: .bad :: .bad :: .bad :: .bad :: .bad :: .bad :: .bad :: .bad :: .bad :: .bad :: .bad :: .bad :: .bad :: .bad :: .bad :: .bad :: .bad :: .bad :: .bad :: .bad :: .bad :: .bad :: .bad :: .bad :: .bad :: .bad :: .bad :: .bad :: .bad :: .bad :: .bad :: .bad :: .bad :: [])) (tm' := (.bad :: .bad :: .bad :: .s h0.length 0 0 :: rs :: I 0 :: .bad :: .bad :: .bad :: .bad :: .bad :: .bad :: .bad :: .bad :: .bad :: .bad :: .bad :: .bad :: .bad :: .bad :: .bad :: .bad :: .bad :: .bad :: .bad :: .bad :: .bad :: .bad :: .bad :: .bad :: .bad :: .bad :: .bad :: .bad :: .bad :: .bad :: .bad :: .bad :: .bad :: .bad :: .bad :: .bad :: .bad :: .bad :: .bad :: .bad :: .bad :: .bad :: [])) kl0 (by simp [NilOk])
  refine aloop (fun m st => ∃ n h1 ido, m + n = Q.length ∧ Keeps h0 h1 ∧ h0.length ≤ ido ∧ h1.getD ido .dead = .o 2 (ras (coversR (Q.take n))) ∧ st = ((sl st.1 0 :: sl st.1 1 :: sl st.1 2 :: .s ido 0 (coversR (Q.take n)).length :: rs :: I n :: sl st.1 6 :: sl st.1 7 :: sl st.1 8 :: sl st.1 9 :: sl st.1 10 :: sl st.1 11 :: sl st.1 12 :: sl st.1 13 :: sl st.1 14 :: sl st.1 15 :: sl st.1 16 :: sl st.1 17 :: sl st.1 18 :: sl st.1 19 :: sl st.1 20 :: sl st.1 21 :: sl st.1 22 :: sl st.1 23 :: sl st.1 24 :: sl st.1 25 :: sl st.1 26 :: sl st.1 27 :: sl st.1 28 :: sl st.1 29 :: sl st.1 30 :: sl st.1 31 :: sl st.1 32 :: sl st.1 33 :: sl st.1 34 :: sl st.1 35 :: sl st.1 36 :: sl st.1 37 :: sl st.1 38 :: sl st.1 39 :: sl st.1 40 :: sl st.1 41 :: sl st.1 42 :: sl st.1 43 :: sl st.1 44 :: sl st.1 45 :: sl st.1 46 :: sl st.1 47 :: []), h1)) Q.length
    ((.bad :: .bad :: .bad :: .s h0.length 0 0 :: rs :: I 0 :: .bad :: .bad :: .bad :: .bad :: .bad :: .bad :: .bad :: .bad :: .bad :: .bad :: .bad :: .bad :: .bad :: .bad :: .bad :: .bad :: .bad :: .bad :: .bad :: .bad :: .bad :: .bad :: .bad :: .bad :: .bad :: .bad :: .bad :: .bad :: .bad :: .bad :: .bad :: .bad :: .bad :: .bad :: .bad :: .bad :: .bad :: .bad :: .bad :: .bad :: .bad :: .bad :: []), h0 ++ [.o 2 []]) kl0 (Weak.trans (weak_slots kl0 (by simp [SeeL, See])) W1 (Nat.le_refl _))
    ⟨0, _, h0.length, by omega, Keeps.adds Adds.mk, Nat.le_refl _, hget_new, rfl⟩ ?_
  rintro m st ⟨n, h1, ido, hm, k1, ho, go, hst⟩
  rw [hst]
  have lo := hlt go (by simp)
  have kl := k1.len
  by_cases hz : n < Q.length
  · have hz' : decide ((n : Int) < Q.length) = true := by simp; omega
    have hn1 : IntKind.i64.wrap ((n : Int) + 1) = ((n + 1 : Nat) : Int) := by rw [wrap_i64 (by omega) (by omega)]; rfl
    have ts := take_snoc hz
    have hmem : Q.getD n default ∈ Q := by rw [List.getD_eq_getElem?_getD, List.getElem?_eq_getElem hz]; exact List.getElem_mem hz
    have cz : (sqs Q).getD n .bad = .z (rws (Q.getD n default)) (Q.getD n default).length := by have := rows_at sRow_len hz (j := 0) (by decide); rw [Nat.mul_one] at this; exact this
    have hsl := (hqs _ hmem).1
    have hsn := (hqs _ hmem).2
    have hfl := coversR_snoc (A := Q.take n) (s := Q.getD n default)
    rw [← ts] at hfl
    generalize Q.getD n default = s at *
    rcases is with ⟨_, e⟩ | ⟨id, rfl, gq⟩
    · rw [e] at hz; simp at hz
    have gq1 : h1.getD id .dead = .o 1 (sqs Q) := k1.at gq (by simp)
    have hcl : (coversR (Q.take n)).length ≤ n := by have := coversR_len (Q.take n); rw [List.length_take] at this; omega
    have hrl := ras_len (coversR (Q.take n))
    have hp := List.length_pos_iff.2 hsn
    obtain ⟨k, hk⟩ : ∃ k, s.length = k + 1 := ⟨s.length - 1, by omega⟩
    have hkk : IntKind.i64.wrap ((s.length : Int) - 1) = (k : Int) := by rw [wrap_i64 (by omega) (by omega)]; omega
    have trk := rw_row (l := s) (n := k) (by omega)
    have c00 : (rws s).getD 0 .bad = U (s.getD 0 default).addr := rw_at (l := s) (n := 0) (j := 0) (by omega) (by decide)
    have hce : covE s = (s.getD k default).en := by unfold covE; rw [hk]; rfl
    have hcr : covR s = ((s.getD 0 default).addr, (s.getD k default).addr) := by unfold covR; rw [hk]; rfl
    have hll := rws_len s
    generalize s.getD k default = x at *
    generalize s.getD 0 default = y at *
    have g1 : ∀ o L, (h1 ++ o :: L).getD h1.length .dead = o := fun o L => hget_new
    have s1 : ∀ o o', (h1 ++ [o]).set h1.length o' = h1 ++ [o'] := fun o o' => by simp
    have go4 : ∀ a L, (h1 ++ a :: L).getD ido .dead = .o 2 (ras (coversR (Q.take n))) := fun a L => hget_app go (by simp)
    have eA : (ras (coversR (Q.take n))).take ((coversR (Q.take n)).length * 2) = ras (coversR (Q.take n)) := List.take_of_length_le (by omega)
    by_cases hc : covOk s
    · have he : x.en = true := by rw [← hce]; exact hc.2.1
      have hlt : y.addr < x.addr := by have := hc.2.2; rw [hcr] at this; exact this
      have hd : decide ((y.addr : Int) < x.addr) = true := by simp; omega
      rw [if_pos hc] at hfl
      have eS : ras (coversR (Q.take n)) ++ [U y.addr, U x.addr] = ras (coversR (Q.take (n + 1))) := by rw [hfl, hcr]; exact (rows_snoc (f := raRow) (coversR (Q.take n)) (y.addr, x.addr)).symm
      (simp +contextual -dsimp only [R13, evA, evB, ↓a_on_t, ↓a_on_f, ↓a_on_und, ↓a_cond_b, ↓reduceIte, Go.Ab.part, List.getD_cons_zero, List.getD_cons_succ, List.set_cons_zero, List.set_cons_succ, List.length_cons, List.length_nil, List.cons_append, List.nil_append, cond_true, cond_false, Bool.cond_true, reduceCtorEq, Option.map_some, Option.map_none, forall_const, ne_eq, implies_true, Nat.reduceAdd, Nat.reduceLeDiff, Nat.reduceLT, Nat.beq, Option.isNone_none, beq_self_eq_true, bne_self_eq_false, Int.reduceBEq, Int.reduceBNe, Int.reduceLT, Int.reduceLE, Int.reduceGT, Int.reduceGE, Int.reduceEq, Int.reduceNe, Int.reduceToNat, List.take_zero, List.drop_zero, List.all_cons, List.all_nil, List.append_nil, List.length_append, List.length_set, List.append_assoc, List.drop_nil, List.take_nil, hz', hlen, gq1, cz, hkk, trk, Rw.row, fill, setAt, g1, s1, he, c00, hd, hget_new1, go4, List.append_assoc, e2, eA, eS, hn1] <;> try simp -dsimp only [if_conj])
      have kk := k1.trans (Keeps.adds (Adds.mk (h := h1) (l := [AO.o 1 (U x.addr :: I x.file :: I x.line :: I x.col :: Bo x.st :: Bo x.bl :: Bo x.pr :: Bo x.ep :: Bo true :: U x.isa :: U x.disc :: []), AO.o 2 [U y.addr, U x.addr]])))
      have kp := kk.push (id := ido) (p := AO.o 2 (ras (coversR (Q.take (n + 1))))) ho
      refine ⟨⟨by omega, by omega⟩, by omega, ⟨by omega, by omega, by omega⟩, by omega, ⟨by omega, by omega⟩, by omega, ⟨by omega, by omega⟩, by omega, ⟨by omega, by omega, by omega⟩, m - 1, _, by omega, Weak.refl _ (by have := kp.len; exact Nat.le_trans kl0 this), n + 1, _, h1.length + 2, by omega, kp, by omega, ?_, by rw [hfl, List.length_append]; rfl⟩
      rw [show h1.length + 2 = ((h1 ++ [AO.o 1 (U x.addr :: I x.file :: I x.line :: I x.col :: Bo x.st :: Bo x.bl :: Bo x.pr :: Bo x.ep :: Bo true :: U x.isa :: U x.disc :: []), AO.o 2 [U y.addr, U x.addr]]).set ido .dead).length by simp]; exact hget_new
    · rw [if_neg hc] at hfl
      have fin : ∀ R : List AV, (h1 ++ [AO.o 1 R]).getD ido .dead = .o 2 (ras (coversR (Q.take (n + 1)))) ∧ Keeps h0 (h1 ++ [AO.o 1 R]) := fun R => ⟨by rw [hfl]; exact hget_app go (by simp), k1.trans (Keeps.adds Adds.mk)⟩
      cases he : x.en with
      | false =>
        (simp +contextual -dsimp only [R13, evA, evB, ↓a_on_t, ↓a_on_f, ↓a_on_und, ↓a_cond_b, ↓reduceIte, Go.Ab.part, List.getD_cons_zero, List.getD_cons_succ, List.set_cons_zero, List.set_cons_succ, List.length_cons, List.length_nil, List.cons_append, List.nil_append, cond_true, cond_false, Bool.cond_true, reduceCtorEq, Option.map_some, Option.map_none, forall_const, ne_eq, implies_true, Nat.reduceAdd, Nat.reduceLeDiff, Nat.reduceLT, Nat.beq, Option.isNone_none, beq_self_eq_true, bne_self_eq_false, Int.reduceBEq, Int.reduceBNe, Int.reduceLT, Int.reduceLE, Int.reduceGT, Int.reduceGE, Int.reduceEq, Int.reduceNe, Int.reduceToNat, List.take_zero, List.drop_zero, List.all_cons, List.all_nil, List.append_nil, List.length_append, List.length_set, List.append_assoc, List.drop_nil, List.take_nil, hz', hlen, gq1, cz, hkk, trk, Rw.row, fill, setAt, g1, s1, he, hn1] <;> try simp -dsimp only [if_conj])
        refine ⟨⟨by omega, by omega⟩, by omega, ⟨by omega, by omega, by omega⟩, by omega, m - 1, _, by omega, Weak.refl _ (by simp; omega), n + 1, _, ido, by omega, (fin _).2, ho, (fin _).1, by rw [hfl]; rfl⟩
      | true =>
        have hd : decide ((y.addr : Int) < x.addr) = false := by
          refine decide_eq_false fun h => hc ⟨hsn, by rw [hce]; exact he, by rw [hcr]; show y.addr < x.addr; omega⟩
        (simp +contextual -dsimp only [R13, evA, evB, ↓a_on_t, ↓a_on_f, ↓a_on_und, ↓a_cond_b, ↓reduceIte, Go.Ab.part, List.getD_cons_zero, List.getD_cons_succ, List.set_cons_zero, List.set_cons_succ, List.length_cons, List.length_nil, List.cons_append, List.nil_append, cond_true, cond_false, Bool.cond_true, reduceCtorEq, Option.map_some, Option.map_none, forall_const, ne_eq, implies_true, Nat.reduceAdd, Nat.reduceLeDiff, Nat.reduceLT, Nat.beq, Option.isNone_none, beq_self_eq_true, bne_self_eq_false, Int.reduceBEq, Int.reduceBNe, Int.reduceLT, Int.reduceLE, Int.reduceGT, Int.reduceGE, Int.reduceEq, Int.reduceNe, Int.reduceToNat, List.take_zero, List.drop_zero, List.all_cons, List.all_nil, List.append_nil, List.length_append, List.length_set, List.append_assoc, List.drop_nil, List.take_nil, hz', hlen, gq1, cz, hkk, trk, Rw.row, fill, setAt, g1, s1, he, hn1, c00, hd] <;> try simp -dsimp only [if_conj])
        refine ⟨⟨by omega, by omega⟩, by omega, ⟨by omega, by omega, by omega⟩, by omega, ⟨by omega, by omega⟩, by omega, m - 1, _, by omega, Weak.refl _ (by simp; omega), n + 1, _, ido, by omega, (fin _).2, ho, (fin _).1, by rw [hfl]; rfl⟩
  · have hz' : decide ((n : Int) < Q.length) = false := by simp; omega
    rw [List.take_of_length_le (by omega)] at go ⊢
    (simp +contextual -dsimp only [R13, evA, evB, ↓a_on_t, ↓a_on_f, ↓a_on_und, ↓a_cond_b, ↓reduceIte, Go.Ab.part, List.getD_cons_zero, List.getD_cons_succ, List.set_cons_zero, List.set_cons_succ, List.length_cons, List.length_nil, List.cons_append, List.nil_append, cond_true, cond_false, Bool.cond_true, reduceCtorEq, Option.map_some, Option.map_none, forall_const, ne_eq, implies_true, Nat.reduceAdd, Nat.reduceLeDiff, Nat.reduceLT, Nat.beq, Option.isNone_none, beq_self_eq_true, bne_self_eq_false, Int.reduceBEq, Int.reduceBNe, Int.reduceLT, Int.reduceLE, Int.reduceGT, Int.reduceGE, Int.reduceEq, Int.reduceNe, Int.reduceToNat, List.take_zero, List.drop_zero, List.all_cons, List.all_nil, List.append_nil, List.length_append, List.length_set, List.append_assoc, List.drop_nil, List.take_nil, hz', hlen] <;> try simp -dsimp only [if_conj])
    exact hK _ _ (k0.trans k1) (.inr ⟨ido, rfl, go⟩)
end Go.Proofs.Ytaejegndbaahnaa
