import Derived.Test.YtaejegndbaahnaaLE
set_option linter.unusedVariables false
set_option linter.unusedSimpArgs false
set_option maxRecDepth 100000
set_option maxHeartbeats 1000000
namespace Go.Proofs.Ytaejegndbaahnaa
open Go.Ab
variable {h : Heap} {K : Kt}
theorem sayF_len {a : Nat} {fs : List (List UInt8)} : ∀ l : List Rw, (sayF a fs l).length ≤ l.length
  | [] => Nat.le_refl _
  | [x] => by show ([] : List Fa).length ≤ 1; simp
  | x :: y :: l => by
    have := sayF_len (a := a) (fs := fs) (y :: l)
    show (if sayC a x y then factOf x fs :: sayF a fs (y :: l) else sayF a fs (y :: l)).length ≤ _
    split <;> simp at this ⊢ <;> omega
theorem rAt_ok {l : List Rw} {fs : List (List UInt8)} {a : Nat} (hl : l.length ≤ 30000) (hK : ∀ h' r', Keeps h h' → IsR Fa.row 9 (sayF a fs l) r' h' → K.K r' h') : ACall X 10 [.z (rws l) l.length, .z (strs fs) fs.length, U a] h K := by
  have hbig : (30000000 : Nat) ≤ bigRoom := by decide
  have e9 : ∀ a b c d e f g h i : AV, List.take 9 (a :: b :: c :: d :: e :: f :: g :: h :: i :: []) = (a :: b :: c :: d :: e :: f :: g :: h :: i :: []) := fun _ _ _ _ _ _ _ _ _ => rfl
  have hSl := sayF_len (a := a) (fs := fs) l
  apply i10
  (simp +contextual -dsimp only [R10, evA, evB, ↓a_on_t, ↓a_on_f, ↓a_on_und, ↓a_cond_b, ↓reduceIte, Go.Ab.part, List.getD_cons_zero, List.getD_cons_succ, List.set_cons_zero, List.set_cons_succ, List.length_cons, List.length_nil, List.cons_append, List.nil_append, cond_true, cond_false, Bool.cond_true, reduceCtorEq, Option.map_some, Option.map_none, forall_const, ne_eq, implies_true, Nat.reduceAdd, Nat.reduceLeDiff, Nat.reduceLT, Nat.beq, Option.isNone_none, beq_self_eq_true, bne_self_eq_false, Int.reduceBEq, Int.reduceBNe, Int.reduceLT, Int.reduceLE, Int.reduceGT, Int.reduceGE, Int.reduceEq, Int.reduceNe, Int.reduceToNat, List.take_zero, List.drop_zero, List.all_cons, List.all_nil, List.append_nil, List.length_append, List.length_set, List.append_assoc, List.drop_nil, List.take_nil] <;> try simp -dsimp only [if_conj])
  refine rSeqs_ok hl fun h0 rs k0 is => ?_
  have hql : (seqs l).length ≤ l.length + 1 := seqGo_len l []
  have hqs : ∀ s ∈ seqs l, s.length ≤ l.length ∧ s ≠ [] := fun s hs => by have := seqGo_sum l [] s hs; simpa using this
  have hqe : ∀ s ∈ seqs l, ∀ n, n + 1 < s.length → (s.getD n default).en = false := seqGo_in l [] (by simp)
  have hfm : sayF a fs l = (seqs l).flatMap (sayF a fs) := sayF_seqs l []
  generalize seqs l = Q at *
  have hQ := sqs_len Q
  have hlen : ∀ hh K, a_len rs hh K = K.K (I Q.length) hh := fun hh K => by rcases is with ⟨rfl, e⟩ | ⟨id, rfl, _⟩ <;> first | (rw [e]; rfl) | rfl
  have kl0 := k0.len
  (simp +contextual -dsimp only [R10, evA, evB, ↓a_on_t, ↓a_on_f, ↓a_on_und, ↓a_cond_b, ↓reduceIte, Go.Ab.part, List.getD_cons_zero, List.getD_cons_succ, List.set_cons_zero, List.set_cons_succ, List.length_cons, List.length_nil, List.cons_append, List.nil_append, cond_true, cond_false, Bool.cond_true, reduceCtorEq, Option.map_some, Option.map_none, forall_const, ne_eq, implies_true, Nat.reduceAdd, Nat.reduceLeDiff, Nat.reduceLT, Nat.beq, Option.isNone_none, beq_self_eq_true, bne_self_eq_false, Int.reduceBEq, Int.reduceBNe, Int.reduceLT, Int.reduceLE, Int.reduceGT, Int.reduceGE, Int.reduceEq, Int.reduceNe, Int.reduceToNat, List.take_zero, List.drop_zero, List.all_cons, List.all_nil, List.append_nil, List.length_append, List.length_set, List.append_assoc, List.drop_nil, List.take_nil] <;> try simp -dsimp only [if_conj])
  have W1 := weak_nils (X := X) (n := h.length) (h := h0) (sz := 9) (tm := (.bad :: .z (strs fs) fs.length :: U a :: .bad :: .bad :: .bad :: .bad :: .v (.slice none 0 0) :: rs :: I 0 :: .bad :: .bad :: .bad :: .bad :: .bad :: .bad :: .bad :: .bad :: .bad :: .bad :: .bad :: .bad :: .bad :: .bad :: .bad :: .bad :: .bad :: .bad :: .bad :: .bad :: .bad :: .bad :: .bad :: .bad :: .bad :: .bad :: .bad :: .bad :: .bad :: .bad :: .bad :: .bad :: .bad :: .bad :: .bad :: .bad :: .bad :: .bad :: .bad :: .bad :: .bad :: .bad :: .bad :: .bad :: .bad :: .bad :: .bad :: .bad :: .bad :: .bad :: .bad :: .bad :: .bad :: .bad :: .bad :: .bad :: .bad :: .bad :: .bad :: .bad :: .bad :: .bad :: .bad :: .bad :: .bad :: [])) (tm' := (.bad :: .z (strs fs) fs.length :: U a :: .bad :: .bad :: .bad :: .bad :: .s h0.length 0 0 :: rs :: I 0 :: .bad :: .bad :: .bad :: .bad :: .bad :: .bad :: .bad :: .bad :: .bad :: .bad :: .bad :: .bad :: .bad :: .bad :: .bad :: .bad :: .bad :: .bad :: .bad :: .bad :: .bad :: .bad :: .bad :: .bad :: .bad :: .bad :: .bad :: .bad :: .bad :: .bad :: .bad :: .bad :: .bad :: .bad :: .bad :: .bad :: .bad :: .bad :: .bad :: .bad :: .bad :: .bad :: .bad :: .bad :: .bad :: .bad :: .bad :: .bad :: .bad :: .bad :: .bad :: .bad :: .bad :: .bad :: .bad :: .bad :: .bad :: .bad :: .bad :: .bad :: .bad :: .bad :: .bad :: .bad :: .bad :: [])) kl0 (by simp [NilOk])
  refine aloop (fun m st => ∃ n h1 ido out, m + n = Q.length ∧ Keeps h0 h1 ∧ h0.length ≤ ido ∧ h1.getD ido .dead = .o 9 (fas out) ∧ sayF a fs l = out ++ (Q.drop n).flatMap (sayF a fs) ∧
      st = ((sl st.1 0 :: .z (strs fs) fs.length :: U a :: sl st.1 3 :: sl st.1 4 :: sl st.1 5 :: sl st.1 6 :: .s ido 0 out.length :: rs :: I n :: sl st.1 10 :: sl st.1 11 :: sl st.1 12 :: sl st.1 13 :: sl st.1 14 :: sl st.1 15 :: sl st.1 16 :: sl st.1 17 :: sl st.1 18 :: sl st.1 19 :: sl st.1 20 :: sl st.1 21 :: sl st.1 22 :: sl st.1 23 :: sl st.1 24 :: sl st.1 25 :: sl st.1 26 :: sl st.1 27 :: sl st.1 28 :: sl st.1 29 :: sl st.1 30 :: sl st.1 31 :: sl st.1 32 :: sl st.1 33 :: sl st.1 34 :: sl st.1 35 :: sl st.1 36 :: sl st.1 37 :: sl st.1 38 :: sl st.1 39 :: sl st.1 40 :: sl st.1 41 :: sl st.1 42 :: sl st.1 43 :: sl st.1 44 :: sl st.1 45 :: sl st.1 46 :: sl st.1 47 :: sl st.1 48 :: sl st.1 49 :: sl st.1 50 :: sl st.1 51 :: sl st.1 52 :: sl st.1 53 :: sl st.1 54 :: sl st.1 55 :: sl st.1 56 :: sl st.1 57 :: sl st.1 58 :: sl st.1 59 :: sl st.1 60 :: sl st.1 61 :: sl st.1 62 :: sl st.1 63 :: sl st.1 64 :: sl st.1 65 :: sl st.1 66 :: sl st.1 67 :: sl st.1 68 :: sl st.1 69 :: sl st.1 70 :: sl st.1 71 :: sl st.1 72 :: sl st.1 73 :: sl st.1 74 :: []), h1)) Q.length
    ((.bad :: .z (strs fs) fs.length :: U a :: .bad :: .bad :: .bad :: .bad :: .s h0.length 0 0 :: rs :: I 0 :: .bad :: .bad :: .bad :: .bad :: .bad :: .bad :: .bad :: .bad :: .bad :: .bad :: .bad :: .bad :: .bad :: .bad :: .bad :: .bad :: .bad :: .bad :: .bad :: .bad :: .bad :: .bad :: .bad :: .bad :: .bad :: .bad :: .bad :: .bad :: .bad :: .bad :: .bad :: .bad :: .bad :: .bad :: .bad :: .bad :: .bad :: .bad :: .bad :: .bad :: .bad :: .bad :: .bad :: .bad :: .bad :: .bad :: .bad :: .bad :: .bad :: .bad :: .bad :: .bad :: .bad :: .bad :: .bad :: .bad :: .bad :: .bad :: .bad :: .bad :: .bad :: .bad :: .bad :: .bad :: .bad :: []), h0 ++ [.o 9 []]) kl0 (Weak.trans (weak_slots kl0 (by simp [SeeL, See])) W1 (Nat.le_refl _))
    ⟨0, _, h0.length, [], by omega, Keeps.adds Adds.mk, Nat.le_refl _, hget_new, by rw [hfm]; rfl, rfl⟩ ?_
  rintro m st ⟨n, h1, ido, out, hm, k1, ho, go, hs, hst⟩
  rw [hst]
  have lo := hlt go (by simp)
  have kl := k1.len
  by_cases hz : n < Q.length
  · have hz' : decide ((n : Int) < Q.length) = true := by simp; omega
    have hn1 : IntKind.i64.wrap ((n : Int) + 1) = ((n + 1 : Nat) : Int) := by rw [wrap_i64 (by omega) (by omega)]; rfl
    have hmem : Q.getD n default ∈ Q := by rw [List.getD_eq_getElem?_getD, List.getElem?_eq_getElem hz]; exact List.getElem_mem hz
    have cz : (sqs Q).getD n .bad = .z (rws (Q.getD n default)) (Q.getD n default).length := by have := rows_at sRow_len hz (j := 0) (by decide); rw [Nat.mul_one] at this; exact this
    have hsl := (hqs _ hmem).1
    have hse := hqe _ hmem
    rw [show Q.drop n = Q.getD n default :: Q.drop (n + 1) by rw [List.drop_eq_getElem_cons hz, List.getD_eq_getElem?_getD, List.getElem?_eq_getElem hz]; rfl, List.flatMap_cons] at hs
    generalize Q.getD n default = s at *
    rcases is with ⟨_, e⟩ | ⟨id, rfl, gq⟩
    · rw [e] at hz; simp at hz
    have gq1 : h1.getD id .dead = .o 1 (sqs Q) := k1.at gq (by simp)
    (simp +contextual -dsimp only [R10, evA, evB, ↓a_on_t, ↓a_on_f, ↓a_on_und, ↓a_cond_b, ↓reduceIte, Go.Ab.part, List.getD_cons_zero, List.getD_cons_succ, List.set_cons_zero, List.set_cons_succ, List.length_cons, List.length_nil, List.cons_append, List.nil_append, cond_true, cond_false, Bool.cond_true, reduceCtorEq, Option.map_some, Option.map_none, forall_const, ne_eq, implies_true, Nat.reduceAdd, Nat.reduceLeDiff, Nat.reduceLT, Nat.beq, Option.isNone_none, beq_self_eq_true, bne_self_eq_false, Int.reduceBEq, Int.reduceBNe, Int.reduceLT, Int.reduceLE, Int.reduceGT, Int.reduceGE, Int.reduceEq, Int.reduceNe, Int.reduceToNat, List.take_zero, List.drop_zero, List.all_cons, List.all_nil, List.append_nil, List.length_append, List.length_set, List.append_assoc, List.drop_nil, List.take_nil, hz', hlen, gq1, cz] <;> try simp -dsimp only [if_conj])
    refine ⟨⟨by omega, by omega⟩, by omega, ?_⟩
    have hll := rws_len s
    refine aloop (fun m2 st => ∃ k h2 ido2 out2, m2 + k = s.length ∧ Keeps h0 h2 ∧ h0.length ≤ ido2 ∧ h2.getD ido2 .dead = .o 9 (fas out2) ∧ sayF a fs l = out2 ++ (sayF a fs (s.drop k) ++ (Q.drop (n + 1)).flatMap (sayF a fs)) ∧
        st = ((sl st.1 0 :: .z (strs fs) fs.length :: U a :: sl st.1 3 :: sl st.1 4 :: sl st.1 5 :: sl st.1 6 :: .s ido2 0 out2.length :: .s id 0 Q.length :: I n :: .z (rws s) s.length :: I k :: sl st.1 12 :: sl st.1 13 :: sl st.1 14 :: sl st.1 15 :: sl st.1 16 :: sl st.1 17 :: sl st.1 18 :: sl st.1 19 :: sl st.1 20 :: sl st.1 21 :: sl st.1 22 :: sl st.1 23 :: sl st.1 24 :: sl st.1 25 :: sl st.1 26 :: sl st.1 27 :: sl st.1 28 :: sl st.1 29 :: sl st.1 30 :: sl st.1 31 :: sl st.1 32 :: sl st.1 33 :: sl st.1 34 :: sl st.1 35 :: sl st.1 36 :: sl st.1 37 :: sl st.1 38 :: sl st.1 39 :: sl st.1 40 :: sl st.1 41 :: sl st.1 42 :: sl st.1 43 :: sl st.1 44 :: sl st.1 45 :: sl st.1 46 :: sl st.1 47 :: sl st.1 48 :: sl st.1 49 :: sl st.1 50 :: sl st.1 51 :: sl st.1 52 :: sl st.1 53 :: sl st.1 54 :: sl st.1 55 :: sl st.1 56 :: sl st.1 57 :: sl st.1 58 :: sl st.1 59 :: sl st.1 60 :: sl st.1 61 :: sl st.1 62 :: sl st.1 63 :: sl st.1 64 :: sl st.1 65 :: sl st.1 66 :: sl st.1 67 :: sl st.1 68 :: sl st.1 69 :: sl st.1 70 :: sl st.1 71 :: sl st.1 72 :: sl st.1 73 :: sl st.1 74 :: []), h2)) s.length _ (by show h.length ≤ h1.length; omega) (Weak.refl _ (by show h.length ≤ h1.length; omega))
      ⟨0, h1, ido, out, by omega, k1, ho, go, by rw [hs]; rfl, rfl⟩ ?_
    rintro m2 st2 ⟨k, h2, ido2, out2, hm2, k2, ho2, go2, hs2, hst2⟩
    rw [hst2]
    have lo2 := hlt go2 (by simp)
    have kl2 := k2.len
    have hol : out2.length ≤ l.length := by have := congrArg List.length hs2; simp only [List.length_append] at this; omega
    by_cases hz2 : k + 1 < s.length
    · have hz2' : decide (((k + 1 : Nat) : Int) < s.length) = true := by simp; omega
      have hk1 : IntKind.i64.wrap ((k : Int) + 1) = ((k + 1 : Nat) : Int) := by rw [wrap_i64 (by omega) (by omega)]; rfl
      rw [sayF_drop hz2] at hs2
      have he := hse k hz2
      have trk := rw_row (l := s) (n := k) (by omega)
      have c0 : (rws s).getD ((k + 1) * 11) .bad = U (s.getD (k + 1) default).addr := rw_at (l := s) (n := k + 1) (j := 0) hz2 (by decide)
      generalize s.getD (k + 1) default = y at *
      generalize s.getD k default = x at *
      have g1 : ∀ o L, (h2 ++ o :: L).getD h2.length .dead = o := fun o L => hget_new
      have s1 : ∀ o o', (h2 ++ [o]).set h2.length o' = h2 ++ [o'] := fun o o' => by simp
      have keep : ∀ R : List AV, Keeps h0 (h2 ++ [AO.o 1 R]) := fun R => k2.trans (Keeps.adds Adds.mk)
      have go3 : ∀ R : List AV, (h2 ++ [AO.o 1 R]).getD ido2 .dead = .o 9 (fas out2) := fun R => hget_app go2 (by simp)
      by_cases h2' : x.addr ≤ a
      · have d2 : decide ((a : Int) ≥ x.addr) = true := by simp; omega
        by_cases h3' : a < y.addr
        · have d3 : decide ((a : Int) < y.addr) = true := by simp; omega
          rw [if_pos ⟨he, h2', h3'⟩] at hs2
          (simp +contextual -dsimp only [R10, evA, evB, ↓a_on_t, ↓a_on_f, ↓a_on_und, ↓a_cond_b, ↓reduceIte, Go.Ab.part, List.getD_cons_zero, List.getD_cons_succ, List.set_cons_zero, List.set_cons_succ, List.length_cons, List.length_nil, List.cons_append, List.nil_append, cond_true, cond_false, Bool.cond_true, reduceCtorEq, Option.map_some, Option.map_none, forall_const, ne_eq, implies_true, Nat.reduceAdd, Nat.reduceLeDiff, Nat.reduceLT, Nat.beq, Option.isNone_none, beq_self_eq_true, bne_self_eq_false, Int.reduceBEq, Int.reduceBNe, Int.reduceLT, Int.reduceLE, Int.reduceGT, Int.reduceGE, Int.reduceEq, Int.reduceNe, Int.reduceToNat, List.take_zero, List.drop_zero, List.all_cons, List.all_nil, List.append_nil, List.length_append, List.length_set, List.append_assoc, List.drop_nil, List.take_nil, hz2', hk1, trk, Rw.row, fill, setAt, g1, s1, d2, d3, c0] <;> try simp -dsimp only [if_conj])
          refine ⟨⟨by omega, by omega, by omega⟩, by omega, ⟨by omega, by omega, by omega⟩, by omega, ?_⟩
          refine rFull_ok ?_
          have go4 : ∀ R o, (h2 ++ [AO.o 1 R, o]).getD ido2 .dead = .o 9 (fas out2) := fun R o => hget_app go2 (by simp)
          have eA : (fas out2).take (out2.length * 9) = fas out2 := List.take_of_length_le (by rw [fas_len]; exact Nat.le_refl _)
          have eS : fas out2 ++ (factOf x fs).row = fas (out2 ++ [factOf x fs]) := (rows_snoc _ _).symm
          have hfl := fas_len out2
          rw [Fa.row] at eS
          simp only [factOf] at eS
          (simp +contextual -dsimp only [R10, evA, evB, ↓a_on_t, ↓a_on_f, ↓a_on_und, ↓a_cond_b, ↓reduceIte, Go.Ab.part, List.getD_cons_zero, List.getD_cons_succ, List.set_cons_zero, List.set_cons_succ, List.length_cons, List.length_nil, List.cons_append, List.nil_append, cond_true, cond_false, Bool.cond_true, reduceCtorEq, Option.map_some, Option.map_none, forall_const, ne_eq, implies_true, Nat.reduceAdd, Nat.reduceLeDiff, Nat.reduceLT, Nat.beq, Option.isNone_none, beq_self_eq_true, bne_self_eq_false, Int.reduceBEq, Int.reduceBNe, Int.reduceLT, Int.reduceLE, Int.reduceGT, Int.reduceGE, Int.reduceEq, Int.reduceNe, Int.reduceToNat, List.take_zero, List.drop_zero, List.all_cons, List.all_nil, List.append_nil, List.length_append, List.length_set, List.append_assoc, List.drop_nil, List.take_nil, g1, fill, setAt, go4, e9, eA, eS, hk1, hget_new1, List.append_assoc] <;> try simp -dsimp only [if_conj])
          have kp : ∀ A B p : AO, Keeps h0 ((h2 ++ [A, B]).set ido2 .dead ++ [p]) := fun A B p => (k2.trans (Keeps.adds Adds.mk)).push ho2
          have gp : ∀ A B p : AO, ((h2 ++ [A, B]).set ido2 .dead ++ [p]).getD (h2.length + 2) .dead = p := fun A B p => by rw [show h2.length + 2 = ((h2 ++ [A, B]).set ido2 .dead).length by simp]; exact hget_new
          exact ⟨⟨by omega, by omega, by omega⟩, m2 - 1, _, by omega, Weak.refl _ (Nat.le_trans kl0 (kp _ _ _).len), k + 1, _, h2.length + 2, out2 ++ [factOf x fs], by omega, kp _ _ _, by omega, gp _ _ _, by rw [hs2]; simp, by rw [List.length_append]; rfl⟩
        · have d3 : decide ((a : Int) < y.addr) = false := by simp; omega
          rw [if_neg (fun h => h3' h.2.2)] at hs2
          (simp +contextual -dsimp only [R10, evA, evB, ↓a_on_t, ↓a_on_f, ↓a_on_und, ↓a_cond_b, ↓reduceIte, Go.Ab.part, List.getD_cons_zero, List.getD_cons_succ, List.set_cons_zero, List.set_cons_succ, List.length_cons, List.length_nil, List.cons_append, List.nil_append, cond_true, cond_false, Bool.cond_true, reduceCtorEq, Option.map_some, Option.map_none, forall_const, ne_eq, implies_true, Nat.reduceAdd, Nat.reduceLeDiff, Nat.reduceLT, Nat.beq, Option.isNone_none, beq_self_eq_true, bne_self_eq_false, Int.reduceBEq, Int.reduceBNe, Int.reduceLT, Int.reduceLE, Int.reduceGT, Int.reduceGE, Int.reduceEq, Int.reduceNe, Int.reduceToNat, List.take_zero, List.drop_zero, List.all_cons, List.all_nil, List.append_nil, List.length_append, List.length_set, List.append_assoc, List.drop_nil, List.take_nil, hz2', hk1, trk, Rw.row, fill, setAt, g1, s1, d2, d3, c0] <;> try simp -dsimp only [if_conj])
          refine ⟨⟨by omega, by omega, by omega⟩, by omega, ⟨by omega, by omega, by omega⟩, by omega, m2 - 1, _, by omega, Weak.refl _ (by simp; omega), k + 1, _, ido2, out2, by omega, keep _, ho2, go3 _, hs2, rfl⟩
      · have d2 : decide ((a : Int) ≥ x.addr) = false := by simp; omega
        rw [if_neg (fun h => h2' h.2.1)] at hs2
        (simp +contextual -dsimp only [R10, evA, evB, ↓a_on_t, ↓a_on_f, ↓a_on_und, ↓a_cond_b, ↓reduceIte, Go.Ab.part, List.getD_cons_zero, List.getD_cons_succ, List.set_cons_zero, List.set_cons_succ, List.length_cons, List.length_nil, List.cons_append, List.nil_append, cond_true, cond_false, Bool.cond_true, reduceCtorEq, Option.map_some, Option.map_none, forall_const, ne_eq, implies_true, Nat.reduceAdd, Nat.reduceLeDiff, Nat.reduceLT, Nat.beq, Option.isNone_none, beq_self_eq_true, bne_self_eq_false, Int.reduceBEq, Int.reduceBNe, Int.reduceLT, Int.reduceLE, Int.reduceGT, Int.reduceGE, Int.reduceEq, Int.reduceNe, Int.reduceToNat, List.take_zero, List.drop_zero, List.all_cons, List.all_nil, List.append_nil, List.length_append, List.length_set, List.append_assoc, List.drop_nil, List.take_nil, hz2', hk1, trk, Rw.row, fill, setAt, g1, s1, d2] <;> try simp -dsimp only [if_conj])
        refine ⟨⟨by omega, by omega, by omega⟩, by omega, m2 - 1, _, by omega, Weak.refl _ (by simp; omega), k + 1, _, ido2, out2, by omega, keep _, ho2, go3 _, hs2, rfl⟩
    · have hz2' : decide (((k + 1 : Nat) : Int) < s.length) = false := by simp; omega
      have hk1 : IntKind.i64.wrap ((k : Int) + 1) = ((k + 1 : Nat) : Int) := by rw [wrap_i64 (by omega) (by omega)]; rfl
      rw [sayF_last (by omega), List.nil_append] at hs2
      (simp +contextual -dsimp only [R10, evA, evB, ↓a_on_t, ↓a_on_f, ↓a_on_und, ↓a_cond_b, ↓reduceIte, Go.Ab.part, List.getD_cons_zero, List.getD_cons_succ, List.set_cons_zero, List.set_cons_succ, List.length_cons, List.length_nil, List.cons_append, List.nil_append, cond_true, cond_false, Bool.cond_true, reduceCtorEq, Option.map_some, Option.map_none, forall_const, ne_eq, implies_true, Nat.reduceAdd, Nat.reduceLeDiff, Nat.reduceLT, Nat.beq, Option.isNone_none, beq_self_eq_true, bne_self_eq_false, Int.reduceBEq, Int.reduceBNe, Int.reduceLT, Int.reduceLE, Int.reduceGT, Int.reduceGE, Int.reduceEq, Int.reduceNe, Int.reduceToNat, List.take_zero, List.drop_zero, List.all_cons, List.all_nil, List.append_nil, List.length_append, List.length_set, List.append_assoc, List.drop_nil, List.take_nil, hz2', hk1, hn1] <;> try simp -dsimp only [if_conj])
      exact ⟨m - 1, _, by omega, Weak.refl _ (by show h.length ≤ h2.length; omega), n + 1, h2, ido2, out2, by omega, k2, ho2, go2, hs2, rfl⟩
  · have hz' : decide ((n : Int) < Q.length) = false := by simp; omega
    rw [List.drop_of_length_le (by omega), List.flatMap_nil, List.append_nil] at hs
    (simp +contextual -dsimp only [R10, evA, evB, ↓a_on_t, ↓a_on_f, ↓a_on_und, ↓a_cond_b, ↓reduceIte, Go.Ab.part, List.getD_cons_zero, List.getD_cons_succ, List.set_cons_zero, List.set_cons_succ, List.length_cons, List.length_nil, List.cons_append, List.nil_append, cond_true, cond_false, Bool.cond_true, reduceCtorEq, Option.map_some, Option.map_none, forall_const, ne_eq, implies_true, Nat.reduceAdd, Nat.reduceLeDiff, Nat.reduceLT, Nat.beq, Option.isNone_none, beq_self_eq_true, bne_self_eq_false, Int.reduceBEq, Int.reduceBNe, Int.reduceLT, Int.reduceLE, Int.reduceGT, Int.reduceGE, Int.reduceEq, Int.reduceNe, Int.reduceToNat, List.take_zero, List.drop_zero, List.all_cons, List.all_nil, List.append_nil, List.length_append, List.length_set, List.append_assoc, List.drop_nil, List.take_nil, hz', hlen] <;> try simp -dsimp only [if_conj])
    exact hK _ _ (k0.trans k1) (.inr ⟨ido, by rw [hs], by rw [go, hs]⟩)
end Go.Proofs.Ytaejegndbaahnaa
