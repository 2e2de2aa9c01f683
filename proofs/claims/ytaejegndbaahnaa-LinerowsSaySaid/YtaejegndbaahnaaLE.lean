import Derived.Test.YtaejegndbaahnaaLD
set_option linter.unusedVariables false
set_option linter.unusedSimpArgs false
set_option maxRecDepth 100000
set_option maxHeartbeats 1000000
namespace Go.Proofs.Ytaejegndbaahnaa
open Go.Ab
variable {h : Heap} {K : Kt}
/-- what rows say of an address -/
def sayC (a : Nat) (x y : Rw) : Prop := x.en = false ∧ x.addr ≤ a ∧ a < y.addr
instance (a : Nat) (x y : Rw) : Decidable (sayC a x y) := by unfold sayC; infer_instance
def sayF (a : Nat) (fs : List (List UInt8)) : List Rw → List Fa
  | x :: y :: l => if sayC a x y then factOf x fs :: sayF a fs (y :: l) else sayF a fs (y :: l)
  | _ => []
theorem sayF_drop {a : Nat} {fs : List (List UInt8)} {l : List Rw} {n : Nat} (h : n + 1 < l.length) : sayF a fs (l.drop n) = if sayC a (l.getD n default) (l.getD (n + 1) default) then factOf (l.getD n default) fs :: sayF a fs (l.drop (n + 1)) else sayF a fs (l.drop (n + 1)) := by
  rw [List.drop_eq_getElem_cons (show n < l.length by omega), List.drop_eq_getElem_cons h, List.getD_eq_getElem?_getD, List.getElem?_eq_getElem (show n < l.length by omega), List.getD_eq_getElem?_getD, List.getElem?_eq_getElem h]; rfl
theorem sayF_last {a : Nat} {fs : List (List UInt8)} {l : List Rw} {n : Nat} (h : l.length ≤ n + 1) : sayF a fs (l.drop n) = [] := by
  by_cases h2 : n < l.length
  · rw [List.drop_eq_getElem_cons h2, List.drop_of_length_le (by omega)]; rfl
  · rw [List.drop_of_length_le (by omega)]; rfl
theorem At_ok {l : List Rw} {fs : List (List UInt8)} {a : Nat} {r : AV} (hl : l.length ≤ 30000) (iz : IsZ Rw.row 11 l r h) (hK : ∀ h' r', Keeps h h' → IsR Fa.row 9 (sayF a fs l) r' h' → K.K r' h') : ACall X 9 [r, .z (strs fs) fs.length, U a] h K := by
  have hbig : (30000000 : Nat) ≤ bigRoom := by decide
  have e9 : ∀ a b c d e f g h i : AV, List.take 9 (a :: b :: c :: d :: e :: f :: g :: h :: i :: []) = (a :: b :: c :: d :: e :: f :: g :: h :: i :: []) := fun _ _ _ _ _ _ _ _ _ => rfl
  have hlen : ∀ h K, a_len r h K = K.K (I l.length) h := fun hh K => iz.len hh K
  apply i9
  (simp +contextual -dsimp only [R9, evA, evB, ↓a_on_t, ↓a_on_f, ↓a_on_und, ↓a_cond_b, ↓reduceIte, Go.Ab.part, List.getD_cons_zero, List.getD_cons_succ, List.set_cons_zero, List.set_cons_succ, List.length_cons, List.length_nil, List.cons_append, List.nil_append, cond_true, cond_false, Bool.cond_true, reduceCtorEq, Option.map_some, Option.map_none, forall_const, ne_eq, implies_true, Nat.reduceAdd, Nat.reduceLeDiff, Nat.reduceLT, Nat.beq, Option.isNone_none, beq_self_eq_true, bne_self_eq_false, Int.reduceBEq, Int.reduceBNe, Int.reduceLT, Int.reduceLE, Int.reduceGT, Int.reduceGE, Int.reduceEq, Int.reduceNe, Int.reduceToNat, List.take_zero, List.drop_zero, List.all_cons, List.all_nil, List.append_nil, List.length_append, List.length_set, List.append_assoc, List.drop_nil, List.take_nil, hlen] <;> try simp -dsimp only [if_conj])
  have W1 := weak_nils (X := X) (n := h.length) (h := h) (sz := 9) (tm := (r :: .z (strs fs) fs.length :: U a :: .bad :: .bad :: .bad :: .bad :: .v (.slice none 0 0) :: .bad :: .bad :: r :: I l.length :: I 0 :: .bad :: .bad :: .bad :: .bad :: .bad :: .bad :: .bad :: .bad :: .bad :: .bad :: .bad :: .bad :: .bad :: .bad :: .bad :: .bad :: .bad :: .bad :: .bad :: .bad :: .bad :: .bad :: .bad :: .bad :: .bad :: .bad :: .bad :: .bad :: .bad :: .bad :: .bad :: .bad :: .bad :: .bad :: .bad :: .bad :: .bad :: .bad :: [])) (tm' := (r :: .z (strs fs) fs.length :: U a :: .bad :: .bad :: .bad :: .bad :: .s h.length 0 0 :: .bad :: .bad :: r :: I l.length :: I 0 :: .bad :: .bad :: .bad :: .bad :: .bad :: .bad :: .bad :: .bad :: .bad :: .bad :: .bad :: .bad :: .bad :: .bad :: .bad :: .bad :: .bad :: .bad :: .bad :: .bad :: .bad :: .bad :: .bad :: .bad :: .bad :: .bad :: .bad :: .bad :: .bad :: .bad :: .bad :: .bad :: .bad :: .bad :: .bad :: .bad :: .bad :: .bad :: [])) (Nat.le_refl _) (by simp [NilOk])
  refine aloop (fun m st => ∃ n h1 ido out, m + n = l.length ∧ Keeps h h1 ∧ h.length ≤ ido ∧ h1.getD ido .dead = .o 9 (fas out) ∧ sayF a fs l = out ++ sayF a fs (l.drop n) ∧ out.length ≤ n ∧
      st = ((r :: .z (strs fs) fs.length :: U a :: sl st.1 3 :: sl st.1 4 :: sl st.1 5 :: sl st.1 6 :: .s ido 0 out.length :: sl st.1 8 :: sl st.1 9 :: r :: I l.length :: I n :: sl st.1 13 :: sl st.1 14 :: sl st.1 15 :: sl st.1 16 :: sl st.1 17 :: sl st.1 18 :: sl st.1 19 :: sl st.1 20 :: sl st.1 21 :: sl st.1 22 :: sl st.1 23 :: sl st.1 24 :: sl st.1 25 :: sl st.1 26 :: sl st.1 27 :: sl st.1 28 :: sl st.1 29 :: sl st.1 30 :: sl st.1 31 :: sl st.1 32 :: sl st.1 33 :: sl st.1 34 :: sl st.1 35 :: sl st.1 36 :: sl st.1 37 :: sl st.1 38 :: sl st.1 39 :: sl st.1 40 :: sl st.1 41 :: sl st.1 42 :: sl st.1 43 :: sl st.1 44 :: sl st.1 45 :: sl st.1 46 :: sl st.1 47 :: sl st.1 48 :: sl st.1 49 :: sl st.1 50 :: []), h1)) l.length
    ((r :: .z (strs fs) fs.length :: U a :: .bad :: .bad :: .bad :: .bad :: .s h.length 0 0 :: .bad :: .bad :: r :: I l.length :: I 0 :: .bad :: .bad :: .bad :: .bad :: .bad :: .bad :: .bad :: .bad :: .bad :: .bad :: .bad :: .bad :: .bad :: .bad :: .bad :: .bad :: .bad :: .bad :: .bad :: .bad :: .bad :: .bad :: .bad :: .bad :: .bad :: .bad :: .bad :: .bad :: .bad :: .bad :: .bad :: .bad :: .bad :: .bad :: .bad :: .bad :: .bad :: .bad :: []), h ++ [.o 9 []]) (Nat.le_refl _) (Weak.trans (weak_slots (Nat.le_refl _) (by simp [SeeL, See])) W1 (Nat.le_refl _))
    ⟨0, _, h.length, [], by omega, Keeps.adds Adds.mk, Nat.le_refl _, hget_new, rfl, by simp, rfl⟩ ?_
  rintro m st ⟨n, h1, ido, out, hm, k1, ho, go, hs, hol, hst⟩
  rw [hst]
  have lo := hlt go (by simp)
  have kl := k1.len
  have iz1 := iz.keeps k1
  by_cases hz : n < l.length
  · have hz' : decide ((n : Int) < l.length) = true := by simp; omega
    have hn1 : IntKind.i64.wrap ((n : Int) + 1) = ((n + 1 : Nat) : Int) := by rw [wrap_i64 (by omega) (by omega)]; rfl
    have g1 : ∀ o L, (h1 ++ o :: L).getD h1.length .dead = o := fun o L => hget_new
    have s1 : ∀ o o', (h1 ++ [o]).set h1.length o' = h1 ++ [o'] := fun o o' => by simp
    obtain ⟨p, q1, q2, q3, q4⟩ := iz1.row Rw.row_len (by decide) hz
    have q3' : ∀ K, a_load 11 true (p 0) h1 K = K.K (.g (l.getD n default).row) h1 := fun K => by have := q3 [] K; rwa [List.append_nil] at this
    have keep : ∀ R : List AV, Keeps h (h1 ++ [AO.o 1 R]) := fun R => k1.trans (Keeps.adds Adds.mk)
    have go2 : ∀ R : List AV, (h1 ++ [AO.o 1 R]).getD ido .dead = .o 9 (fas out) := fun R => hget_app go (by simp)
    by_cases hlast : n + 1 < l.length
    · have hl' : decide (((n + 1 : Nat) : Int) < l.length) = true := by simp; omega
      rw [sayF_drop hlast] at hs
      obtain ⟨p2, r1, r2, r3, r4⟩ := iz1.row Rw.row_len (by decide) hlast
      have r40 : ∀ R : List AV, ∀ K, a_load 1 false (p2 0) (h1 ++ [AO.o 1 R]) K = K.K (U (l.getD (n + 1) default).addr) (h1 ++ [AO.o 1 R]) := fun R K => r4 0 [AO.o 1 R] K (by decide)
      have r2' := r2 0
      generalize l.getD n default = x at *
      generalize l.getD (n + 1) default = y at *
      cases he : x.en with
      | true =>
        rw [if_neg (fun h => by have := h.1; rw [he] at this; cases this)] at hs
        (simp +contextual -dsimp only [R9, evA, evB, ↓a_on_t, ↓a_on_f, ↓a_on_und, ↓a_cond_b, ↓reduceIte, Go.Ab.part, List.getD_cons_zero, List.getD_cons_succ, List.set_cons_zero, List.set_cons_succ, List.length_cons, List.length_nil, List.cons_append, List.nil_append, cond_true, cond_false, Bool.cond_true, reduceCtorEq, Option.map_some, Option.map_none, forall_const, ne_eq, implies_true, Nat.reduceAdd, Nat.reduceLeDiff, Nat.reduceLT, Nat.beq, Option.isNone_none, beq_self_eq_true, bne_self_eq_false, Int.reduceBEq, Int.reduceBNe, Int.reduceLT, Int.reduceLE, Int.reduceGT, Int.reduceGE, Int.reduceEq, Int.reduceNe, Int.reduceToNat, List.take_zero, List.drop_zero, List.all_cons, List.all_nil, List.append_nil, List.length_append, List.length_set, List.append_assoc, List.drop_nil, List.take_nil, hz', q1, q3', Rw.row, fill, setAt, g1, s1, he, hn1] <;> try simp -dsimp only [if_conj])
        exact ⟨m - 1, _, by omega, Weak.refl _ (by simp; omega), n + 1, _, ido, out, by omega, keep _, ho, go2 _, hs, by omega, rfl⟩
      | false =>
        by_cases h2 : x.addr ≤ a
        · have d2 : decide ((x.addr : Int) ≤ a) = true := by simp; omega
          by_cases h3 : a < y.addr
          · have d3 : decide ((a : Int) < y.addr) = true := by simp; omega
            rw [if_pos ⟨he, h2, h3⟩] at hs
            have ex : (AV.g (U x.addr :: I x.file :: I x.line :: I x.col :: Bo x.st :: Bo x.bl :: Bo x.pr :: Bo x.ep :: Bo false :: U x.isa :: U x.disc :: [])) = .g x.row := by rw [Rw.row, he]
            have e11 : ∀ a b c d e f g h i j k : AV, List.take 11 (a :: b :: c :: d :: e :: f :: g :: h :: i :: j :: k :: []) = (a :: b :: c :: d :: e :: f :: g :: h :: i :: j :: k :: []) := fun _ _ _ _ _ _ _ _ _ _ _ => rfl
            (simp +contextual -dsimp only [R9, evA, evB, ↓a_on_t, ↓a_on_f, ↓a_on_und, ↓a_cond_b, ↓reduceIte, Go.Ab.part, List.getD_cons_zero, List.getD_cons_succ, List.set_cons_zero, List.set_cons_succ, List.length_cons, List.length_nil, List.cons_append, List.nil_append, cond_true, cond_false, Bool.cond_true, reduceCtorEq, Option.map_some, Option.map_none, forall_const, ne_eq, implies_true, Nat.reduceAdd, Nat.reduceLeDiff, Nat.reduceLT, Nat.beq, Option.isNone_none, beq_self_eq_true, bne_self_eq_false, Int.reduceBEq, Int.reduceBNe, Int.reduceLT, Int.reduceLE, Int.reduceGT, Int.reduceGE, Int.reduceEq, Int.reduceNe, Int.reduceToNat, List.take_zero, List.drop_zero, List.all_cons, List.all_nil, List.append_nil, List.length_append, List.length_set, List.append_assoc, List.drop_nil, List.take_nil, hz', q1, q3', Rw.row, fill, setAt, g1, s1, he, hn1, hl', d2, d3, hlen, r1, r2', r40, e11] <;> try simp -dsimp only [if_conj])
            rw [ex]
            refine fact_ok fun h3 k3 => ?_
            have go3 := k3.at (go2 _) (by simp)
            have lo3 := hlt go3 (by simp)
            have kl3 := k3.len
            have hno : ¬ h3.length = ido := by omega
            have eA : (fas out).take (out.length * 9) = fas out := List.take_of_length_le (by rw [fas_len]; exact Nat.le_refl _)
            have eS : fas out ++ (factOf x fs).row = fas (out ++ [factOf x fs]) := (rows_snoc _ _).symm
            have hfl := fas_len out
            have go4 : ∀ a, (h3 ++ [a]).getD ido .dead = .o 9 (fas out) := fun a => hget_app go3 (by simp)
            have kk := (keep (U x.addr :: I x.file :: I x.line :: I x.col :: Bo x.st :: Bo x.bl :: Bo x.pr :: Bo x.ep :: Bo false :: U x.isa :: U x.disc :: [])).trans k3
            generalize factOf x fs = F at *
            rw [Fa.row] at eS
            (simp +contextual -dsimp only [R9, evA, evB, ↓a_on_t, ↓a_on_f, ↓a_on_und, ↓a_cond_b, ↓reduceIte, Go.Ab.part, List.getD_cons_zero, List.getD_cons_succ, List.set_cons_zero, List.set_cons_succ, List.length_cons, List.length_nil, List.cons_append, List.nil_append, cond_true, cond_false, Bool.cond_true, reduceCtorEq, Option.map_some, Option.map_none, forall_const, ne_eq, implies_true, Nat.reduceAdd, Nat.reduceLeDiff, Nat.reduceLT, Nat.beq, Option.isNone_none, beq_self_eq_true, bne_self_eq_false, Int.reduceBEq, Int.reduceBNe, Int.reduceLT, Int.reduceLE, Int.reduceGT, Int.reduceGE, Int.reduceEq, Int.reduceNe, Int.reduceToNat, List.take_zero, List.drop_zero, List.all_cons, List.all_nil, List.append_nil, List.length_append, List.length_set, List.append_assoc, List.drop_nil, List.take_nil, Fa.row, fill, setAt, hget_new, go4, e9, eA, eS, hn1] <;> try simp -dsimp only [if_conj])
            have kp := (kk.trans (Keeps.adds (Adds.mk (h := h3) (l := [AO.o 9 (AV.v (.string (mkStr F.file)) :: I F.line :: I F.col :: Bo F.st :: Bo F.bl :: Bo F.pr :: Bo F.ep :: U F.isa :: U F.disc :: [])])))).push (id := ido) (p := AO.o 9 (fas (out ++ [F]))) ho
            exact ⟨⟨by omega, by omega, by omega⟩, m - 1, _, by omega, Weak.refl _ kp.len, n + 1, _, h3.length + 1, out ++ [F], by omega, kp, by omega, ap_get, by rw [hs]; simp, by simp; omega, by rw [List.length_append]; rfl⟩
          · have d3 : decide ((a : Int) < y.addr) = false := by simp; omega
            rw [if_neg (fun h => h3 h.2.2)] at hs
            (simp +contextual -dsimp only [R9, evA, evB, ↓a_on_t, ↓a_on_f, ↓a_on_und, ↓a_cond_b, ↓reduceIte, Go.Ab.part, List.getD_cons_zero, List.getD_cons_succ, List.set_cons_zero, List.set_cons_succ, List.length_cons, List.length_nil, List.cons_append, List.nil_append, cond_true, cond_false, Bool.cond_true, reduceCtorEq, Option.map_some, Option.map_none, forall_const, ne_eq, implies_true, Nat.reduceAdd, Nat.reduceLeDiff, Nat.reduceLT, Nat.beq, Option.isNone_none, beq_self_eq_true, bne_self_eq_false, Int.reduceBEq, Int.reduceBNe, Int.reduceLT, Int.reduceLE, Int.reduceGT, Int.reduceGE, Int.reduceEq, Int.reduceNe, Int.reduceToNat, List.take_zero, List.drop_zero, List.all_cons, List.all_nil, List.append_nil, List.length_append, List.length_set, List.append_assoc, List.drop_nil, List.take_nil, hz', q1, q3', Rw.row, fill, setAt, g1, s1, he, hn1, hl', d2, d3, hlen, r1, r2', r40] <;> try simp -dsimp only [if_conj])
            exact ⟨m - 1, _, by omega, Weak.refl _ (by simp; omega), n + 1, _, ido, out, by omega, keep _, ho, go2 _, hs, by omega, rfl⟩
        · have d2 : decide ((x.addr : Int) ≤ a) = false := by simp; omega
          rw [if_neg (fun h => h2 h.2.1)] at hs
          (simp +contextual -dsimp only [R9, evA, evB, ↓a_on_t, ↓a_on_f, ↓a_on_und, ↓a_cond_b, ↓reduceIte, Go.Ab.part, List.getD_cons_zero, List.getD_cons_succ, List.set_cons_zero, List.set_cons_succ, List.length_cons, List.length_nil, List.cons_append, List.nil_append, cond_true, cond_false, Bool.cond_true, reduceCtorEq, Option.map_some, Option.map_none, forall_const, ne_eq, implies_true, Nat.reduceAdd, Nat.reduceLeDiff, Nat.reduceLT, Nat.beq, Option.isNone_none, beq_self_eq_true, bne_self_eq_false, Int.reduceBEq, Int.reduceBNe, Int.reduceLT, Int.reduceLE, Int.reduceGT, Int.reduceGE, Int.reduceEq, Int.reduceNe, Int.reduceToNat, List.take_zero, List.drop_zero, List.all_cons, List.all_nil, List.append_nil, List.length_append, List.length_set, List.append_assoc, List.drop_nil, List.take_nil, hz', q1, q3', Rw.row, fill, setAt, g1, s1, he, hn1, hl', d2, hlen] <;> try simp -dsimp only [if_conj])
          exact ⟨m - 1, _, by omega, Weak.refl _ (by simp; omega), n + 1, _, ido, out, by omega, keep _, ho, go2 _, hs, by omega, rfl⟩
    · have hl' : decide (((n + 1 : Nat) : Int) < l.length) = false := by simp; omega
      rw [sayF_last (by omega)] at hs
      generalize l.getD n default = x at *
      have hs2 : sayF a fs l = out ++ sayF a fs (l.drop (n + 1)) := by rw [sayF_last (by omega)]; exact hs
      cases he : x.en <;>
      · (simp +contextual -dsimp only [R9, evA, evB, ↓a_on_t, ↓a_on_f, ↓a_on_und, ↓a_cond_b, ↓reduceIte, Go.Ab.part, List.getD_cons_zero, List.getD_cons_succ, List.set_cons_zero, List.set_cons_succ, List.length_cons, List.length_nil, List.cons_append, List.nil_append, cond_true, cond_false, Bool.cond_true, reduceCtorEq, Option.map_some, Option.map_none, forall_const, ne_eq, implies_true, Nat.reduceAdd, Nat.reduceLeDiff, Nat.reduceLT, Nat.beq, Option.isNone_none, beq_self_eq_true, bne_self_eq_false, Int.reduceBEq, Int.reduceBNe, Int.reduceLT, Int.reduceLE, Int.reduceGT, Int.reduceGE, Int.reduceEq, Int.reduceNe, Int.reduceToNat, List.take_zero, List.drop_zero, List.all_cons, List.all_nil, List.append_nil, List.length_append, List.length_set, List.append_assoc, List.drop_nil, List.take_nil, hz', q1, q3', Rw.row, fill, setAt, g1, s1, he, hn1, hl', hlen] <;> try simp -dsimp only [if_conj])
        exact ⟨m - 1, _, by omega, Weak.refl _ (by simp; omega), n + 1, _, ido, out, by omega, keep _, ho, go2 _, hs2, by omega, rfl⟩
  · have hz' : decide ((n : Int) < l.length) = false := by simp; omega
    rw [sayF_last (by omega), List.append_nil] at hs
    (simp +contextual -dsimp only [R9, evA, evB, ↓a_on_t, ↓a_on_f, ↓a_on_und, ↓a_cond_b, ↓reduceIte, Go.Ab.part, List.getD_cons_zero, List.getD_cons_succ, List.set_cons_zero, List.set_cons_succ, List.length_cons, List.length_nil, List.cons_append, List.nil_append, cond_true, cond_false, Bool.cond_true, reduceCtorEq, Option.map_some, Option.map_none, forall_const, ne_eq, implies_true, Nat.reduceAdd, Nat.reduceLeDiff, Nat.reduceLT, Nat.beq, Option.isNone_none, beq_self_eq_true, bne_self_eq_false, Int.reduceBEq, Int.reduceBNe, Int.reduceLT, Int.reduceLE, Int.reduceGT, Int.reduceGE, Int.reduceEq, Int.reduceNe, Int.reduceToNat, List.take_zero, List.drop_zero, List.all_cons, List.all_nil, List.append_nil, List.length_append, List.length_set, List.append_assoc, List.drop_nil, List.take_nil, hz'] <;> try simp -dsimp only [if_conj])
    exact hK _ _ k1 (.inr ⟨ido, by rw [hs], by rw [go, hs]⟩)
/-- only a sequence's last row is an end -/
theorem sayF_end {a : Nat} {fs : List (List UInt8)} : ∀ (A : List Rw) (x : Rw) (l : List Rw), x.en = true → sayF a fs (A ++ x :: l) = sayF a fs (A ++ [x]) ++ sayF a fs l
  | [], x, [], he => by simp [sayF]
  | [], x, y :: l, he => by
    show (if sayC a x y then _ else sayF a fs (y :: l)) = sayF a fs [x] ++ sayF a fs (y :: l)
    rw [if_neg (fun h => by have := h.1; rw [he] at this; cases this)]; rfl
  | [b], x, l, he => by
    show (if sayC a b x then factOf b fs :: sayF a fs ([] ++ x :: l) else sayF a fs ([] ++ x :: l)) = (if sayC a b x then factOf b fs :: sayF a fs ([] ++ [x]) else sayF a fs ([] ++ [x])) ++ sayF a fs l
    rw [sayF_end [] x l he]; split <;> simp
  | b :: c :: A, x, l, he => by
    show (if sayC a b c then factOf b fs :: sayF a fs (c :: A ++ x :: l) else sayF a fs (c :: A ++ x :: l)) = (if sayC a b c then factOf b fs :: sayF a fs (c :: A ++ [x]) else sayF a fs (c :: A ++ [x])) ++ sayF a fs l
    rw [sayF_end (c :: A) x l he]; split <;> simp
theorem sayF_seqs {a : Nat} {fs : List (List UInt8)} : ∀ (l acc : List Rw), sayF a fs (acc ++ l) = (seqGo acc l).flatMap (sayF a fs)
  | [], acc => by
    unfold seqGo; rw [List.append_nil]
    split
    · rename_i h; subst h; rfl
    · simp
  | x :: l, acc => by
    unfold seqGo
    split
    · rename_i h
      rw [sayF_end acc x l h, List.flatMap_cons, ← sayF_seqs l []]; rfl
    · rw [← sayF_seqs l (acc ++ [x])]; simp
/-- in a sequence no row but the last is an end -/
theorem seqGo_in : ∀ (l acc : List Rw), (∀ y ∈ acc, y.en = false) → ∀ s ∈ seqGo acc l, ∀ n, n + 1 < s.length → (s.getD n default).en = false
  | [], acc, ha, s, hs, n, hn => by
    unfold seqGo at hs; split at hs
    · simp at hs
    · simp at hs; subst hs
      exact ha _ (by rw [List.getD_eq_getElem?_getD, List.getElem?_eq_getElem (by omega)]; exact List.getElem_mem _)
  | x :: l, acc, ha, s, hs, n, hn => by
    unfold seqGo at hs; split at hs
    · rcases List.mem_cons.1 hs with rfl | hs
      · simp only [List.length_append, List.length_singleton] at hn
        rw [List.getD_eq_getElem?_getD, List.getElem?_append_left (by omega), List.getElem?_eq_getElem (by omega)]
        exact ha _ (List.getElem_mem _)
      · exact seqGo_in l [] (by simp) s hs n hn
    · rename_i hx
      refine seqGo_in l (acc ++ [x]) (fun y hy => ?_) s hs n hn
      rcases List.mem_append.1 hy with h | h
      · exact ha y h
      · simp only [List.mem_singleton] at h; subst h; simpa using hx
end Go.Proofs.Ytaejegndbaahnaa
