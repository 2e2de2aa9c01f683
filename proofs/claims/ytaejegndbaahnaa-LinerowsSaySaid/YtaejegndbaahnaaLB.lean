import Derived.Test.YtaejegndbaahnaaLA
set_option linter.unusedVariables false
set_option linter.unusedSimpArgs false
set_option maxRecDepth 100000
set_option maxHeartbeats 1000000
namespace Go.Proofs.Ytaejegndbaahnaa
open Go.Ab
variable {h : Heap} {K : Kt}
/-- a sequence, in memory -/
def sRow (s : List Rw) : List AV := [.z (rws s) s.length]
theorem sRow_len (s : List Rw) : (sRow s).length = 1 := rfl
abbrev sqs (l : List (List Rw)) : List AV := rows sRow l
theorem sqs_len (l : List (List Rw)) : (sqs l).length = l.length := by have := rows_len sRow_len l; simpa using this
theorem flats_rw (x : Rw) : flats x.row = true := rfl
theorem flats_rws (l : List Rw) : flats (rws l) = true := flats_rows flats_rw l
theorem flats_sqs (l : List (List Rw)) : flats (sqs l) = true := flats_rows (fun s => by simp [sRow, flats, AV.flat, flats_rws]) l
/-- rows, cut behind each end -/
def seqGo : List Rw → List Rw → List (List Rw)
  | acc, [] => if acc = [] then [] else [acc]
  | acc, x :: l => if x.en = true then (acc ++ [x]) :: seqGo [] l else seqGo (acc ++ [x]) l
abbrev seqs (l : List Rw) : List (List Rw) := seqGo [] l
theorem seqGo_drop {acc l : List Rw} {n : Nat} (h : n < l.length) : seqGo acc (l.drop n) = if (l.getD n default).en = true then (acc ++ [l.getD n default]) :: seqGo [] (l.drop (n + 1)) else seqGo (acc ++ [l.getD n default]) (l.drop (n + 1)) := by
  rw [List.drop_eq_getElem_cons h, List.getD_eq_getElem?_getD, List.getElem?_eq_getElem h]; rfl
theorem seqGo_len : ∀ (l acc : List Rw), (seqGo acc l).length ≤ l.length + 1
  | [], acc => by unfold seqGo; split <;> simp
  | x :: l, acc => by
    unfold seqGo; split
    · have := seqGo_len l []; simp; omega
    · have := seqGo_len l (acc ++ [x]); simp; omega
theorem seqGo_sum : ∀ (l acc : List Rw), ∀ s ∈ seqGo acc l, s.length ≤ acc.length + l.length ∧ s ≠ []
  | [], acc, s, hs => by
    unfold seqGo at hs; split at hs
    · simp at hs
    · rename_i h; simp at hs; subst hs; exact ⟨by simp, h⟩
  | x :: l, acc, s, hs => by
    unfold seqGo at hs; split at hs
    · rcases List.mem_cons.1 hs with rfl | hs
      · simp
      · have := seqGo_sum l [] s hs; simp at this ⊢; exact ⟨by omega, this.2⟩
    · have := seqGo_sum l (acc ++ [x]) s hs; simp at this ⊢; exact ⟨by omega, this.2⟩
/-- a sequence goes behind the others, and is data from now on -/
theorem seq_in {l0 : Heap} {H2 : Heap} {ido i : Nat} {out : List (List Rw)} {s : List Rw} {tm : List AV} (go : H2.getD ido .dead = .o 1 (sqs out)) (gi : H2.getD i .dead = .o 11 (rws s)) (hne : i ≠ ido) (k : Keeps l0 H2) (ho : l0.length ≤ ido) (hi : l0.length ≤ i)
    (ht : ∀ g : Nat → Option (Nat × List AV), (∀ j, j ≠ i → g j = none) → frzs g tm = tm) :
    ∃ h', Weak X l0.length (tm, (H2 ++ [AO.o 1 [.s i 0 s.length]]).set ido .dead ++ [AO.o 1 (sqs out ++ [.s i 0 s.length])]) (tm, h') ∧ h'.getD (H2.length + 1) .dead = .o 1 (sqs (out ++ [s])) ∧ h'.length = H2.length + 2 ∧ Keeps l0 h' := by
  have kl := k.len
  have lo := hlt go (by simp)
  have li := hlt gi (by simp)
  have kk : Keeps l0 ((H2 ++ [AO.o 1 [.s i 0 s.length]]).set ido .dead ++ [AO.o 1 (sqs out ++ [.s i 0 s.length])]) := (k.trans (Keeps.adds Adds.mk)).push ho
  have hs : ∀ j, j ≠ i → otherS (.s i 0 s.length) j := fun j hj i' o l e => by cases e; exact Ne.symm hj
  obtain ⟨h7, W, g7, l7, o7⟩ := weak_item (X := X) (n := l0.length) (tm := tm) (sz := 11) (len := s.length) (cs := rws s) (x := .s i 0 s.length) (k := 1) (pre := sqs out) (ido := H2.length + 1) (h := (H2 ++ [AO.o 1 [.s i 0 s.length]]).set ido .dead ++ [AO.o 1 (sqs out ++ [.s i 0 s.length])])
    ap_get (.inr ⟨i, rfl, ap_keep gi (by simp) (Ne.symm hne), rws_len s⟩) (hs _ (by omega)) (flats_sqs out) (by simp; omega) (fun g hg => ht g fun j hj => hg j (hs j hj))
  refine ⟨h7, W, ?_, by rw [l7]; simp, by rw [l7]; exact kk.len, fun {j} hj => ?_⟩
  · rw [g7, show sqs (out ++ [s]) = sqs out ++ sRow s from rows_snoc _ _]; rfl
  · rw [o7 j (by omega) (hs j (by omega))]; exact kk.get hj
theorem rSeqs_ok {l : List Rw} (hl : l.length ≤ 30000) (hK : ∀ h' r', Keeps h h' → IsR sRow 1 (seqs l) r' h' → K.K r' h') : ACall X 28 [.z (rws l) l.length] h K := by
  have hbig : (30000000 : Nat) ≤ bigRoom := by decide
  have hll := rws_len l
  have e11 : ∀ x : Rw, List.take 11 x.row = x.row := fun _ => rfl
  have eZ : ∀ x : Rw, setAt (AV.v (.int .u64 0) :: .v (.int .i64 0) :: .v (.int .i64 0) :: .v (.int .i64 0) :: .v (.bool false) :: .v (.bool false) :: .v (.bool false) :: .v (.bool false) :: .v (.bool false) :: .v (.int .u64 0) :: .v (.int .u64 0) :: []) 0 x.row = x.row := fun _ => rfl
  have rall : ∀ x : Rw, x.row.all AV.one = true := fun _ => rfl
  refine acall_weak_post ?_
  apply i28
  (simp +contextual -dsimp only [R28, evA, evB, ↓a_on_t, ↓a_on_f, ↓a_on_und, ↓a_cond_b, ↓reduceIte, Go.Ab.part, List.getD_cons_zero, List.getD_cons_succ, List.set_cons_zero, List.set_cons_succ, List.length_cons, List.length_nil, List.cons_append, List.nil_append, cond_true, cond_false, Bool.cond_true, reduceCtorEq, Option.map_some, Option.map_none, forall_const, ne_eq, implies_true, Nat.reduceAdd, Nat.reduceLeDiff, Nat.reduceLT, Nat.beq, Option.isNone_none, beq_self_eq_true, bne_self_eq_false, Int.reduceBEq, Int.reduceBNe, Int.reduceLT, Int.reduceLE, Int.reduceGT, Int.reduceGE, Int.reduceEq, Int.reduceNe, Int.reduceToNat, List.take_zero, List.drop_zero, List.all_cons, List.all_nil, List.append_nil, List.length_append, List.length_set, List.append_assoc, List.drop_nil, List.take_nil] <;> try simp -dsimp only [if_conj])
  have W1 := weak_nils (X := X) (n := h.length) (h := h) (sz := 1) (tm := (.z (rws l) l.length :: .bad :: .bad :: .v (.slice none 0 0) :: .v (.slice none 0 0) :: I 0 :: .bad :: .bad :: .bad :: .bad :: .bad :: .bad :: .bad :: .bad :: .bad :: .bad :: .bad :: .bad :: .bad :: .bad :: .bad :: .bad :: .bad :: .bad :: .bad :: .bad :: .bad :: .bad :: .bad :: .bad :: .bad :: .bad :: .bad :: .bad :: .bad :: .bad :: [])) (tm' := (.z (rws l) l.length :: .bad :: .bad :: .s h.length 0 0 :: .v (.slice none 0 0) :: I 0 :: .bad :: .bad :: .bad :: .bad :: .bad :: .bad :: .bad :: .bad :: .bad :: .bad :: .bad :: .bad :: .bad :: .bad :: .bad :: .bad :: .bad :: .bad :: .bad :: .bad :: .bad :: .bad :: .bad :: .bad :: .bad :: .bad :: .bad :: .bad :: .bad :: .bad :: [])) (Nat.le_refl _) (by simp [NilOk])
  have W2 := weak_nils (X := X) (n := h.length) (h := h ++ [.o 1 []]) (sz := 11) (tm := (.z (rws l) l.length :: .bad :: .bad :: .s h.length 0 0 :: .v (.slice none 0 0) :: I 0 :: .bad :: .bad :: .bad :: .bad :: .bad :: .bad :: .bad :: .bad :: .bad :: .bad :: .bad :: .bad :: .bad :: .bad :: .bad :: .bad :: .bad :: .bad :: .bad :: .bad :: .bad :: .bad :: .bad :: .bad :: .bad :: .bad :: .bad :: .bad :: .bad :: .bad :: [])) (tm' := (.z (rws l) l.length :: .bad :: .bad :: .s h.length 0 0 :: .s (h.length + 1) 0 0 :: I 0 :: .bad :: .bad :: .bad :: .bad :: .bad :: .bad :: .bad :: .bad :: .bad :: .bad :: .bad :: .bad :: .bad :: .bad :: .bad :: .bad :: .bad :: .bad :: .bad :: .bad :: .bad :: .bad :: .bad :: .bad :: .bad :: .bad :: .bad :: .bad :: .bad :: .bad :: [])) (by simp) (by simp [NilOk])
  refine aloop (fun m st => ∃ n h1 ido idn out acc, m + n = l.length ∧ Keeps h h1 ∧ h.length ≤ ido ∧ h.length ≤ idn ∧ ido ≠ idn ∧ h1.getD ido .dead = .o 1 (sqs out) ∧ h1.getD idn .dead = .o 11 (rws acc) ∧ seqs l = out ++ seqGo acc (l.drop n) ∧ out.length ≤ n ∧ acc.length ≤ n ∧
      st = ((.z (rws l) l.length :: sl st.1 1 :: sl st.1 2 :: .s ido 0 out.length :: .s idn 0 acc.length :: I n :: sl st.1 6 :: sl st.1 7 :: sl st.1 8 :: sl st.1 9 :: sl st.1 10 :: sl st.1 11 :: sl st.1 12 :: sl st.1 13 :: sl st.1 14 :: sl st.1 15 :: sl st.1 16 :: sl st.1 17 :: sl st.1 18 :: sl st.1 19 :: sl st.1 20 :: sl st.1 21 :: sl st.1 22 :: sl st.1 23 :: sl st.1 24 :: sl st.1 25 :: sl st.1 26 :: sl st.1 27 :: sl st.1 28 :: sl st.1 29 :: sl st.1 30 :: sl st.1 31 :: sl st.1 32 :: sl st.1 33 :: sl st.1 34 :: sl st.1 35 :: []), h1)) l.length
    ((.z (rws l) l.length :: .bad :: .bad :: .s h.length 0 0 :: .s (h.length + 1) 0 0 :: I 0 :: .bad :: .bad :: .bad :: .bad :: .bad :: .bad :: .bad :: .bad :: .bad :: .bad :: .bad :: .bad :: .bad :: .bad :: .bad :: .bad :: .bad :: .bad :: .bad :: .bad :: .bad :: .bad :: .bad :: .bad :: .bad :: .bad :: .bad :: .bad :: .bad :: .bad :: []), (h ++ [.o 1 []]) ++ [.o 11 []]) (Nat.le_refl _) (Weak.trans (Weak.trans (weak_slots (Nat.le_refl _) (by simp [SeeL, See])) W1 (Nat.le_refl _)) W2 (Nat.le_refl _))
    ⟨0, _, h.length, h.length + 1, [], [], by omega, Keeps.adds (Adds.mk.trans Adds.mk), Nat.le_refl _, by omega, by omega, hget_app hget_new (by simp), by rw [show h.length + 1 = (h ++ [AO.o 1 []]).length by simp]; exact hget_new, rfl, by simp, by simp, rfl⟩ ?_
  rintro m st ⟨n, h1, ido, idn, out, acc, hm, k1, ho, hn, hne, go, gn, hs, hol, hal, hst⟩
  rw [hst]
  have lo := hlt go (by simp)
  have ln := hlt gn (by simp)
  have kl := k1.len
  by_cases hz : n < l.length
  · have hz' : decide ((n : Int) < l.length) = true := by simp; omega
    have hn1 : IntKind.i64.wrap ((n : Int) + 1) = ((n + 1 : Nat) : Int) := by rw [wrap_i64 (by omega) (by omega)]; rfl
    have tr := rw_row hz
    have c8 : (rws l).getD (n * 11 + 8) .bad = Bo (l.getD n default).en := rw_at hz (by decide)
    rw [seqGo_drop hz] at hs
    generalize l.getD n default = x at *
    have hacc := rws_len acc
    have eA : (rws acc).take (acc.length * 11) = rws acc := List.take_of_length_le (by omega)
    have eS : rws acc ++ x.row = rws (acc ++ [x]) := (rows_snoc _ _).symm
    have gn2 : ∀ o, (h1 ++ [o]).getD idn .dead = .o 11 (rws acc) := fun o => hget_app gn (by simp)
    have go3 : ∀ a p, ((h1 ++ [a]).set idn .dead ++ [p]).getD ido .dead = .o 1 (sqs out) := fun a p => ap_keep go (by simp) (Ne.symm hne)
    have gn3 : ∀ a p, ((h1 ++ [a]).set idn .dead ++ [p]).getD (h1.length + 1) .dead = p := fun a p => ap_get
    have k3 : ∀ a p, Keeps h ((h1 ++ [a]).set idn .dead ++ [p]) := fun a p => (k1.trans (Keeps.adds Adds.mk)).push hn
    have hrl : x.row.length = 11 := rfl
    have hno : ¬ h1.length = idn := by omega
    cases hen : x.en with
    | false =>
      rw [hen] at c8 hs
      rw [if_neg (by decide)] at hs
      (simp +contextual -dsimp only [R28, evA, evB, ↓a_on_t, ↓a_on_f, ↓a_on_und, ↓a_cond_b, ↓reduceIte, Go.Ab.part, List.getD_cons_zero, List.getD_cons_succ, List.set_cons_zero, List.set_cons_succ, List.length_cons, List.length_nil, List.cons_append, List.nil_append, cond_true, cond_false, Bool.cond_true, reduceCtorEq, Option.map_some, Option.map_none, forall_const, ne_eq, implies_true, Nat.reduceAdd, Nat.reduceLeDiff, Nat.reduceLT, Nat.beq, Option.isNone_none, beq_self_eq_true, bne_self_eq_false, Int.reduceBEq, Int.reduceBNe, Int.reduceLT, Int.reduceLE, Int.reduceGT, Int.reduceGE, Int.reduceEq, Int.reduceNe, Int.reduceToNat, List.take_zero, List.drop_zero, List.all_cons, List.all_nil, List.append_nil, List.length_append, List.length_set, List.append_assoc, List.drop_nil, List.take_nil, hz', tr, e11, eZ, rall, hget_new, fill, gn2, eA, eS, c8, hn1, hrl, hacc, hll] <;> try simp -dsimp only [if_conj])
      have kp := k3 (AO.o 11 x.row) (AO.o 11 (rws (acc ++ [x])))
      refine ⟨⟨by omega, by omega, by omega⟩, by omega, ⟨by omega, hno⟩, ⟨by omega, by omega, by omega⟩, by omega, m - 1, _, by omega, Weak.refl _ kp.len, n + 1, _, ido, h1.length + 1, out, acc ++ [x], by omega, kp, ho, by omega, by omega, go3 _ _, gn3 _ _, hs, by omega, by simp; omega, by rw [List.length_append]; rfl⟩
    | true =>
      rw [hen] at c8 hs
      rw [if_pos rfl] at hs
      (simp +contextual -dsimp only [R28, evA, evB, ↓a_on_t, ↓a_on_f, ↓a_on_und, ↓a_cond_b, ↓reduceIte, Go.Ab.part, List.getD_cons_zero, List.getD_cons_succ, List.set_cons_zero, List.set_cons_succ, List.length_cons, List.length_nil, List.cons_append, List.nil_append, cond_true, cond_false, Bool.cond_true, reduceCtorEq, Option.map_some, Option.map_none, forall_const, ne_eq, implies_true, Nat.reduceAdd, Nat.reduceLeDiff, Nat.reduceLT, Nat.beq, Option.isNone_none, beq_self_eq_true, bne_self_eq_false, Int.reduceBEq, Int.reduceBNe, Int.reduceLT, Int.reduceLE, Int.reduceGT, Int.reduceGE, Int.reduceEq, Int.reduceNe, Int.reduceToNat, List.take_zero, List.drop_zero, List.all_cons, List.all_nil, List.append_nil, List.length_append, List.length_set, List.append_assoc, List.drop_nil, List.take_nil, hz', tr, e11, eZ, rall, hget_new, fill, gn2, eA, eS, c8, hn1, hrl, hacc, hll, go3] <;> try simp -dsimp only [if_conj])
      refine ⟨⟨by omega, by omega, by omega⟩, by omega, ⟨by omega, hno⟩, ⟨by omega, by omega, by omega⟩, by omega, ?_⟩
      have kp := k3 (AO.o 11 x.row) (AO.o 11 (rws (acc ++ [x])))
      have go4 := go3 (AO.o 11 x.row) (AO.o 11 (rws (acc ++ [x])))
      have gn4 := gn3 (AO.o 11 x.row) (AO.o 11 (rws (acc ++ [x])))
      have hH : ((h1 ++ [AO.o 11 x.row]).set idn .dead ++ [AO.o 11 (rws (acc ++ [x]))]).length = h1.length + 1 + 1 := by simp
      rw [show ∀ a b, (h1 ++ [AO.o 11 x.row]).set idn .dead ++ [a, b] = ((h1 ++ [AO.o 11 x.row]).set idn .dead ++ [a]) ++ [b] by intro a b; simp]
      generalize (h1 ++ [AO.o 11 x.row]).set idn .dead ++ [AO.o 11 (rws (acc ++ [x]))] = H2 at *
      have la : acc.length + 1 = (acc ++ [x]).length := by simp
      rw [la, ← hH]
      generalize acc ++ [x] = s at *
      have go5 : ∀ o, (H2 ++ [o]).getD ido .dead = .o 1 (sqs out) := fun o => hget_app go4 (by simp)
      have et : ∀ x : AV, List.take 1 [x] = [x] := fun _ => rfl
      have eO : (sqs out).take out.length = sqs out := List.take_of_length_le (by rw [sqs_len]; exact Nat.le_refl _)
      have hol2 := sqs_len out
      (simp +contextual -dsimp only [R28, evA, evB, ↓a_on_t, ↓a_on_f, ↓a_on_und, ↓a_cond_b, ↓reduceIte, Go.Ab.part, List.getD_cons_zero, List.getD_cons_succ, List.set_cons_zero, List.set_cons_succ, List.length_cons, List.length_nil, List.cons_append, List.nil_append, cond_true, cond_false, Bool.cond_true, reduceCtorEq, Option.map_some, Option.map_none, forall_const, ne_eq, implies_true, Nat.reduceAdd, Nat.reduceLeDiff, Nat.reduceLT, Nat.beq, Option.isNone_none, beq_self_eq_true, bne_self_eq_false, Int.reduceBEq, Int.reduceBNe, Int.reduceLT, Int.reduceLE, Int.reduceGT, Int.reduceGE, Int.reduceEq, Int.reduceNe, Int.reduceToNat, List.take_zero, List.drop_zero, List.all_cons, List.all_nil, List.append_nil, List.length_append, List.length_set, List.append_assoc, List.drop_nil, List.take_nil, go5, hget_new, et, eO, hn1] <;> try simp -dsimp only [if_conj])
      have hi2 : h.length ≤ h1.length + 1 := by omega
      generalize hii : h1.length + 1 = i at *
      refine ⟨⟨by omega, by omega⟩, ?_⟩
      obtain ⟨h7, W, g7, l7, k7⟩ := seq_in (l0 := h) (tm := (.z (rws l) l.length :: .bad :: .bad :: .s (H2.length + 1) 0 (out.length + 1) :: .v (.slice none 0 0) :: I (n + 1 : Nat) :: .bad :: .bad :: .bad :: .bad :: .bad :: .bad :: .bad :: .bad :: .bad :: .bad :: .bad :: .bad :: .bad :: .bad :: .bad :: .bad :: .bad :: .bad :: .bad :: .bad :: .bad :: .bad :: .bad :: .bad :: .bad :: .bad :: .bad :: .bad :: .bad :: .bad :: [])) go4 gn4 (by omega) kp ho hi2
        (fun g hg => by simp [frzs, frz, frzS, frzs_flat (flats_rws l), hg (H2.length + 1) (by omega)])
      have W3 := weak_nils (X := X) (n := h.length) (h := h7) (sz := 11) (tm := (.z (rws l) l.length :: .bad :: .bad :: .s (H2.length + 1) 0 (out.length + 1) :: .v (.slice none 0 0) :: I (n + 1 : Nat) :: .bad :: .bad :: .bad :: .bad :: .bad :: .bad :: .bad :: .bad :: .bad :: .bad :: .bad :: .bad :: .bad :: .bad :: .bad :: .bad :: .bad :: .bad :: .bad :: .bad :: .bad :: .bad :: .bad :: .bad :: .bad :: .bad :: .bad :: .bad :: .bad :: .bad :: [])) (tm' := (.z (rws l) l.length :: .bad :: .bad :: .s (H2.length + 1) 0 (out.length + 1) :: .s h7.length 0 0 :: I (n + 1 : Nat) :: .bad :: .bad :: .bad :: .bad :: .bad :: .bad :: .bad :: .bad :: .bad :: .bad :: .bad :: .bad :: .bad :: .bad :: .bad :: .bad :: .bad :: .bad :: .bad :: .bad :: .bad :: .bad :: .bad :: .bad :: .bad :: .bad :: .bad :: .bad :: .bad :: .bad :: [])) k7.len (by simp [NilOk])
      exact ⟨m - 1, _, by omega, Weak.trans (Weak.trans (weak_slots (by simp; omega) (by simp [SeeL, See])) W (Nat.le_refl _)) W3 (Nat.le_refl _), n + 1, _, H2.length + 1, h7.length, out ++ [s], [], by omega, k7.trans (Keeps.adds Adds.mk), by omega, k7.len, by omega, hget_app g7 (by simp), hget_new, by rw [hs]; simp, by simp; omega, by simp, by rw [List.length_append]; rfl⟩
  · have hz' : decide ((n : Int) < l.length) = false := by simp; omega
    rw [List.drop_of_length_le (by omega)] at hs
    have eO : (sqs out).take out.length = sqs out := List.take_of_length_le (by rw [sqs_len]; exact Nat.le_refl _)
    have hol2 := sqs_len out
    have et : ∀ x : AV, List.take 1 [x] = [x] := fun _ => rfl
    have go2 : ∀ o, (h1 ++ [o]).getD ido .dead = .o 1 (sqs out) := fun o => hget_app go (by simp)
    by_cases ha : acc = []
    · subst ha
      have d0 : decide (((0 : Nat) : Int) > 0) = false := rfl
      (simp +contextual -dsimp only [R28, evA, evB, ↓a_on_t, ↓a_on_f, ↓a_on_und, ↓a_cond_b, ↓reduceIte, Go.Ab.part, List.getD_cons_zero, List.getD_cons_succ, List.set_cons_zero, List.set_cons_succ, List.length_cons, List.length_nil, List.cons_append, List.nil_append, cond_true, cond_false, Bool.cond_true, reduceCtorEq, Option.map_some, Option.map_none, forall_const, ne_eq, implies_true, Nat.reduceAdd, Nat.reduceLeDiff, Nat.reduceLT, Nat.beq, Option.isNone_none, beq_self_eq_true, bne_self_eq_false, Int.reduceBEq, Int.reduceBNe, Int.reduceLT, Int.reduceLE, Int.reduceGT, Int.reduceGE, Int.reduceEq, Int.reduceNe, Int.reduceToNat, List.take_zero, List.drop_zero, List.all_cons, List.all_nil, List.append_nil, List.length_append, List.length_set, List.append_assoc, List.drop_nil, List.take_nil, hz', d0] <;> try simp -dsimp only [if_conj])
      rw [show seqGo [] [] = [] from rfl, List.append_nil] at hs
      exact ⟨_, h1, Weak.refl _ kl, hK _ _ k1 (.inr ⟨ido, by rw [hs], by rw [go, hs]⟩)⟩
    · have d0 : decide ((acc.length : Int) > 0) = true := by have := List.length_pos_iff.2 ha; simp; omega
      rw [show seqGo acc [] = [acc] from if_neg ha] at hs
      (simp +contextual -dsimp only [R28, evA, evB, ↓a_on_t, ↓a_on_f, ↓a_on_und, ↓a_cond_b, ↓reduceIte, Go.Ab.part, List.getD_cons_zero, List.getD_cons_succ, List.set_cons_zero, List.set_cons_succ, List.length_cons, List.length_nil, List.cons_append, List.nil_append, cond_true, cond_false, Bool.cond_true, reduceCtorEq, Option.map_some, Option.map_none, forall_const, ne_eq, implies_true, Nat.reduceAdd, Nat.reduceLeDiff, Nat.reduceLT, Nat.beq, Option.isNone_none, beq_self_eq_true, bne_self_eq_false, Int.reduceBEq, Int.reduceBNe, Int.reduceLT, Int.reduceLE, Int.reduceGT, Int.reduceGE, Int.reduceEq, Int.reduceNe, Int.reduceToNat, List.take_zero, List.drop_zero, List.all_cons, List.all_nil, List.append_nil, List.length_append, List.length_set, List.append_assoc, List.drop_nil, List.take_nil, hz', d0, go2, hget_new, et, eO] <;> try simp -dsimp only [if_conj])
      refine ⟨⟨by omega, by omega⟩, ?_⟩
      obtain ⟨h7, W, g7, l7, k7⟩ := seq_in (l0 := h) (tm := [.s (h1.length + 1) 0 (out.length + 1)]) go gn (Ne.symm hne) k1 ho hn
        (fun g hg => by simp [frzs, frz, frzS, hg (h1.length + 1) (by omega)])
      exact ⟨_, h7, W, hK _ _ k7 (.inr ⟨h1.length + 1, by rw [hs, List.length_append]; rfl, by rw [g7, hs]⟩)⟩
end Go.Proofs.Ytaejegndbaahnaa
