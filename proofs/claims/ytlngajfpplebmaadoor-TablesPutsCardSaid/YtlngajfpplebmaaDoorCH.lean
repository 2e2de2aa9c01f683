import Derived.Test.YtlngajfpplebmaaDoorCG
set_option linter.unusedVariables false
set_option linter.unusedSimpArgs false
set_option maxRecDepth 100000
namespace Go.Proofs.YtlngajfpplebmaaDoor
open Go.Ab
variable {c : Cur} {h : Heap} {id : Nat} {K : Kt}

theorem rPut05_is {n : Nat} {w : Bool} (hn : n < 4294967280)
    (hK : ∀ h' id', Keeps h h' → h.length ≤ id' → h'.getD id' .dead = .o 1 (byt (lenB n w)) → K.K (.t [.s id' 0 (lenB n w).length, I 0]) h') : ACall X 24 [U n, Bo w] h K := by
  have hb : (100 : Nat) ≤ bigRoom := by decide
  apply i24
  cases w
  · have e' : decide ((n : Int) ≥ 4294967280) = false := by simp; omega
    (simp +contextual -dsimp only [R24, evA, evB, ↓a_on_t, ↓a_on_f, ↓a_on_und, ↓a_cond_b, ↓reduceIte, Go.Ab.part, List.getD_cons_zero, List.getD_cons_succ, List.set_cons_zero, List.set_cons_succ, List.length_cons, List.length_nil, List.cons_append, List.nil_append, cond_true, cond_false, Bool.cond_true, reduceCtorEq, Option.map_some, Option.map_none, forall_const, ne_eq, implies_true, Nat.reduceAdd, Nat.reduceLeDiff, Nat.reduceLT, Nat.beq, Option.isNone_none, beq_self_eq_true, bne_self_eq_false, Int.reduceBEq, Int.reduceBNe, Int.reduceLT, Int.reduceLE, Int.reduceGT, Int.reduceGE, Int.reduceEq, Int.reduceNe, Int.reduceToNat, List.take_zero, List.drop_zero, List.all_cons, List.all_nil, List.append_nil, List.length_append, List.length_set, List.append_assoc, List.drop_nil, List.take_nil, e'] <;> try simp -dsimp only [if_conj])
    refine rPut_ok (by omega) fun h1 id1 g1 => ?_
    rw [show wid 4 = 4 from rfl] at g1 ⊢
    (simp +contextual -dsimp only [R24, evA, evB, ↓a_on_t, ↓a_on_f, ↓a_on_und, ↓a_cond_b, ↓reduceIte, Go.Ab.part, List.getD_cons_zero, List.getD_cons_succ, List.set_cons_zero, List.set_cons_succ, List.length_cons, List.length_nil, List.cons_append, List.nil_append, cond_true, cond_false, Bool.cond_true, reduceCtorEq, Option.map_some, Option.map_none, forall_const, ne_eq, implies_true, Nat.reduceAdd, Nat.reduceLeDiff, Nat.reduceLT, Nat.beq, Option.isNone_none, beq_self_eq_true, bne_self_eq_false, Int.reduceBEq, Int.reduceBNe, Int.reduceLT, Int.reduceLE, Int.reduceGT, Int.reduceGE, Int.reduceEq, Int.reduceNe, Int.reduceToNat, List.take_zero, List.drop_zero, List.all_cons, List.all_nil, List.append_nil, List.length_append, List.length_set, List.append_assoc, List.drop_nil, List.take_nil] <;> try simp -dsimp only [if_conj])
    have hi1 : h.length ≤ id1 := by rcases g1.is with e | e <;> (try simp at e) <;> omega
    have := hK _ _ g1.keepsNew hi1 g1.get
    rw [show (lenB n false).length = 4 from leB_length _ _] at this
    exact this
  · (simp +contextual -dsimp only [R24, evA, evB, ↓a_on_t, ↓a_on_f, ↓a_on_und, ↓a_cond_b, ↓reduceIte, Go.Ab.part, List.getD_cons_zero, List.getD_cons_succ, List.set_cons_zero, List.set_cons_succ, List.length_cons, List.length_nil, List.cons_append, List.nil_append, cond_true, cond_false, Bool.cond_true, reduceCtorEq, Option.map_some, Option.map_none, forall_const, ne_eq, implies_true, Nat.reduceAdd, Nat.reduceLeDiff, Nat.reduceLT, Nat.beq, Option.isNone_none, beq_self_eq_true, bne_self_eq_false, Int.reduceBEq, Int.reduceBNe, Int.reduceLT, Int.reduceLE, Int.reduceGT, Int.reduceGE, Int.reduceEq, Int.reduceNe, Int.reduceToNat, List.take_zero, List.drop_zero, List.all_cons, List.all_nil, List.append_nil, List.length_append, List.length_set, List.append_assoc, List.drop_nil, List.take_nil] <;> try simp -dsimp only [if_conj])
    refine rPut_ok (n := 4294967295) (by decide) fun h1 id1 g1 => ?_
    rw [show wid 4 = 4 from rfl] at g1 ⊢
    (simp +contextual -dsimp only [R24, evA, evB, ↓a_on_t, ↓a_on_f, ↓a_on_und, ↓a_cond_b, ↓reduceIte, Go.Ab.part, List.getD_cons_zero, List.getD_cons_succ, List.set_cons_zero, List.set_cons_succ, List.length_cons, List.length_nil, List.cons_append, List.nil_append, cond_true, cond_false, Bool.cond_true, reduceCtorEq, Option.map_some, Option.map_none, forall_const, ne_eq, implies_true, Nat.reduceAdd, Nat.reduceLeDiff, Nat.reduceLT, Nat.beq, Option.isNone_none, beq_self_eq_true, bne_self_eq_false, Int.reduceBEq, Int.reduceBNe, Int.reduceLT, Int.reduceLE, Int.reduceGT, Int.reduceGE, Int.reduceEq, Int.reduceNe, Int.reduceToNat, List.take_zero, List.drop_zero, List.all_cons, List.all_nil, List.append_nil, List.length_append, List.length_set, List.append_assoc, List.drop_nil, List.take_nil] <;> try simp -dsimp only [if_conj])
    refine rPut_ok (by omega) fun h2 id2 g2 => ?_
    rw [show wid 8 = 8 from rfl] at g2 ⊢
    have l1 := hlt g1.get (by simp)
    have k1 : h2.getD id1 .dead = .o 1 (byt (leB 4 4294967295)) := by
      rw [g2.keepsNew.get l1]; exact g1.get
    have l2 := hlt g2.get (by simp)
    have n12 : id2 ≠ id1 := by rcases g2.is with e | e
                               · omega
                               · simp at e; omega
    (simp +contextual -dsimp only [R24, evA, evB, ↓a_on_t, ↓a_on_f, ↓a_on_und, ↓a_cond_b, ↓reduceIte, Go.Ab.part, List.getD_cons_zero, List.getD_cons_succ, List.set_cons_zero, List.set_cons_succ, List.length_cons, List.length_nil, List.cons_append, List.nil_append, cond_true, cond_false, Bool.cond_true, reduceCtorEq, Option.map_some, Option.map_none, forall_const, ne_eq, implies_true, Nat.reduceAdd, Nat.reduceLeDiff, Nat.reduceLT, Nat.beq, Option.isNone_none, beq_self_eq_true, bne_self_eq_false, Int.reduceBEq, Int.reduceBNe, Int.reduceLT, Int.reduceLE, Int.reduceGT, Int.reduceGE, Int.reduceEq, Int.reduceNe, Int.reduceToNat, List.take_zero, List.drop_zero, List.all_cons, List.all_nil, List.append_nil, List.length_append, List.length_set, List.append_assoc, List.drop_nil, List.take_nil, k1, g2.get] <;> try simp -dsimp only [if_conj])
    refine ⟨⟨by omega, n12⟩, ?_⟩
    rw [byt_append]
    have hi1 : h.length ≤ id1 := by rcases g1.is with e | e <;> (try simp at e) <;> omega
    have kk := g1.keepsNew.trans g2.keepsNew
    have := hK _ h2.length (kk.push (p := .o 1 (byt (leB 4 4294967295 ++ leB 8 n))) hi1) kk.len (show (h2.set id1 .dead ++ [AO.o 1 (byt (leB 4 4294967295 ++ leB 8 n))]).getD h2.length .dead = .o 1 (byt (leB 4 4294967295 ++ leB 8 n)) by
      rw [show h2.length = (h2.set id1 .dead).length by simp]; exact hget_new)
    rw [show (lenB n true).length = 12 by simp [lenB, leB_length]] at this
    exact this
def tabBody (hd : List UInt8) (n : Nat) (l : List Nat) : List UInt8 := hd ++ l.flatMap (leB n)
theorem tabBody_snoc {hd : List UInt8} {n q : Nat} {l : List Nat} (h : q < l.length) : tabBody hd n (l.take q) ++ leB n (l.getD q default) = tabBody hd n (l.take (q + 1)) := by
  rw [take_snoc h]; simp [tabBody]
theorem tabBody_len {hd : List UInt8} {n : Nat} : ∀ l : List Nat, (tabBody hd n l).length = hd.length + l.length * n
  | [] => by simp [tabBody]
  | x :: l => by have := tabBody_len (hd := hd) (n := n) l; simp [tabBody, leB_length, Nat.succ_mul] at this ⊢; omega
def tooBig (n : Nat) (l : List Nat) : Prop := n = 4 ∧ ∃ x ∈ l, 4294967295 < x
open Classical in
noncomputable def putR (w : Bool) (hd : List UInt8) (n : Nat) (l : List Nat) : List UInt8 × Int := if tooBig n l then ([], 2) else (lenB (tabBody hd n l).length w ++ tabBody hd n l, 0)
theorem putR_bad {w : Bool} {hd : List UInt8} {n : Nat} {l : List Nat} (h : tooBig n l) : putR w hd n l = ([], 2) := if_pos h
theorem putR_ok {w : Bool} {hd : List UInt8} {n : Nat} {l : List Nat} (h : ¬ tooBig n l) : putR w hd n l = (lenB (tabBody hd n l).length w ++ tabBody hd n l, 0) := if_neg h
theorem tput_ok {w : Bool} {hd : List UInt8} {n : Nat} {l : List Nat} (hn : n = 4 ∨ n = 8) (hl : l.length ≤ 30000) (hx : ∀ x ∈ l, x < 18446744073709551616) (hhd : hd.length ≤ 100) (hid : h.getD id .dead = .o 1 (byt hd))
    (hK : ∀ h1 r, (∀ j, j < h.length → j ≠ id → h1.getD j .dead = h.getD j .dead) → h.length ≤ h1.length → IsB (putR w hd n l).1 r h1 → (∀ j, j < h.length → otherId j r) → K.K (.t [r, I (putR w hd n l).2]) h1) : ACall X 20 [Bo w, .s id 0 hd.length, .z (nums l) l.length, I n] h K := by
  have hbig : (3000000 : Nat) ≤ bigRoom := by decide
  have hn8 : wid (n : Int) = n := wid_nat (by omega)
  apply i20
  (simp +contextual -dsimp only [R20, evA, evB, ↓a_on_t, ↓a_on_f, ↓a_on_und, ↓a_cond_b, ↓reduceIte, Go.Ab.part, List.getD_cons_zero, List.getD_cons_succ, List.set_cons_zero, List.set_cons_succ, List.length_cons, List.length_nil, List.cons_append, List.nil_append, cond_true, cond_false, Bool.cond_true, reduceCtorEq, Option.map_some, Option.map_none, forall_const, ne_eq, implies_true, Nat.reduceAdd, Nat.reduceLeDiff, Nat.reduceLT, Nat.beq, Option.isNone_none, beq_self_eq_true, bne_self_eq_false, Int.reduceBEq, Int.reduceBNe, Int.reduceLT, Int.reduceLE, Int.reduceGT, Int.reduceGE, Int.reduceEq, Int.reduceNe, Int.reduceToNat, List.take_zero, List.drop_zero, List.all_cons, List.all_nil, List.append_nil, List.length_append, List.length_set, List.append_assoc, List.drop_nil, List.take_nil] <;> try simp -dsimp only [if_conj])
  refine aloop (fun m st => ∃ q h1 id1, m + q = l.length ∧ Grown h id h1 id1 (.o 1 (byt (tabBody hd n (l.take q)))) ∧ (∀ x ∈ l.take q, n = 4 → x ≤ 4294967295) ∧ st = ((Bo w :: .s id1 0 (tabBody hd n (l.take q)).length :: sl st.1 2 :: I n :: sl st.1 4 :: sl st.1 5 :: sl st.1 6 :: sl st.1 7 :: sl st.1 8 :: sl st.1 9 :: sl st.1 10 :: sl st.1 11 :: sl st.1 12 :: sl st.1 13 :: .z (nums l) l.length :: I l.length :: I q :: sl st.1 17 :: sl st.1 18 :: sl st.1 19 :: sl st.1 20 :: sl st.1 21 :: sl st.1 22 :: sl st.1 23 :: sl st.1 24 :: sl st.1 25 :: sl st.1 26 :: sl st.1 27 :: sl st.1 28 :: sl st.1 29 :: sl st.1 30 :: sl st.1 31 :: sl st.1 32 :: sl st.1 33 :: sl st.1 34 :: sl st.1 35 :: sl st.1 36 :: sl st.1 37 :: sl st.1 38 :: sl st.1 39 :: sl st.1 40 :: sl st.1 41 :: sl st.1 42 :: sl st.1 43 :: sl st.1 44 :: []), h1)) l.length
    _ (Nat.le_refl _) (Weak.refl _ (Nat.le_refl _)) ⟨0, h, id, by omega, Grown.refl (by rw [hid]; simp [tabBody]), by simp, by rw [show tabBody hd n (l.take 0) = hd by simp [tabBody]]; rfl⟩ ?_
  rintro m st ⟨q, h1, id1, hm, g, hgood, hst⟩
  rw [hst]
  have gl := g.len
  by_cases hz : q < l.length
  · have hz' : decide ((q : Int) < l.length) = true := by simp; omega
    have hn1 : IntKind.i64.wrap ((q : Int) + 1) = ((q + 1 : Nat) : Int) := by rw [wrap_i64 (by omega) (by omega)]; rfl
    have hmem : l.getD q 0 ∈ l := by rw [List.getD_eq_getElem?_getD, List.getElem?_eq_getElem hz]; exact List.getElem_mem hz
    have hxl := hx _ hmem
    have hsn := tabBody_snoc (hd := hd) (n := n) hz
    have hts := take_snoc hz
    rw [show (default : Nat) = 0 from rfl] at hsn hts
    have hbl := tabBody_len (hd := hd) (n := n) (l.take q)
    have hbl2 := tabBody_len (hd := hd) (n := n) (l.take (q + 1))
    rw [List.length_take, Nat.min_eq_left (by omega)] at hbl hbl2
    have hq8 : q * n ≤ 30000 * 8 := Nat.mul_le_mul (by omega) (by omega)
    rw [Nat.succ_mul] at hbl2
    have step : (n = 4 → l.getD q 0 ≤ 4294967295) → ∀ x ∈ l.take (q + 1), n = 4 → x ≤ 4294967295 := fun hh x hx h4 => by
      rw [hts] at hx
      rcases List.mem_append.1 hx with h0 | h0
      · exact hgood x h0 h4
      · simp only [List.mem_singleton] at h0; rw [h0]; exact hh h4
    have na := nums_at hz
    generalize l.getD q 0 = x at *
    rcases hn with rfl | rfl
    · have hs : decide (((4 : Nat) : Int) < 8) = true := rfl
      have hsh : (x : Int).fdiv (2 ^ min (Int.toNat (IntKind.u64.wrap (IntKind.i64.wrap (8 * ((4 : Nat) : Int))))) IntKind.u64.bits) = ((x / 4294967296 : Nat) : Int) := by
        rw [show IntKind.u64.wrap (IntKind.i64.wrap (8 * ((4 : Nat) : Int))) = 32 by decide, show min (Int.toNat 32) IntKind.u64.bits = 32 from rfl]
        rw [Int.fdiv_eq_ediv_of_nonneg _ (by decide)]; rfl
      by_cases e1 : x ≤ 4294967295
      · have e1' : (((x / 4294967296 : Nat) : Int) != 0) = false := by simp; omega
        (simp +contextual -dsimp only [R20, evA, evB, ↓a_on_t, ↓a_on_f, ↓a_on_und, ↓a_cond_b, ↓reduceIte, Go.Ab.part, List.getD_cons_zero, List.getD_cons_succ, List.set_cons_zero, List.set_cons_succ, List.length_cons, List.length_nil, List.cons_append, List.nil_append, cond_true, cond_false, Bool.cond_true, reduceCtorEq, Option.map_some, Option.map_none, forall_const, ne_eq, implies_true, Nat.reduceAdd, Nat.reduceLeDiff, Nat.reduceLT, Nat.beq, Option.isNone_none, beq_self_eq_true, bne_self_eq_false, Int.reduceBEq, Int.reduceBNe, Int.reduceLT, Int.reduceLE, Int.reduceGT, Int.reduceGE, Int.reduceEq, Int.reduceNe, Int.reduceToNat, List.take_zero, List.drop_zero, List.all_cons, List.all_nil, List.append_nil, List.length_append, List.length_set, List.append_assoc, List.drop_nil, List.take_nil, hz', na, hs, hsh, e1'] <;> try simp -dsimp only [if_conj])
        repeat' apply And.intro
        any_goals first | omega | (rw [nums_len]; omega) | decide
        refine Put_ok g.get (by omega) fun h2 id2 g2 => ?_
        rw [hn8, hsn] at g2
        rw [hn8, hbl, show hd.length + q * 4 + 4 = (tabBody hd 4 (l.take (q + 1))).length by omega]
        (simp +contextual -dsimp only [R20, evA, evB, ↓a_on_t, ↓a_on_f, ↓a_on_und, ↓a_cond_b, ↓reduceIte, Go.Ab.part, List.getD_cons_zero, List.getD_cons_succ, List.set_cons_zero, List.set_cons_succ, List.length_cons, List.length_nil, List.cons_append, List.nil_append, cond_true, cond_false, Bool.cond_true, reduceCtorEq, Option.map_some, Option.map_none, forall_const, ne_eq, implies_true, Nat.reduceAdd, Nat.reduceLeDiff, Nat.reduceLT, Nat.beq, Option.isNone_none, beq_self_eq_true, bne_self_eq_false, Int.reduceBEq, Int.reduceBNe, Int.reduceLT, Int.reduceLE, Int.reduceGT, Int.reduceGE, Int.reduceEq, Int.reduceNe, Int.reduceToNat, List.take_zero, List.drop_zero, List.all_cons, List.all_nil, List.append_nil, List.length_append, List.length_set, List.append_assoc, List.drop_nil, List.take_nil, hn1] <;> try simp -dsimp only [if_conj])
        exact ⟨m - 1, _, by omega, Weak.refl _ (by have := (g.trans g2).len; exact this), q + 1, h2, id2, by omega, g.trans g2, fun x hx => step (fun _ => e1) x hx rfl, rfl⟩
      · have e1' : (((x / 4294967296 : Nat) : Int) != 0) = true := by simp; omega
        (simp +contextual -dsimp only [R20, evA, evB, ↓a_on_t, ↓a_on_f, ↓a_on_und, ↓a_cond_b, ↓reduceIte, Go.Ab.part, List.getD_cons_zero, List.getD_cons_succ, List.set_cons_zero, List.set_cons_succ, List.length_cons, List.length_nil, List.cons_append, List.nil_append, cond_true, cond_false, Bool.cond_true, reduceCtorEq, Option.map_some, Option.map_none, forall_const, ne_eq, implies_true, Nat.reduceAdd, Nat.reduceLeDiff, Nat.reduceLT, Nat.beq, Option.isNone_none, beq_self_eq_true, bne_self_eq_false, Int.reduceBEq, Int.reduceBNe, Int.reduceLT, Int.reduceLE, Int.reduceGT, Int.reduceGE, Int.reduceEq, Int.reduceNe, Int.reduceToNat, List.take_zero, List.drop_zero, List.all_cons, List.all_nil, List.append_nil, List.length_append, List.length_set, List.append_assoc, List.drop_nil, List.take_nil, hz', na, hs, hsh, e1'] <;> try simp -dsimp only [if_conj])
        have hb : tooBig 4 l := ⟨rfl, x, hmem, by omega⟩
        rw [putR_bad hb] at hK
        repeat' apply And.intro
        any_goals first | omega | (rw [nums_len]; omega) | decide | exact hK _ _ g.keep gl (.inl ⟨rfl, rfl⟩) (fun _ _ => trivial)
    · have hs : decide (((8 : Nat) : Int) < 8) = false := rfl
      (simp +contextual -dsimp only [R20, evA, evB, ↓a_on_t, ↓a_on_f, ↓a_on_und, ↓a_cond_b, ↓reduceIte, Go.Ab.part, List.getD_cons_zero, List.getD_cons_succ, List.set_cons_zero, List.set_cons_succ, List.length_cons, List.length_nil, List.cons_append, List.nil_append, cond_true, cond_false, Bool.cond_true, reduceCtorEq, Option.map_some, Option.map_none, forall_const, ne_eq, implies_true, Nat.reduceAdd, Nat.reduceLeDiff, Nat.reduceLT, Nat.beq, Option.isNone_none, beq_self_eq_true, bne_self_eq_false, Int.reduceBEq, Int.reduceBNe, Int.reduceLT, Int.reduceLE, Int.reduceGT, Int.reduceGE, Int.reduceEq, Int.reduceNe, Int.reduceToNat, List.take_zero, List.drop_zero, List.all_cons, List.all_nil, List.append_nil, List.length_append, List.length_set, List.append_assoc, List.drop_nil, List.take_nil, hz', na, hs] <;> try simp -dsimp only [if_conj])
      repeat' apply And.intro
      any_goals first | omega | (rw [nums_len]; omega)
      refine Put_ok g.get (by omega) fun h2 id2 g2 => ?_
      rw [hn8, hsn] at g2
      rw [hn8, hbl, show hd.length + q * 8 + 8 = (tabBody hd 8 (l.take (q + 1))).length by omega]
      (simp +contextual -dsimp only [R20, evA, evB, ↓a_on_t, ↓a_on_f, ↓a_on_und, ↓a_cond_b, ↓reduceIte, Go.Ab.part, List.getD_cons_zero, List.getD_cons_succ, List.set_cons_zero, List.set_cons_succ, List.length_cons, List.length_nil, List.cons_append, List.nil_append, cond_true, cond_false, Bool.cond_true, reduceCtorEq, Option.map_some, Option.map_none, forall_const, ne_eq, implies_true, Nat.reduceAdd, Nat.reduceLeDiff, Nat.reduceLT, Nat.beq, Option.isNone_none, beq_self_eq_true, bne_self_eq_false, Int.reduceBEq, Int.reduceBNe, Int.reduceLT, Int.reduceLE, Int.reduceGT, Int.reduceGE, Int.reduceEq, Int.reduceNe, Int.reduceToNat, List.take_zero, List.drop_zero, List.all_cons, List.all_nil, List.append_nil, List.length_append, List.length_set, List.append_assoc, List.drop_nil, List.take_nil, hn1] <;> try simp -dsimp only [if_conj])
      exact ⟨m - 1, _, by omega, Weak.refl _ (by have := (g.trans g2).len; exact this), q + 1, h2, id2, by omega, g.trans g2, fun x hx h8 => by omega, rfl⟩
  · have hz' : decide ((q : Int) < l.length) = false := by simp; omega
    have hbl := tabBody_len (hd := hd) (n := n) l
    have hq8 : l.length * n ≤ 30000 * 8 := Nat.mul_le_mul (by omega) (by omega)
    rw [List.take_of_length_le (by omega)] at g hgood
    have hb : ¬ tooBig n l := fun ⟨h4, x, hx, hb⟩ => by have := hgood x hx h4; omega
    rw [putR_ok hb] at hK
    rw [List.take_of_length_le (by omega)]
    (simp +contextual -dsimp only [R20, evA, evB, ↓a_on_t, ↓a_on_f, ↓a_on_und, ↓a_cond_b, ↓reduceIte, Go.Ab.part, List.getD_cons_zero, List.getD_cons_succ, List.set_cons_zero, List.set_cons_succ, List.length_cons, List.length_nil, List.cons_append, List.nil_append, cond_true, cond_false, Bool.cond_true, reduceCtorEq, Option.map_some, Option.map_none, forall_const, ne_eq, implies_true, Nat.reduceAdd, Nat.reduceLeDiff, Nat.reduceLT, Nat.beq, Option.isNone_none, beq_self_eq_true, bne_self_eq_false, Int.reduceBEq, Int.reduceBNe, Int.reduceLT, Int.reduceLE, Int.reduceGT, Int.reduceGE, Int.reduceEq, Int.reduceNe, Int.reduceToNat, List.take_zero, List.drop_zero, List.all_cons, List.all_nil, List.append_nil, List.length_append, List.length_set, List.append_assoc, List.drop_nil, List.take_nil, hz'] <;> try simp -dsimp only [if_conj])
    refine Wrap_nil (by omega) (IsB.s g.get) fun h2 id2 g2 => ?_
    (simp +contextual -dsimp only [R20, evA, evB, ↓a_on_t, ↓a_on_f, ↓a_on_und, ↓a_cond_b, ↓reduceIte, Go.Ab.part, List.getD_cons_zero, List.getD_cons_succ, List.set_cons_zero, List.set_cons_succ, List.length_cons, List.length_nil, List.cons_append, List.nil_append, cond_true, cond_false, Bool.cond_true, reduceCtorEq, Option.map_some, Option.map_none, forall_const, ne_eq, implies_true, Nat.reduceAdd, Nat.reduceLeDiff, Nat.reduceLT, Nat.beq, Option.isNone_none, beq_self_eq_true, bne_self_eq_false, Int.reduceBEq, Int.reduceBNe, Int.reduceLT, Int.reduceLE, Int.reduceGT, Int.reduceGE, Int.reduceEq, Int.reduceNe, Int.reduceToNat, List.take_zero, List.drop_zero, List.all_cons, List.all_nil, List.append_nil, List.length_append, List.length_set, List.append_assoc, List.drop_nil, List.take_nil] <;> try simp -dsimp only [if_conj])
    have kk := g2.keepsNew
    refine hK _ _ (fun j hj hj2 => ?_) (Nat.le_trans gl kk.len) (by rw [← List.length_append]; exact IsB.s g2.get) (fun j hj => by rcases g2.is with e | e <;> (try simp at e) <;> (show id2 ≠ j; omega))
    rw [kk.get (by omega)]; exact g.keep j hj hj2
abbrev hdS : List UInt8 := [5, 0, 0, 0]
abbrev hdA : List UInt8 := [5, 0, 8, 0]
theorem PutStrs_ok {w : Bool} {l : List Nat} (hl : l.length ≤ 30000) (hx : ∀ x ∈ l, x < 18446744073709551616)
    (hK : ∀ h1 r, Keeps h h1 → IsB (putR w hdS (lenW w) l).1 r h1 → (∀ j, j < h.length → otherId j r) → K.K (.t [r, I (putR w hdS (lenW w) l).2]) h1) : ACall X 7 [Bo w, .z (nums l) l.length] h K := by
  apply i7
  (simp +contextual -dsimp only [R7, evA, evB, ↓a_on_t, ↓a_on_f, ↓a_on_und, ↓a_cond_b, ↓reduceIte, Go.Ab.part, List.getD_cons_zero, List.getD_cons_succ, List.set_cons_zero, List.set_cons_succ, List.length_cons, List.length_nil, List.cons_append, List.nil_append, cond_true, cond_false, Bool.cond_true, reduceCtorEq, Option.map_some, Option.map_none, forall_const, ne_eq, implies_true, Nat.reduceAdd, Nat.reduceLeDiff, Nat.reduceLT, Nat.beq, Option.isNone_none, beq_self_eq_true, bne_self_eq_false, Int.reduceBEq, Int.reduceBNe, Int.reduceLT, Int.reduceLE, Int.reduceGT, Int.reduceGE, Int.reduceEq, Int.reduceNe, Int.reduceToNat, List.take_zero, List.drop_zero, List.all_cons, List.all_nil, List.append_nil, List.length_append, List.length_set, List.append_assoc, List.drop_nil, List.take_nil, fill, setAt] <;> try simp -dsimp only [if_conj])
  refine Off_ok ?_
  (simp +contextual -dsimp only [R7, evA, evB, ↓a_on_t, ↓a_on_f, ↓a_on_und, ↓a_cond_b, ↓reduceIte, Go.Ab.part, List.getD_cons_zero, List.getD_cons_succ, List.set_cons_zero, List.set_cons_succ, List.length_cons, List.length_nil, List.cons_append, List.nil_append, cond_true, cond_false, Bool.cond_true, reduceCtorEq, Option.map_some, Option.map_none, forall_const, ne_eq, implies_true, Nat.reduceAdd, Nat.reduceLeDiff, Nat.reduceLT, Nat.beq, Option.isNone_none, beq_self_eq_true, bne_self_eq_false, Int.reduceBEq, Int.reduceBNe, Int.reduceLT, Int.reduceLE, Int.reduceGT, Int.reduceGE, Int.reduceEq, Int.reduceNe, Int.reduceToNat, List.take_zero, List.drop_zero, List.all_cons, List.all_nil, List.append_nil, List.length_append, List.length_set, List.append_assoc, List.drop_nil, List.take_nil] <;> try simp -dsimp only [if_conj])
  refine tput_ok (hd := hdS) (by cases w <;> simp [lenW]) hl hx (by decide) hget_new fun h1 r k1 k2 i nn => ?_
  (simp +contextual -dsimp only [R7, evA, evB, ↓a_on_t, ↓a_on_f, ↓a_on_und, ↓a_cond_b, ↓reduceIte, Go.Ab.part, List.getD_cons_zero, List.getD_cons_succ, List.set_cons_zero, List.set_cons_succ, List.length_cons, List.length_nil, List.cons_append, List.nil_append, cond_true, cond_false, Bool.cond_true, reduceCtorEq, Option.map_some, Option.map_none, forall_const, ne_eq, implies_true, Nat.reduceAdd, Nat.reduceLeDiff, Nat.reduceLT, Nat.beq, Option.isNone_none, beq_self_eq_true, bne_self_eq_false, Int.reduceBEq, Int.reduceBNe, Int.reduceLT, Int.reduceLE, Int.reduceGT, Int.reduceGE, Int.reduceEq, Int.reduceNe, Int.reduceToNat, List.take_zero, List.drop_zero, List.all_cons, List.all_nil, List.append_nil, List.length_append, List.length_set, List.append_assoc, List.drop_nil, List.take_nil] <;> try simp -dsimp only [if_conj])
  exact hK _ _ ⟨by simp at k2; omega, fun {j} hj => by rw [k1 j (by simp; omega) (by omega)]; exact Adds.mk.at hj⟩ i (fun j hj => nn j (by simp; omega))
theorem PutAddrs_ok {w : Bool} {l : List Nat} (hl : l.length ≤ 30000) (hx : ∀ x ∈ l, x < 18446744073709551616)
    (hK : ∀ h1 r, Keeps h h1 → IsB (putR w hdA 8 l).1 r h1 → (∀ j, j < h.length → otherId j r) → K.K (.t [r, I (putR w hdA 8 l).2]) h1) : ACall X 9 [Bo w, .z (nums l) l.length] h K := by
  apply i9
  (simp +contextual -dsimp only [R9, evA, evB, ↓a_on_t, ↓a_on_f, ↓a_on_und, ↓a_cond_b, ↓reduceIte, Go.Ab.part, List.getD_cons_zero, List.getD_cons_succ, List.set_cons_zero, List.set_cons_succ, List.length_cons, List.length_nil, List.cons_append, List.nil_append, cond_true, cond_false, Bool.cond_true, reduceCtorEq, Option.map_some, Option.map_none, forall_const, ne_eq, implies_true, Nat.reduceAdd, Nat.reduceLeDiff, Nat.reduceLT, Nat.beq, Option.isNone_none, beq_self_eq_true, bne_self_eq_false, Int.reduceBEq, Int.reduceBNe, Int.reduceLT, Int.reduceLE, Int.reduceGT, Int.reduceGE, Int.reduceEq, Int.reduceNe, Int.reduceToNat, List.take_zero, List.drop_zero, List.all_cons, List.all_nil, List.append_nil, List.length_append, List.length_set, List.append_assoc, List.drop_nil, List.take_nil, fill, setAt] <;> try simp -dsimp only [if_conj])
  refine tput_ok (hd := hdA) (n := 8) (.inr rfl) hl hx (by decide) hget_new fun h1 r k1 k2 i nn => ?_
  (simp +contextual -dsimp only [R9, evA, evB, ↓a_on_t, ↓a_on_f, ↓a_on_und, ↓a_cond_b, ↓reduceIte, Go.Ab.part, List.getD_cons_zero, List.getD_cons_succ, List.set_cons_zero, List.set_cons_succ, List.length_cons, List.length_nil, List.cons_append, List.nil_append, cond_true, cond_false, Bool.cond_true, reduceCtorEq, Option.map_some, Option.map_none, forall_const, ne_eq, implies_true, Nat.reduceAdd, Nat.reduceLeDiff, Nat.reduceLT, Nat.beq, Option.isNone_none, beq_self_eq_true, bne_self_eq_false, Int.reduceBEq, Int.reduceBNe, Int.reduceLT, Int.reduceLE, Int.reduceGT, Int.reduceGE, Int.reduceEq, Int.reduceNe, Int.reduceToNat, List.take_zero, List.drop_zero, List.all_cons, List.all_nil, List.append_nil, List.length_append, List.length_set, List.append_assoc, List.drop_nil, List.take_nil] <;> try simp -dsimp only [if_conj])
  exact hK _ _ ⟨by simp at k2; omega, fun {j} hj => by rw [k1 j (by simp; omega) (by omega)]; exact Adds.mk.at hj⟩ i (fun j hj => nn j (by simp; omega))
theorem rtPut_ok {w a : Bool} {l : List Nat} (hl : l.length ≤ 30000) (hx : ∀ x ∈ l, x < 18446744073709551616)
    (hK : ∀ h1 r, Keeps h h1 → IsB (putR w (if a = true then hdA else hdS) (tabN a w) l).1 r h1 → K.K (.t [r, I (putR w (if a = true then hdA else hdS) (tabN a w) l).2]) h1) : ACall X 8 [Bo w, .z (nums l) l.length, Bo a] h K := by
  have hbig : (3000000 : Nat) ≤ bigRoom := by decide
  apply i8
  (simp +contextual -dsimp only [R8, evA, evB, ↓a_on_t, ↓a_on_f, ↓a_on_und, ↓a_cond_b, ↓reduceIte, Go.Ab.part, List.getD_cons_zero, List.getD_cons_succ, List.set_cons_zero, List.set_cons_succ, List.length_cons, List.length_nil, List.cons_append, List.nil_append, cond_true, cond_false, Bool.cond_true, reduceCtorEq, Option.map_some, Option.map_none, forall_const, ne_eq, implies_true, Nat.reduceAdd, Nat.reduceLeDiff, Nat.reduceLT, Nat.beq, Option.isNone_none, beq_self_eq_true, bne_self_eq_false, Int.reduceBEq, Int.reduceBNe, Int.reduceLT, Int.reduceLE, Int.reduceGT, Int.reduceGE, Int.reduceEq, Int.reduceNe, Int.reduceToNat, List.take_zero, List.drop_zero, List.all_cons, List.all_nil, List.append_nil, List.length_append, List.length_set, List.append_assoc, List.drop_nil, List.take_nil, fill, setAt] <;> try simp -dsimp only [if_conj])
  refine rOff_ok ?_
  obtain ⟨hd, hhd⟩ : ∃ hd, hd = (if a = true then hdA else hdS) := ⟨_, rfl⟩
  obtain ⟨n, hn⟩ : ∃ n, n = tabN a w := ⟨_, rfl⟩
  rw [← hhd, ← hn] at hK
  have h4 : hd.length = 4 := by rw [hhd]; cases a <;> rfl
  have hn48 : n = 4 ∨ n = 8 := by rw [hn]; cases a <;> cases w <;> simp [tabN, lenW]
  have hn8 : wid (n : Int) = n := wid_nat (by omega)
  by_cases hA : a = true
  case' neg =>
    have hA' : a = false := by simpa using hA
    (simp +contextual -dsimp only [R8, evA, evB, ↓a_on_t, ↓a_on_f, ↓a_on_und, ↓a_cond_b, ↓reduceIte, Go.Ab.part, List.getD_cons_zero, List.getD_cons_succ, List.set_cons_zero, List.set_cons_succ, List.length_cons, List.length_nil, List.cons_append, List.nil_append, cond_true, cond_false, Bool.cond_true, reduceCtorEq, Option.map_some, Option.map_none, forall_const, ne_eq, implies_true, Nat.reduceAdd, Nat.reduceLeDiff, Nat.reduceLT, Nat.beq, Option.isNone_none, beq_self_eq_true, bne_self_eq_false, Int.reduceBEq, Int.reduceBNe, Int.reduceLT, Int.reduceLE, Int.reduceGT, Int.reduceGE, Int.reduceEq, Int.reduceNe, Int.reduceToNat, List.take_zero, List.drop_zero, List.all_cons, List.all_nil, List.append_nil, List.length_append, List.length_set, List.append_assoc, List.drop_nil, List.take_nil, hA'] <;> try simp -dsimp only [if_conj])
    rw [show lenW w = n by rw [hn, tabN, if_neg hA], show ([AV.v (.int .u8 5), .v (.int .u8 0), .v (.int .u8 0), .v (.int .u8 0)] : List AV) = byt hd by rw [hhd, if_neg hA]; rfl]
  case' pos =>
    (simp +contextual -dsimp only [R8, evA, evB, ↓a_on_t, ↓a_on_f, ↓a_on_und, ↓a_cond_b, ↓reduceIte, Go.Ab.part, List.getD_cons_zero, List.getD_cons_succ, List.set_cons_zero, List.set_cons_succ, List.length_cons, List.length_nil, List.cons_append, List.nil_append, cond_true, cond_false, Bool.cond_true, reduceCtorEq, Option.map_some, Option.map_none, forall_const, ne_eq, implies_true, Nat.reduceAdd, Nat.reduceLeDiff, Nat.reduceLT, Nat.beq, Option.isNone_none, beq_self_eq_true, bne_self_eq_false, Int.reduceBEq, Int.reduceBNe, Int.reduceLT, Int.reduceLE, Int.reduceGT, Int.reduceGE, Int.reduceEq, Int.reduceNe, Int.reduceToNat, List.take_zero, List.drop_zero, List.all_cons, List.all_nil, List.append_nil, List.length_append, List.length_set, List.append_assoc, List.drop_nil, List.take_nil, hA, hget_new, hset_new, setAt] <;> try simp -dsimp only [if_conj])
    refine ⟨by decide, ?_⟩
    rw [show ([AV.v (.int .u8 5), .v (.int .u8 0), .v (.int .u8 8), .v (.int .u8 0)] : List AV) = byt hd by rw [hhd, if_pos hA]; rfl, show (8 : Int) = ((n : Nat) : Int) by rw [hn, tabN, if_pos hA]; rfl]
  all_goals
    refine aloop (fun m st => ∃ q h1 id1, m + q = l.length ∧ Keeps h h1 ∧ h.length ≤ id1 ∧ h1.getD id1 .dead = .o 1 (byt (tabBody hd n (l.take q))) ∧ (∀ x ∈ l.take q, n = 4 → x ≤ 4294967295) ∧ st = ((Bo w :: .z (nums l) l.length :: sl st.1 2 :: sl st.1 3 :: sl st.1 4 :: sl st.1 5 :: sl st.1 6 :: sl st.1 7 :: .s id1 0 (tabBody hd n (l.take q)).length :: I n :: I q :: sl st.1 11 :: sl st.1 12 :: sl st.1 13 :: sl st.1 14 :: sl st.1 15 :: sl st.1 16 :: sl st.1 17 :: sl st.1 18 :: sl st.1 19 :: sl st.1 20 :: sl st.1 21 :: sl st.1 22 :: sl st.1 23 :: sl st.1 24 :: sl st.1 25 :: sl st.1 26 :: sl st.1 27 :: sl st.1 28 :: sl st.1 29 :: sl st.1 30 :: sl st.1 31 :: sl st.1 32 :: sl st.1 33 :: sl st.1 34 :: sl st.1 35 :: sl st.1 36 :: sl st.1 37 :: sl st.1 38 :: sl st.1 39 :: sl st.1 40 :: sl st.1 41 :: sl st.1 42 :: sl st.1 43 :: sl st.1 44 :: sl st.1 45 :: sl st.1 46 :: sl st.1 47 :: sl st.1 48 :: sl st.1 49 :: sl st.1 50 :: sl st.1 51 :: sl st.1 52 :: sl st.1 53 :: []), h1)) l.length
      _ (by simp) (Weak.refl _ (by simp)) ⟨0, h ++ [.o 1 (byt hd)], h.length, by omega, Keeps.adds Adds.mk, Nat.le_refl _, by rw [show tabBody hd n (l.take 0) = hd by simp [tabBody]]; exact hget_new, by simp, by rw [show tabBody hd n (l.take 0) = hd by simp [tabBody], h4]; rfl⟩ ?_
    rintro m st ⟨q, h1, id1, hm, k1, hi1, g, hgood, hst⟩
    rw [hst]
    have gl := k1.len
    have lg := hlt g (by simp)
    by_cases hz : q < l.length
    · have hz' : decide ((q : Int) < l.length) = true := by simp; omega
      have hn1 : IntKind.i64.wrap ((q : Int) + 1) = ((q + 1 : Nat) : Int) := by rw [wrap_i64 (by omega) (by omega)]; rfl
      have hmem : l.getD q 0 ∈ l := by rw [List.getD_eq_getElem?_getD, List.getElem?_eq_getElem hz]; exact List.getElem_mem hz
      have hxl := hx _ hmem
      have hsn := tabBody_snoc (hd := hd) (n := n) hz
      have hts := take_snoc hz
      rw [show (default : Nat) = 0 from rfl] at hsn hts
      have hbl := tabBody_len (hd := hd) (n := n) (l.take q)
      have hbl2 := tabBody_len (hd := hd) (n := n) (l.take (q + 1))
      rw [List.length_take, Nat.min_eq_left (by omega)] at hbl hbl2
      have hq8 : q * n ≤ 30000 * 8 := Nat.mul_le_mul (by omega) (by omega)
      rw [Nat.succ_mul] at hbl2
      have step : (n = 4 → l.getD q 0 ≤ 4294967295) → ∀ x ∈ l.take (q + 1), n = 4 → x ≤ 4294967295 := fun hh x hx h4 => by
        rw [hts] at hx
        rcases List.mem_append.1 hx with h0 | h0
        · exact hgood x h0 h4
        · simp only [List.mem_singleton] at h0; rw [h0]; exact hh h4
      have na := nums_at hz
      generalize l.getD q 0 = x at *
      by_cases eb : n = 4 ∧ 4294967295 < x
      · have hb : tooBig n l := ⟨eb.1, x, hmem, eb.2⟩
        rw [putR_bad hb] at hK
        have e1 : ((n : Int) == 4) = true := by simp; omega
        have e2 : decide ((x : Int) > 4294967295) = true := by simp; omega
        (simp +contextual -dsimp only [R8, evA, evB, ↓a_on_t, ↓a_on_f, ↓a_on_und, ↓a_cond_b, ↓reduceIte, Go.Ab.part, List.getD_cons_zero, List.getD_cons_succ, List.set_cons_zero, List.set_cons_succ, List.length_cons, List.length_nil, List.cons_append, List.nil_append, cond_true, cond_false, Bool.cond_true, reduceCtorEq, Option.map_some, Option.map_none, forall_const, ne_eq, implies_true, Nat.reduceAdd, Nat.reduceLeDiff, Nat.reduceLT, Nat.beq, Option.isNone_none, beq_self_eq_true, bne_self_eq_false, Int.reduceBEq, Int.reduceBNe, Int.reduceLT, Int.reduceLE, Int.reduceGT, Int.reduceGE, Int.reduceEq, Int.reduceNe, Int.reduceToNat, List.take_zero, List.drop_zero, List.all_cons, List.all_nil, List.append_nil, List.length_append, List.length_set, List.append_assoc, List.drop_nil, List.take_nil, hz', na, e1, e2] <;> try simp -dsimp only [if_conj])
        repeat' apply And.intro
        any_goals first | omega | (rw [nums_len]; omega) | exact hK _ _ k1 (.inl ⟨rfl, rfl⟩)
      · (simp +contextual -dsimp only [R8, evA, evB, ↓a_on_t, ↓a_on_f, ↓a_on_und, ↓a_cond_b, ↓reduceIte, Go.Ab.part, List.getD_cons_zero, List.getD_cons_succ, List.set_cons_zero, List.set_cons_succ, List.length_cons, List.length_nil, List.cons_append, List.nil_append, cond_true, cond_false, Bool.cond_true, reduceCtorEq, Option.map_some, Option.map_none, forall_const, ne_eq, implies_true, Nat.reduceAdd, Nat.reduceLeDiff, Nat.reduceLT, Nat.beq, Option.isNone_none, beq_self_eq_true, bne_self_eq_false, Int.reduceBEq, Int.reduceBNe, Int.reduceLT, Int.reduceLE, Int.reduceGT, Int.reduceGE, Int.reduceEq, Int.reduceNe, Int.reduceToNat, List.take_zero, List.drop_zero, List.all_cons, List.all_nil, List.append_nil, List.length_append, List.length_set, List.append_assoc, List.drop_nil, List.take_nil, hz', na] <;> try simp -dsimp only [if_conj])
        refine ⟨fun e1 => ⟨⟨by omega, by omega, by rw [nums_len]; omega⟩, by rw [nums_len]; omega, fun e2 => absurd (show n = 4 ∧ 4294967295 < x by simp at e1 e2; omega) eb, fun e2 => ⟨⟨by omega, by omega, by rw [nums_len]; omega⟩, by rw [nums_len]; omega, ?_⟩⟩, fun e1 => ⟨⟨by omega, by omega, by rw [nums_len]; omega⟩, by rw [nums_len]; omega, ?_⟩⟩
        all_goals
          refine rPut_ok hxl fun h2 id2 g2 => ?_
          rw [hn8] at g2 ⊢
          have k2 := g2.keepsNew
          have l2 := hlt g2.get (by simp)
          have n12 : ¬ id2 = id1 := by
            rcases g2.is with e | e
            · omega
            · simp at e; omega
          have gk2 : h2.getD id1 .dead = .o 1 (byt (tabBody hd n (l.take q))) := k2.at g (by simp)
          have kl2 := k2.len
          (simp +contextual -dsimp only [R8, evA, evB, ↓a_on_t, ↓a_on_f, ↓a_on_und, ↓a_cond_b, ↓reduceIte, Go.Ab.part, List.getD_cons_zero, List.getD_cons_succ, List.set_cons_zero, List.set_cons_succ, List.length_cons, List.length_nil, List.cons_append, List.nil_append, cond_true, cond_false, Bool.cond_true, reduceCtorEq, Option.map_some, Option.map_none, forall_const, ne_eq, implies_true, Nat.reduceAdd, Nat.reduceLeDiff, Nat.reduceLT, Nat.beq, Option.isNone_none, beq_self_eq_true, bne_self_eq_false, Int.reduceBEq, Int.reduceBNe, Int.reduceLT, Int.reduceLE, Int.reduceGT, Int.reduceGE, Int.reduceEq, Int.reduceNe, Int.reduceToNat, List.take_zero, List.drop_zero, List.all_cons, List.all_nil, List.append_nil, List.length_append, List.length_set, List.append_assoc, List.drop_nil, List.take_nil, gk2, g2.get, hn1] <;> try simp -dsimp only [if_conj])
          rw [byt_append, hsn, hbl, show hd.length + q * n + n = (tabBody hd n (l.take (q + 1))).length by omega]
          refine ⟨⟨by omega, n12⟩, m - 1, _, by omega, Weak.refl _ (by simp; omega), q + 1, _, h2.length, by omega, (k1.trans k2).push hi1, by omega, ?_, step (fun e4 => Nat.le_of_not_lt fun hlt => eb ⟨e4, hlt⟩), rfl⟩
          rw [show h2.length = (h2.set id1 .dead).length by simp]; exact hget_new
    · have hz' : decide ((q : Int) < l.length) = false := by simp; omega
      have hbl := tabBody_len (hd := hd) (n := n) l
      have hq8 : l.length * n ≤ 30000 * 8 := Nat.mul_le_mul (by omega) (by omega)
      rw [List.take_of_length_le (by omega)] at g hgood
      have hb : ¬ tooBig n l := fun ⟨h4, x, hx, hb⟩ => by have := hgood x hx h4; omega
      rw [putR_ok hb] at hK
      rw [List.take_of_length_le (by omega)]
      have hw : IntKind.u64.wrap (((tabBody hd n l).length : Nat) : Int) = ((tabBody hd n l).length : Nat) := wrap_u64 (by omega) (by omega)
      (simp +contextual -dsimp only [R8, evA, evB, ↓a_on_t, ↓a_on_f, ↓a_on_und, ↓a_cond_b, ↓reduceIte, Go.Ab.part, List.getD_cons_zero, List.getD_cons_succ, List.set_cons_zero, List.set_cons_succ, List.length_cons, List.length_nil, List.cons_append, List.nil_append, cond_true, cond_false, Bool.cond_true, reduceCtorEq, Option.map_some, Option.map_none, forall_const, ne_eq, implies_true, Nat.reduceAdd, Nat.reduceLeDiff, Nat.reduceLT, Nat.beq, Option.isNone_none, beq_self_eq_true, bne_self_eq_false, Int.reduceBEq, Int.reduceBNe, Int.reduceLT, Int.reduceLE, Int.reduceGT, Int.reduceGE, Int.reduceEq, Int.reduceNe, Int.reduceToNat, List.take_zero, List.drop_zero, List.all_cons, List.all_nil, List.append_nil, List.length_append, List.length_set, List.append_assoc, List.drop_nil, List.take_nil, hz', hw] <;> try simp -dsimp only [if_conj])
      refine rPut05_is (by omega) fun h2 id2 k2 hi2 g2 => ?_
      have gk2 : h2.getD id1 .dead = .o 1 (byt (tabBody hd n l)) := k2.at g (by simp)
      have n12 : ¬ id1 = id2 := by omega
      have hll : (lenB (tabBody hd n l).length w).length ≤ 12 := by unfold lenB; split <;> simp [leB_length]
      (simp +contextual -dsimp only [R8, evA, evB, ↓a_on_t, ↓a_on_f, ↓a_on_und, ↓a_cond_b, ↓reduceIte, Go.Ab.part, List.getD_cons_zero, List.getD_cons_succ, List.set_cons_zero, List.set_cons_succ, List.length_cons, List.length_nil, List.cons_append, List.nil_append, cond_true, cond_false, Bool.cond_true, reduceCtorEq, Option.map_some, Option.map_none, forall_const, ne_eq, implies_true, Nat.reduceAdd, Nat.reduceLeDiff, Nat.reduceLT, Nat.beq, Option.isNone_none, beq_self_eq_true, bne_self_eq_false, Int.reduceBEq, Int.reduceBNe, Int.reduceLT, Int.reduceLE, Int.reduceGT, Int.reduceGE, Int.reduceEq, Int.reduceNe, Int.reduceToNat, List.take_zero, List.drop_zero, List.all_cons, List.all_nil, List.append_nil, List.length_append, List.length_set, List.append_assoc, List.drop_nil, List.take_nil, gk2, g2] <;> try simp -dsimp only [if_conj])
      rw [byt_append]
      refine ⟨⟨by omega, n12⟩, hK _ _ ((k1.trans k2).push (by omega)) ?_⟩
      rw [← List.length_append]
      refine IsB.s ?_
      rw [show h2.length = (h2.set id2 .dead).length by simp]; exact hget_new
end Go.Proofs.YtlngajfpplebmaaDoor
