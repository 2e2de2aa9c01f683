import Derived.Test.YtgpddpdhkhfdjaaCJ
set_option linter.unusedVariables false
set_option linter.unusedSimpArgs false
set_option maxRecDepth 100000
set_option maxHeartbeats 1000000
namespace Go.Proofs.Ytgpddpdhkhfdjaa
open Go.Ab
variable {h : Heap} {K : Kt}

theorem byt_head {l : List UInt8} (h : l ≠ []) : ∃ n r, byt l = .v (.int .u8 n) :: r := by
  cases l with
  | nil => exact absurd rfl h
  | cons b l => exact ⟨_, _, rfl⟩
theorem cat_ne {L : List (List UInt8)} (h : L ≠ []) : cat L ≠ [] := by
  cases L with
  | nil => exact absurd rfl h
  | cons s l => rw [cat_cons]; simp
structure Apart (id mid : Nat) (tab : AV) (idr : Nat) (ls : AV) : Prop where
  a : idr ≠ id
  b : idr ≠ mid
  c : otherS tab idr
  d : otherS ls id
  e : otherS ls mid
  f : ∀ j o l, tab = .s j o l → otherS ls j
theorem apart {L1 L2 : List (List UInt8)} {id mid idr : Nat} {tab ls : AV} (p : IsPool L1 id mid tab h) (r : IsP L2 idr ls h) : Apart id mid tab idr ls := by
  have ls1 : (ls = .v (.slice none 0 0)) ∨ ∃ lid, ls = .s lid 0 L2.length ∧ h.getD lid .dead = .o 1 (strs L2) := by
    rcases r.s with ⟨e, _⟩ | e
    · exact .inl e
    · exact .inr e
  have sf : ∀ {n : Int} {l : List AV}, strs L2 ≠ .v (.int .u8 n) :: l := by
    intro n l e; cases L2 <;> simp [strs] at e
  refine ⟨fun e => ?_, fun e => ?_, fun i o l e => ?_, fun i o l e => ?_, fun i o l e => ?_, fun j o l e i o' l' e2 => ?_⟩
  · have h1 := r.p; rw [e, p.p] at h1; simp at h1
  · have h1 := r.p; rw [e, p.m] at h1; cases h1
  · rcases p.t with ⟨e1, _⟩ | ⟨tid, e1, e2, e3⟩
    · rw [e] at e1; cases e1
    · rw [e] at e1; cases e1
      intro e4; subst e4
      obtain ⟨n, q, hb⟩ := byt_head (cat_ne e3)
      have h1 := r.p
      rw [e2, hb] at h1
      rcases ls1 with rfl | ⟨lid, rfl, _⟩ <;> simp at h1
  · rcases ls1 with e1 | ⟨lid, e1, e2⟩
    · rw [e] at e1; cases e1
    · rw [e] at e1; cases e1
      intro e4; subst e4
      rw [p.p] at e2
      cases L2 <;> simp [strs] at e2
  · rcases ls1 with e1 | ⟨lid, e1, e2⟩
    · rw [e] at e1; cases e1
    · rw [e] at e1; cases e1
      intro e4; subst e4
      rw [p.m] at e2; cases e2
  · rcases ls1 with e1 | ⟨lid, e1, e3⟩
    · rw [e2] at e1; cases e1
    · rw [e2] at e1; cases e1
      intro e4; subst e4
      rcases p.t with ⟨e1, _⟩ | ⟨tid, e1, e5, e6⟩
      · rw [e] at e1; cases e1
      · rw [e] at e1; cases e1
        obtain ⟨n, q, hb⟩ := byt_head (cat_ne e6)
        rw [e5, hb] at e3
        exact sf (AO.o.inj e3).2.symm
theorem p_only {L : List (List UInt8)} {id mid idr : Nat} {tab ls : AV} {h' : Heap} (r : IsP L idr ls h) (a : Apart id mid tab idr ls) (o : Only id mid tab h h') (hl : ∀ lid o l, ls = .s lid o l → lid ≠ id ∧ lid ≠ mid ∧ otherS tab lid) : IsP L idr ls h' := by
  refine ⟨(o.2 _ (hlt r.p (by simp)) a.a a.b a.c).trans r.p, ?_⟩
  rcases r.s with e | ⟨lid, e1, e2⟩
  · exact .inl e
  · obtain ⟨n1, n2, n3⟩ := hl _ _ _ e1
    exact .inr ⟨lid, e1, (o.2 _ (hlt e2 (by simp)) n1 n2 n3).trans e2⟩
theorem r_only {L : List (List UInt8)} {id mid idr : Nat} {tab ls : AV} {h' : Heap} (p : IsPool L id mid tab h) (a : Apart id mid tab idr ls) (o : OnlyP idr ls h h') : IsPool L id mid tab h' := by
  refine ⟨(o.2 _ (hlt p.p (by simp)) (Ne.symm a.a) a.d).trans p.p, (o.2 _ (hlt p.m (by simp)) (Ne.symm a.b) a.e).trans p.m, ?_⟩
  rcases p.t with e | ⟨tid, e1, e2, e3⟩
  · exact .inl e
  · exact .inr ⟨tid, e1, (o.2 _ (hlt e2 (by simp)) (fun e => (a.c _ _ _ e1) e) (a.f _ _ _ e1)).trans e2, e3⟩
theorem ap_ls {id mid idr : Nat} {tab ls : AV} (a : Apart id mid tab idr ls) : ∀ lid o l, ls = .s lid o l → lid ≠ id ∧ lid ≠ mid ∧ otherS tab lid := fun lid o l e =>
  ⟨a.d _ _ _ e, a.e _ _ _ e, fun i o' l' e' he => a.f _ _ _ e' _ _ _ e he.symm⟩
theorem addR_right {L : List (List UInt8)} {s : List UInt8} (h : ∀ x ∈ L, right x) : ∀ x ∈ (addR L s).2, right x := by
  unfold addR
  split
  · exact h
  · rename_i hr
    have hr : right s := Classical.not_not.1 hr
    split
    · exact h
    · split
      · exact h
      · intro x hx
        rcases List.mem_append.1 hx with h0 | h0
        · exact h x h0
        · simp only [List.mem_singleton] at h0; rw [h0]; exact hr
theorem addR_len {L : List (List UInt8)} {s : List UInt8} (h : (cat L).length ≤ 65536) : (cat (addR L s).2).length ≤ 65536 := by
  unfold addR
  split
  · exact h
  · split
    · exact h
    · split
      · exact h
      · rename_i h1
        rw [cat_snoc, List.length_append, List.length_append, List.length_singleton]; omega
theorem plays04_ok {l : List (List UInt8)} {ask : List UInt8} (hl0 : ∀ s ∈ l, s.length ≤ maxLen) : ACall X 3 [.z (strs l) l.length, .v (.string (mkStr ask))] [] (.c (fun r _ => r = Bo true) ()) := by
  have hbig : (6000000 : Nat) ≤ bigRoom := by decide
  apply i3
  (simp +contextual -dsimp only [R3, evA, evB, ↓a_on_t, ↓a_on_f, ↓a_on_und, ↓a_cond_b, ↓reduceIte, Go.Ab.part, List.getD_cons_zero, List.getD_cons_succ, List.set_cons_zero, List.set_cons_succ, List.length_cons, List.length_nil, List.cons_append, List.nil_append, cond_true, cond_false, Bool.cond_true, reduceCtorEq, Option.map_some, Option.map_none, forall_const, ne_eq, implies_true, Nat.reduceAdd, Nat.reduceLeDiff, Nat.reduceLT, Nat.beq, Option.isNone_none, beq_self_eq_true, bne_self_eq_false, Int.reduceBEq, Int.reduceBNe, Int.reduceLT, Int.reduceLE, Int.reduceGT, Int.reduceGE, Int.reduceEq, Int.reduceNe, Int.reduceToNat, List.take_zero, List.drop_zero, List.all_cons, List.all_nil, List.append_nil, List.length_append, List.length_set, List.append_assoc, List.drop_nil, List.take_nil] <;> try simp -dsimp only [if_conj])
  refine New04_ok ?_
  (simp +contextual -dsimp only [R3, evA, evB, ↓a_on_t, ↓a_on_f, ↓a_on_und, ↓a_cond_b, ↓reduceIte, Go.Ab.part, List.getD_cons_zero, List.getD_cons_succ, List.set_cons_zero, List.set_cons_succ, List.length_cons, List.length_nil, List.cons_append, List.nil_append, cond_true, cond_false, Bool.cond_true, reduceCtorEq, Option.map_some, Option.map_none, forall_const, ne_eq, implies_true, Nat.reduceAdd, Nat.reduceLeDiff, Nat.reduceLT, Nat.beq, Option.isNone_none, beq_self_eq_true, bne_self_eq_false, Int.reduceBEq, Int.reduceBNe, Int.reduceLT, Int.reduceLE, Int.reduceGT, Int.reduceGE, Int.reduceEq, Int.reduceNe, Int.reduceToNat, List.take_zero, List.drop_zero, List.all_cons, List.all_nil, List.append_nil, List.length_append, List.length_set, List.append_assoc, List.drop_nil, List.take_nil, fill] <;> try simp -dsimp only [if_conj])
  refine aloop (fun m st => ∃ n L tab ls h1, m + n = 40 ∧ IsPool L 1 0 tab h1 ∧ IsP L 2 ls h1 ∧ (∀ x ∈ L, right x) ∧ (cat L).length ≤ 65536 ∧
      st = ((.z (strs l) l.length :: .v (.string (mkStr ask)) :: sl st.1 2 :: sl st.1 3 :: sl st.1 4 :: .p 1 0 :: .p 2 0 :: I n :: sl st.1 8 :: sl st.1 9 :: sl st.1 10 :: sl st.1 11 :: sl st.1 12 :: sl st.1 13 :: sl st.1 14 :: sl st.1 15 :: sl st.1 16 :: sl st.1 17 :: sl st.1 18 :: sl st.1 19 :: sl st.1 20 :: sl st.1 21 :: sl st.1 22 :: sl st.1 23 :: sl st.1 24 :: sl st.1 25 :: sl st.1 26 :: sl st.1 27 :: sl st.1 28 :: sl st.1 29 :: sl st.1 30 :: sl st.1 31 :: sl st.1 32 :: sl st.1 33 :: sl st.1 34 :: sl st.1 35 :: sl st.1 36 :: sl st.1 37 :: sl st.1 38 :: sl st.1 39 :: sl st.1 40 :: sl st.1 41 :: sl st.1 42 :: sl st.1 43 :: sl st.1 44 :: sl st.1 45 :: sl st.1 46 :: sl st.1 47 :: sl st.1 48 :: sl st.1 49 :: sl st.1 50 :: sl st.1 51 :: sl st.1 52 :: sl st.1 53 :: sl st.1 54 :: sl st.1 55 :: sl st.1 56 :: sl st.1 57 :: sl st.1 58 :: sl st.1 59 :: sl st.1 60 :: sl st.1 61 :: sl st.1 62 :: sl st.1 63 :: sl st.1 64 :: sl st.1 65 :: sl st.1 66 :: sl st.1 67 :: sl st.1 68 :: sl st.1 69 :: sl st.1 70 :: sl st.1 71 :: sl st.1 72 :: sl st.1 73 :: sl st.1 74 :: sl st.1 75 :: sl st.1 76 :: sl st.1 77 :: sl st.1 78 :: sl st.1 79 :: sl st.1 80 :: sl st.1 81 :: sl st.1 82 :: sl st.1 83 :: sl st.1 84 :: sl st.1 85 :: sl st.1 86 :: sl st.1 87 :: sl st.1 88 :: sl st.1 89 :: sl st.1 90 :: sl st.1 91 :: sl st.1 92 :: sl st.1 93 :: sl st.1 94 :: sl st.1 95 :: sl st.1 96 :: sl st.1 97 :: sl st.1 98 :: sl st.1 99 :: sl st.1 100 :: sl st.1 101 :: sl st.1 102 :: sl st.1 103 :: sl st.1 104 :: sl st.1 105 :: sl st.1 106 :: sl st.1 107 :: sl st.1 108 :: sl st.1 109 :: sl st.1 110 :: sl st.1 111 :: sl st.1 112 :: sl st.1 113 :: sl st.1 114 :: sl st.1 115 :: sl st.1 116 :: sl st.1 117 :: sl st.1 118 :: sl st.1 119 :: sl st.1 120 :: sl st.1 121 :: []), h1)) 40
    _ (Nat.zero_le _) (Weak.refl _ (Nat.zero_le _)) ⟨0, [], .v (.slice none 0 0), .v (.slice none 0 0), [.m [], .o 1 [.m 0, .v (.slice none 0 0)], .o 1 [.v (.slice none 0 0)]], by omega, ⟨rfl, rfl, .inl ⟨rfl, rfl⟩⟩, ⟨rfl, .inl ⟨rfl, rfl⟩⟩, by simp, by simp [cat], rfl⟩ ?_
  rintro m st ⟨n, L, tab, ls, h1, hm, ip, ir, hr, hc, hst⟩
  rw [hst]
  by_cases hz : n < l.length ∧ n < 40
  · have hz1 : decide ((n : Int) < l.length) = true := by simp; omega
    have hz2 : decide ((n : Int) < 40) = true := by simp; omega
    have hn1 : IntKind.i64.wrap ((n : Int) + 1) = ((n + 1 : Nat) : Int) := by rw [wrap_i64 (by omega) (by omega)]; rfl
    have sa := strs_at hz.1
    have hsl := strs_len l
    generalize l.getD n [] = s at *
    by_cases hs : s.length ≤ 300 ∧ ask.length ≤ 300
    · have hs1 : decide ((s.length : Int) > 300) = false := by simp; omega
      have hs2 : decide ((ask.length : Int) > 300) = false := by simp; omega
      (simp +contextual -dsimp only [R3, evA, evB, ↓a_on_t, ↓a_on_f, ↓a_on_und, ↓a_cond_b, ↓reduceIte, Go.Ab.part, List.getD_cons_zero, List.getD_cons_succ, List.set_cons_zero, List.set_cons_succ, List.length_cons, List.length_nil, List.cons_append, List.nil_append, cond_true, cond_false, Bool.cond_true, reduceCtorEq, Option.map_some, Option.map_none, forall_const, ne_eq, implies_true, Nat.reduceAdd, Nat.reduceLeDiff, Nat.reduceLT, Nat.beq, Option.isNone_none, beq_self_eq_true, bne_self_eq_false, Int.reduceBEq, Int.reduceBNe, Int.reduceLT, Int.reduceLE, Int.reduceGT, Int.reduceGE, Int.reduceEq, Int.reduceNe, Int.reduceToNat, List.take_zero, List.drop_zero, List.all_cons, List.all_nil, List.append_nil, List.length_append, List.length_set, List.append_assoc, List.drop_nil, List.take_nil, hz1, hz2, sa, mkStr_size, hs1, hs2] <;> try simp -dsimp only [if_conj])
      refine ⟨⟨by omega, by omega, by omega⟩, by omega, ⟨by omega, by omega, by omega⟩, by omega, ?_⟩
      refine pAdd_ok ip hc (by omega) fun h2 tab2 ip2 o2 q2 => ?_
      have ap := apart ip ir
      have ir2 := p_only ir ap o2 (ap_ls ap)
      (simp +contextual -dsimp only [R3, evA, evB, ↓a_on_t, ↓a_on_f, ↓a_on_und, ↓a_cond_b, ↓reduceIte, Go.Ab.part, List.getD_cons_zero, List.getD_cons_succ, List.set_cons_zero, List.set_cons_succ, List.length_cons, List.length_nil, List.cons_append, List.nil_append, cond_true, cond_false, Bool.cond_true, reduceCtorEq, Option.map_some, Option.map_none, forall_const, ne_eq, implies_true, Nat.reduceAdd, Nat.reduceLeDiff, Nat.reduceLT, Nat.beq, Option.isNone_none, beq_self_eq_true, bne_self_eq_false, Int.reduceBEq, Int.reduceBNe, Int.reduceLT, Int.reduceLE, Int.reduceGT, Int.reduceGE, Int.reduceEq, Int.reduceNe, Int.reduceToNat, List.take_zero, List.drop_zero, List.all_cons, List.all_nil, List.append_nil, List.length_append, List.length_set, List.append_assoc, List.drop_nil, List.take_nil, sa] <;> try simp -dsimp only [if_conj])
      refine ⟨⟨by omega, by omega, by omega⟩, by omega, ?_⟩
      refine rpAdd_ok ir2 hr hc (by omega) fun h3 ls3 ir3 o3 q3 => ?_
      have ip3 := r_only ip2 (apart ip2 ir2) o3
      have hr3 := addR_right (s := s) hr
      have hc3 := addR_len (s := s) hc
      generalize addR L s = A at *
      (simp +contextual -dsimp only [R3, evA, evB, ↓a_on_t, ↓a_on_f, ↓a_on_und, ↓a_cond_b, ↓reduceIte, Go.Ab.part, List.getD_cons_zero, List.getD_cons_succ, List.set_cons_zero, List.set_cons_succ, List.length_cons, List.length_nil, List.cons_append, List.nil_append, cond_true, cond_false, Bool.cond_true, reduceCtorEq, Option.map_some, Option.map_none, forall_const, ne_eq, implies_true, Nat.reduceAdd, Nat.reduceLeDiff, Nat.reduceLT, Nat.beq, Option.isNone_none, beq_self_eq_true, bne_self_eq_false, Int.reduceBEq, Int.reduceBNe, Int.reduceLT, Int.reduceLE, Int.reduceGT, Int.reduceGE, Int.reduceEq, Int.reduceNe, Int.reduceToNat, List.take_zero, List.drop_zero, List.all_cons, List.all_nil, List.append_nil, List.length_append, List.length_set, List.append_assoc, List.drop_nil, List.take_nil] <;> try simp -dsimp only [if_conj])
      refine pFind_ok ip3 ?_
      (simp +contextual -dsimp only [R3, evA, evB, ↓a_on_t, ↓a_on_f, ↓a_on_und, ↓a_cond_b, ↓reduceIte, Go.Ab.part, List.getD_cons_zero, List.getD_cons_succ, List.set_cons_zero, List.set_cons_succ, List.length_cons, List.length_nil, List.cons_append, List.nil_append, cond_true, cond_false, Bool.cond_true, reduceCtorEq, Option.map_some, Option.map_none, forall_const, ne_eq, implies_true, Nat.reduceAdd, Nat.reduceLeDiff, Nat.reduceLT, Nat.beq, Option.isNone_none, beq_self_eq_true, bne_self_eq_false, Int.reduceBEq, Int.reduceBNe, Int.reduceLT, Int.reduceLE, Int.reduceGT, Int.reduceGE, Int.reduceEq, Int.reduceNe, Int.reduceToNat, List.take_zero, List.drop_zero, List.all_cons, List.all_nil, List.append_nil, List.length_append, List.length_set, List.append_assoc, List.drop_nil, List.take_nil] <;> try simp -dsimp only [if_conj])
      refine rpFind_ok ir3 (by omega) ?_
      have hlen3 := isS_len ir3.s
      (simp +contextual -dsimp only [R3, evA, evB, ↓a_on_t, ↓a_on_f, ↓a_on_und, ↓a_cond_b, ↓reduceIte, Go.Ab.part, List.getD_cons_zero, List.getD_cons_succ, List.set_cons_zero, List.set_cons_succ, List.length_cons, List.length_nil, List.cons_append, List.nil_append, cond_true, cond_false, Bool.cond_true, reduceCtorEq, Option.map_some, Option.map_none, forall_const, ne_eq, implies_true, Nat.reduceAdd, Nat.reduceLeDiff, Nat.reduceLT, Nat.beq, Option.isNone_none, beq_self_eq_true, bne_self_eq_false, Int.reduceBEq, Int.reduceBNe, Int.reduceLT, Int.reduceLE, Int.reduceGT, Int.reduceGE, Int.reduceEq, Int.reduceNe, Int.reduceToNat, List.take_zero, List.drop_zero, List.all_cons, List.all_nil, List.append_nil, List.length_append, List.length_set, List.append_assoc, List.drop_nil, List.take_nil, ir3.p] <;> try simp -dsimp only [if_conj])
      refine pBytes_ok ip3 (by omega) fun h4 r4 k4 n4 g4 => ?_
      have s4 := fun K => (IsB.s g4).cstr (K := K)
      have ir4 := ir3.keeps k4
      have ip4 := ip3.keeps k4
      (simp +contextual -dsimp only [R3, evA, evB, ↓a_on_t, ↓a_on_f, ↓a_on_und, ↓a_cond_b, ↓reduceIte, Go.Ab.part, List.getD_cons_zero, List.getD_cons_succ, List.set_cons_zero, List.set_cons_succ, List.length_cons, List.length_nil, List.cons_append, List.nil_append, cond_true, cond_false, Bool.cond_true, reduceCtorEq, Option.map_some, Option.map_none, forall_const, ne_eq, implies_true, Nat.reduceAdd, Nat.reduceLeDiff, Nat.reduceLT, Nat.beq, Option.isNone_none, beq_self_eq_true, bne_self_eq_false, Int.reduceBEq, Int.reduceBNe, Int.reduceLT, Int.reduceLE, Int.reduceGT, Int.reduceGE, Int.reduceEq, Int.reduceNe, Int.reduceToNat, List.take_zero, List.drop_zero, List.all_cons, List.all_nil, List.append_nil, List.length_append, List.length_set, List.append_assoc, List.drop_nil, List.take_nil, s4] <;> try simp -dsimp only [if_conj])
      refine rpBytes_ok ir4 hr3 (by omega) fun h5 r5 k5 i5 => ?_
      have s45 := fun K => ((IsB.s g4).keeps k5).cstr (K := K)
      have s5 := fun K => i5.cstr (K := K)
      have ir5 := ir4.keeps k5
      have ip5 := ip4.keeps k5
      have hlen5 := isS_len ir5.s
      (simp +contextual -dsimp only [R3, evA, evB, ↓a_on_t, ↓a_on_f, ↓a_on_und, ↓a_cond_b, ↓reduceIte, Go.Ab.part, List.getD_cons_zero, List.getD_cons_succ, List.set_cons_zero, List.set_cons_succ, List.length_cons, List.length_nil, List.cons_append, List.nil_append, cond_true, cond_false, Bool.cond_true, reduceCtorEq, Option.map_some, Option.map_none, forall_const, ne_eq, implies_true, Nat.reduceAdd, Nat.reduceLeDiff, Nat.reduceLT, Nat.beq, Option.isNone_none, beq_self_eq_true, bne_self_eq_false, Int.reduceBEq, Int.reduceBNe, Int.reduceLT, Int.reduceLE, Int.reduceGT, Int.reduceGE, Int.reduceEq, Int.reduceNe, Int.reduceToNat, List.take_zero, List.drop_zero, List.all_cons, List.all_nil, List.append_nil, List.length_append, List.length_set, List.append_assoc, List.drop_nil, List.take_nil, s45, s5, ir5.p, hlen5] <;> try simp -dsimp only [if_conj])
      refine pCount_ok ip5 ?_
      (simp +contextual -dsimp only [R3, evA, evB, ↓a_on_t, ↓a_on_f, ↓a_on_und, ↓a_cond_b, ↓reduceIte, Go.Ab.part, List.getD_cons_zero, List.getD_cons_succ, List.set_cons_zero, List.set_cons_succ, List.length_cons, List.length_nil, List.cons_append, List.nil_append, cond_true, cond_false, Bool.cond_true, reduceCtorEq, Option.map_some, Option.map_none, forall_const, ne_eq, implies_true, Nat.reduceAdd, Nat.reduceLeDiff, Nat.reduceLT, Nat.beq, Option.isNone_none, beq_self_eq_true, bne_self_eq_false, Int.reduceBEq, Int.reduceBNe, Int.reduceLT, Int.reduceLE, Int.reduceGT, Int.reduceGE, Int.reduceEq, Int.reduceNe, Int.reduceToNat, List.take_zero, List.drop_zero, List.all_cons, List.all_nil, List.append_nil, List.length_append, List.length_set, List.append_assoc, List.drop_nil, List.take_nil, s45, s5, ir5.p, hlen5] <;> try simp -dsimp only [if_conj])
      refine pBytes_ok ip5 (by omega) fun h6 r6 k6 n6 g6 => ?_
      have ir6 := ir5.keeps k6
      have ip6 := ip5.keeps k6
      (simp +contextual -dsimp only [R3, evA, evB, ↓a_on_t, ↓a_on_f, ↓a_on_und, ↓a_cond_b, ↓reduceIte, Go.Ab.part, List.getD_cons_zero, List.getD_cons_succ, List.set_cons_zero, List.set_cons_succ, List.length_cons, List.length_nil, List.cons_append, List.nil_append, cond_true, cond_false, Bool.cond_true, reduceCtorEq, Option.map_some, Option.map_none, forall_const, ne_eq, implies_true, Nat.reduceAdd, Nat.reduceLeDiff, Nat.reduceLT, Nat.beq, Option.isNone_none, beq_self_eq_true, bne_self_eq_false, Int.reduceBEq, Int.reduceBNe, Int.reduceLT, Int.reduceLE, Int.reduceGT, Int.reduceGE, Int.reduceEq, Int.reduceNe, Int.reduceToNat, List.take_zero, List.drop_zero, List.all_cons, List.all_nil, List.append_nil, List.length_append, List.length_set, List.append_assoc, List.drop_nil, List.take_nil] <;> try simp -dsimp only [if_conj])
      refine aloop (fun m2 st => ∃ q h7 bs, m2 + q = (cat A.2).length ∧ Keeps h5 h7 ∧ h7.getD r6 .dead = .o 1 (byt bs) ∧ bs.length = (cat A.2).length ∧
          st = ((.z (strs l) l.length :: .v (.string (mkStr ask)) :: sl st.1 2 :: sl st.1 3 :: sl st.1 4 :: .p 1 0 :: .p 2 0 :: I n :: sl st.1 8 :: sl st.1 9 :: sl st.1 10 :: sl st.1 11 :: sl st.1 12 :: sl st.1 13 :: sl st.1 14 :: sl st.1 15 :: I q :: .s r6 0 (cat A.2).length :: sl st.1 18 :: sl st.1 19 :: sl st.1 20 :: sl st.1 21 :: sl st.1 22 :: sl st.1 23 :: sl st.1 24 :: sl st.1 25 :: sl st.1 26 :: sl st.1 27 :: sl st.1 28 :: sl st.1 29 :: sl st.1 30 :: sl st.1 31 :: sl st.1 32 :: sl st.1 33 :: sl st.1 34 :: sl st.1 35 :: sl st.1 36 :: sl st.1 37 :: sl st.1 38 :: sl st.1 39 :: sl st.1 40 :: sl st.1 41 :: sl st.1 42 :: sl st.1 43 :: sl st.1 44 :: sl st.1 45 :: sl st.1 46 :: sl st.1 47 :: sl st.1 48 :: sl st.1 49 :: sl st.1 50 :: sl st.1 51 :: sl st.1 52 :: sl st.1 53 :: sl st.1 54 :: sl st.1 55 :: sl st.1 56 :: sl st.1 57 :: sl st.1 58 :: sl st.1 59 :: sl st.1 60 :: sl st.1 61 :: sl st.1 62 :: sl st.1 63 :: sl st.1 64 :: sl st.1 65 :: sl st.1 66 :: sl st.1 67 :: sl st.1 68 :: sl st.1 69 :: sl st.1 70 :: sl st.1 71 :: sl st.1 72 :: sl st.1 73 :: sl st.1 74 :: sl st.1 75 :: sl st.1 76 :: sl st.1 77 :: sl st.1 78 :: sl st.1 79 :: sl st.1 80 :: sl st.1 81 :: sl st.1 82 :: sl st.1 83 :: sl st.1 84 :: sl st.1 85 :: sl st.1 86 :: sl st.1 87 :: sl st.1 88 :: sl st.1 89 :: sl st.1 90 :: sl st.1 91 :: sl st.1 92 :: sl st.1 93 :: sl st.1 94 :: sl st.1 95 :: sl st.1 96 :: sl st.1 97 :: sl st.1 98 :: sl st.1 99 :: sl st.1 100 :: sl st.1 101 :: sl st.1 102 :: sl st.1 103 :: sl st.1 104 :: sl st.1 105 :: sl st.1 106 :: sl st.1 107 :: sl st.1 108 :: sl st.1 109 :: sl st.1 110 :: sl st.1 111 :: sl st.1 112 :: sl st.1 113 :: sl st.1 114 :: sl st.1 115 :: sl st.1 116 :: sl st.1 117 :: sl st.1 118 :: sl st.1 119 :: sl st.1 120 :: sl st.1 121 :: []), h7)) (cat A.2).length _ (Nat.zero_le _) (Weak.refl _ (Nat.zero_le _)) ⟨0, h6, cat A.2, by omega, k6, g6, rfl, rfl⟩ ?_
      rintro m2 st2 ⟨q, h7, bs, hq, k7, g7, hbs, hst2⟩
      rw [hst2]
      have l7 := hlt g7 (by simp)
      by_cases hz2' : q < (cat A.2).length
      · have hz3 : decide ((q : Int) < (cat A.2).length) = true := by simp; omega
        have hq1 : IntKind.i64.wrap ((q : Int) + 1) = ((q + 1 : Nat) : Int) := by rw [wrap_i64 (by omega) (by omega)]; rfl
        have hset : setAt (byt bs) q [AV.v (.int .u8 0)] = byt (bs.set q 0) := byt_set bs q 0
        have hbl := byt_length bs
        (simp +contextual -dsimp only [R3, evA, evB, ↓a_on_t, ↓a_on_f, ↓a_on_und, ↓a_cond_b, ↓reduceIte, Go.Ab.part, List.getD_cons_zero, List.getD_cons_succ, List.set_cons_zero, List.set_cons_succ, List.length_cons, List.length_nil, List.cons_append, List.nil_append, cond_true, cond_false, Bool.cond_true, reduceCtorEq, Option.map_some, Option.map_none, forall_const, ne_eq, implies_true, Nat.reduceAdd, Nat.reduceLeDiff, Nat.reduceLT, Nat.beq, Option.isNone_none, beq_self_eq_true, bne_self_eq_false, Int.reduceBEq, Int.reduceBNe, Int.reduceLT, Int.reduceLE, Int.reduceGT, Int.reduceGE, Int.reduceEq, Int.reduceNe, Int.reduceToNat, List.take_zero, List.drop_zero, List.all_cons, List.all_nil, List.append_nil, List.length_append, List.length_set, List.append_assoc, List.drop_nil, List.take_nil, hz3, hq1, g7, hset] <;> try simp -dsimp only [if_conj])
        have kl := k7.len
        repeat' apply And.intro
        all_goals first | omega | exact ⟨m2 - 1, _, by omega, Weak.refl _ (Nat.zero_le _), q + 1, _, bs.set q 0, by omega, ⟨by simpa using kl, fun hj => by rw [hget_set_ne (by omega)]; exact k7.get hj⟩, hget_set l7, by simpa using hbs, rfl⟩
      · have hz3 : decide ((q : Int) < (cat A.2).length) = false := by simp; omega
        (simp +contextual -dsimp only [R3, evA, evB, ↓a_on_t, ↓a_on_f, ↓a_on_und, ↓a_cond_b, ↓reduceIte, Go.Ab.part, List.getD_cons_zero, List.getD_cons_succ, List.set_cons_zero, List.set_cons_succ, List.length_cons, List.length_nil, List.cons_append, List.nil_append, cond_true, cond_false, Bool.cond_true, reduceCtorEq, Option.map_some, Option.map_none, forall_const, ne_eq, implies_true, Nat.reduceAdd, Nat.reduceLeDiff, Nat.reduceLT, Nat.beq, Option.isNone_none, beq_self_eq_true, bne_self_eq_false, Int.reduceBEq, Int.reduceBNe, Int.reduceLT, Int.reduceLE, Int.reduceGT, Int.reduceGE, Int.reduceEq, Int.reduceNe, Int.reduceToNat, List.take_zero, List.drop_zero, List.all_cons, List.all_nil, List.append_nil, List.length_append, List.length_set, List.append_assoc, List.drop_nil, List.take_nil, hz3, hn1] <;> try simp -dsimp only [if_conj])
        exact ⟨m - 1, _, by omega, Weak.refl _ (Nat.zero_le _), n + 1, A.2, tab2, ls3, h7, by omega, ip5.keeps k7, ir5.keeps k7, hr3, hc3, rfl⟩
    · by_cases hs0 : s.length ≤ 300
      · have hs1 : decide ((s.length : Int) > 300) = false := by simp; omega
        have hs2 : decide ((ask.length : Int) > 300) = true := by simp; omega
        (simp +contextual -dsimp only [R3, evA, evB, ↓a_on_t, ↓a_on_f, ↓a_on_und, ↓a_cond_b, ↓reduceIte, Go.Ab.part, List.getD_cons_zero, List.getD_cons_succ, List.set_cons_zero, List.set_cons_succ, List.length_cons, List.length_nil, List.cons_append, List.nil_append, cond_true, cond_false, Bool.cond_true, reduceCtorEq, Option.map_some, Option.map_none, forall_const, ne_eq, implies_true, Nat.reduceAdd, Nat.reduceLeDiff, Nat.reduceLT, Nat.beq, Option.isNone_none, beq_self_eq_true, bne_self_eq_false, Int.reduceBEq, Int.reduceBNe, Int.reduceLT, Int.reduceLE, Int.reduceGT, Int.reduceGE, Int.reduceEq, Int.reduceNe, Int.reduceToNat, List.take_zero, List.drop_zero, List.all_cons, List.all_nil, List.append_nil, List.length_append, List.length_set, List.append_assoc, List.drop_nil, List.take_nil, hz1, hz2, sa, mkStr_size, hs1, hs2] <;> try simp -dsimp only [if_conj])
        refine ⟨⟨by omega, by omega, by omega⟩, by omega, ?_⟩
        refine works04_ok fun h3 k3 => ?_
        (simp +contextual -dsimp only [R3, evA, evB, ↓a_on_t, ↓a_on_f, ↓a_on_und, ↓a_cond_b, ↓reduceIte, Go.Ab.part, List.getD_cons_zero, List.getD_cons_succ, List.set_cons_zero, List.set_cons_succ, List.length_cons, List.length_nil, List.cons_append, List.nil_append, cond_true, cond_false, Bool.cond_true, reduceCtorEq, Option.map_some, Option.map_none, forall_const, ne_eq, implies_true, Nat.reduceAdd, Nat.reduceLeDiff, Nat.reduceLT, Nat.beq, Option.isNone_none, beq_self_eq_true, bne_self_eq_false, Int.reduceBEq, Int.reduceBNe, Int.reduceLT, Int.reduceLE, Int.reduceGT, Int.reduceGE, Int.reduceEq, Int.reduceNe, Int.reduceToNat, List.take_zero, List.drop_zero, List.all_cons, List.all_nil, List.append_nil, List.length_append, List.length_set, List.append_assoc, List.drop_nil, List.take_nil] <;> try simp -dsimp only [if_conj])
      · have hs1 : decide ((s.length : Int) > 300) = true := by simp; omega
        (simp +contextual -dsimp only [R3, evA, evB, ↓a_on_t, ↓a_on_f, ↓a_on_und, ↓a_cond_b, ↓reduceIte, Go.Ab.part, List.getD_cons_zero, List.getD_cons_succ, List.set_cons_zero, List.set_cons_succ, List.length_cons, List.length_nil, List.cons_append, List.nil_append, cond_true, cond_false, Bool.cond_true, reduceCtorEq, Option.map_some, Option.map_none, forall_const, ne_eq, implies_true, Nat.reduceAdd, Nat.reduceLeDiff, Nat.reduceLT, Nat.beq, Option.isNone_none, beq_self_eq_true, bne_self_eq_false, Int.reduceBEq, Int.reduceBNe, Int.reduceLT, Int.reduceLE, Int.reduceGT, Int.reduceGE, Int.reduceEq, Int.reduceNe, Int.reduceToNat, List.take_zero, List.drop_zero, List.all_cons, List.all_nil, List.append_nil, List.length_append, List.length_set, List.append_assoc, List.drop_nil, List.take_nil, hz1, hz2, sa, mkStr_size, hs1] <;> try simp -dsimp only [if_conj])
        refine ⟨⟨by omega, by omega, by omega⟩, by omega, ?_⟩
        refine works04_ok fun h3 k3 => ?_
        (simp +contextual -dsimp only [R3, evA, evB, ↓a_on_t, ↓a_on_f, ↓a_on_und, ↓a_cond_b, ↓reduceIte, Go.Ab.part, List.getD_cons_zero, List.getD_cons_succ, List.set_cons_zero, List.set_cons_succ, List.length_cons, List.length_nil, List.cons_append, List.nil_append, cond_true, cond_false, Bool.cond_true, reduceCtorEq, Option.map_some, Option.map_none, forall_const, ne_eq, implies_true, Nat.reduceAdd, Nat.reduceLeDiff, Nat.reduceLT, Nat.beq, Option.isNone_none, beq_self_eq_true, bne_self_eq_false, Int.reduceBEq, Int.reduceBNe, Int.reduceLT, Int.reduceLE, Int.reduceGT, Int.reduceGE, Int.reduceEq, Int.reduceNe, Int.reduceToNat, List.take_zero, List.drop_zero, List.all_cons, List.all_nil, List.append_nil, List.length_append, List.length_set, List.append_assoc, List.drop_nil, List.take_nil] <;> try simp -dsimp only [if_conj])
  · by_cases hz1 : n < l.length
    · have hz1' : decide ((n : Int) < l.length) = true := by simp; omega
      have hz2' : decide ((n : Int) < 40) = false := by simp; omega
      (simp +contextual -dsimp only [R3, evA, evB, ↓a_on_t, ↓a_on_f, ↓a_on_und, ↓a_cond_b, ↓reduceIte, Go.Ab.part, List.getD_cons_zero, List.getD_cons_succ, List.set_cons_zero, List.set_cons_succ, List.length_cons, List.length_nil, List.cons_append, List.nil_append, cond_true, cond_false, Bool.cond_true, reduceCtorEq, Option.map_some, Option.map_none, forall_const, ne_eq, implies_true, Nat.reduceAdd, Nat.reduceLeDiff, Nat.reduceLT, Nat.beq, Option.isNone_none, beq_self_eq_true, bne_self_eq_false, Int.reduceBEq, Int.reduceBNe, Int.reduceLT, Int.reduceLE, Int.reduceGT, Int.reduceGE, Int.reduceEq, Int.reduceNe, Int.reduceToNat, List.take_zero, List.drop_zero, List.all_cons, List.all_nil, List.append_nil, List.length_append, List.length_set, List.append_assoc, List.drop_nil, List.take_nil, hz1', hz2'] <;> try simp -dsimp only [if_conj])
      refine works04_ok fun h3 k3 => ?_
      (simp +contextual -dsimp only [R3, evA, evB, ↓a_on_t, ↓a_on_f, ↓a_on_und, ↓a_cond_b, ↓reduceIte, Go.Ab.part, List.getD_cons_zero, List.getD_cons_succ, List.set_cons_zero, List.set_cons_succ, List.length_cons, List.length_nil, List.cons_append, List.nil_append, cond_true, cond_false, Bool.cond_true, reduceCtorEq, Option.map_some, Option.map_none, forall_const, ne_eq, implies_true, Nat.reduceAdd, Nat.reduceLeDiff, Nat.reduceLT, Nat.beq, Option.isNone_none, beq_self_eq_true, bne_self_eq_false, Int.reduceBEq, Int.reduceBNe, Int.reduceLT, Int.reduceLE, Int.reduceGT, Int.reduceGE, Int.reduceEq, Int.reduceNe, Int.reduceToNat, List.take_zero, List.drop_zero, List.all_cons, List.all_nil, List.append_nil, List.length_append, List.length_set, List.append_assoc, List.drop_nil, List.take_nil] <;> try simp -dsimp only [if_conj])
    · have hz1' : decide ((n : Int) < l.length) = false := by simp; omega
      (simp +contextual -dsimp only [R3, evA, evB, ↓a_on_t, ↓a_on_f, ↓a_on_und, ↓a_cond_b, ↓reduceIte, Go.Ab.part, List.getD_cons_zero, List.getD_cons_succ, List.set_cons_zero, List.set_cons_succ, List.length_cons, List.length_nil, List.cons_append, List.nil_append, cond_true, cond_false, Bool.cond_true, reduceCtorEq, Option.map_some, Option.map_none, forall_const, ne_eq, implies_true, Nat.reduceAdd, Nat.reduceLeDiff, Nat.reduceLT, Nat.beq, Option.isNone_none, beq_self_eq_true, bne_self_eq_false, Int.reduceBEq, Int.reduceBNe, Int.reduceLT, Int.reduceLE, Int.reduceGT, Int.reduceGE, Int.reduceEq, Int.reduceNe, Int.reduceToNat, List.take_zero, List.drop_zero, List.all_cons, List.all_nil, List.append_nil, List.length_append, List.length_set, List.append_assoc, List.drop_nil, List.take_nil, hz1'] <;> try simp -dsimp only [if_conj])
      refine works04_ok fun h3 k3 => ?_
      (simp +contextual -dsimp only [R3, evA, evB, ↓a_on_t, ↓a_on_f, ↓a_on_und, ↓a_cond_b, ↓reduceIte, Go.Ab.part, List.getD_cons_zero, List.getD_cons_succ, List.set_cons_zero, List.set_cons_succ, List.length_cons, List.length_nil, List.cons_append, List.nil_append, cond_true, cond_false, Bool.cond_true, reduceCtorEq, Option.map_some, Option.map_none, forall_const, ne_eq, implies_true, Nat.reduceAdd, Nat.reduceLeDiff, Nat.reduceLT, Nat.beq, Option.isNone_none, beq_self_eq_true, bne_self_eq_false, Int.reduceBEq, Int.reduceBNe, Int.reduceLT, Int.reduceLE, Int.reduceGT, Int.reduceGE, Int.reduceEq, Int.reduceNe, Int.reduceToNat, List.take_zero, List.drop_zero, List.all_cons, List.all_nil, List.append_nil, List.length_append, List.length_set, List.append_assoc, List.drop_nil, List.take_nil] <;> try simp -dsimp only [if_conj])
theorem arg_strs {t e : TypeId} {a : AV} (hu : X.P.underlying t = some (.slice e)) (he : X.P.underlying e = some .string) (h : ShapeA X.P t a) : ∃ l : List (List UInt8), a = .z (strs l) l.length ∧ (∀ s ∈ l, s.length ≤ maxLen) := by
  obtain ⟨l, h1, h2, _⟩ := arg_rows (f := fun s => [AV.v (.string (mkStr s))]) (R := fun s => s.length ≤ maxLen) hu (fun c hc => by obtain ⟨s, rfl, hs⟩ := shape_str he hc; exact ⟨s, rfl, hs⟩) h
  exact ⟨l, by rw [h1, flat_strs], h2⟩
end Go.Proofs.Ytgpddpdhkhfdjaa
