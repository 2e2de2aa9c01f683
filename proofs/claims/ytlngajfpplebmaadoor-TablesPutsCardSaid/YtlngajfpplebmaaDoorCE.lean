import Derived.Test.YtlngajfpplebmaaDoorCD
set_option linter.unusedVariables false
set_option linter.unusedSimpArgs false
set_option maxRecDepth 100000
namespace Go.Proofs.YtlngajfpplebmaaDoor
open Go.Ab
variable {c : Cur} {h : Heap} {id : Nat} {K : Kt}

theorem flats_byt (l : List UInt8) : flats (byt l) = true := flats_vs fun a ha => by
  simp only [byt, List.mem_map] at ha
  obtain ⟨n, _, rfl⟩ := ha
  exact ⟨_, rfl⟩
theorem both {T A B : Prop} (hA : T → A) (hB : T → B) (hT : T) : A ∧ B := ⟨hA hT, hB hT⟩
theorem rAll_ok {addrs : Bool} {t : List UInt8} (ht : t.length ≤ 300000)
    (hK : ∀ h' r, Keeps h h' → IsR Tab.row 3 (tabR addrs t).1 r h' → K.K (.t [r, I (tabR addrs t).2]) h') : ACall X 11 [.z (byt t) t.length, Bo addrs] h K := by
  have hbig : (6000000 : Nat) ≤ bigRoom := by decide
  apply i11
  (simp +contextual -dsimp only [R11, evA, evB, ↓a_on_t, ↓a_on_f, ↓a_on_und, ↓a_cond_b, ↓reduceIte, Go.Ab.part, List.getD_cons_zero, List.getD_cons_succ, List.set_cons_zero, List.set_cons_succ, List.length_cons, List.length_nil, List.cons_append, List.nil_append, cond_true, cond_false, Bool.cond_true, reduceCtorEq, Option.map_some, Option.map_none, forall_const, ne_eq, implies_true, Nat.reduceAdd, Nat.reduceLeDiff, Nat.reduceLT, Nat.beq, Option.isNone_none, beq_self_eq_true, bne_self_eq_false, Int.reduceBEq, Int.reduceBNe, Int.reduceLT, Int.reduceLE, Int.reduceGT, Int.reduceGE, Int.reduceEq, Int.reduceNe, Int.reduceToNat, List.take_zero, List.drop_zero, List.all_cons, List.all_nil, List.append_nil, List.length_append, List.length_set, List.append_assoc, List.drop_nil, List.take_nil] <;> try simp -dsimp only [if_conj])
  refine aloop (fun m st => ∃ (c : Cur) (acc : List Tab) (h1 : Heap) (ido : Nat), c.left ≤ m ∧ c.b = t ∧ c.e = 0 ∧ c.inv ∧ Keeps h h1 ∧ h.length < ido ∧ h1.getD h.length .dead = rc c ∧ h1.getD ido .dead = .o 3 (tabs acc) ∧ acc.length ≤ 60 ∧
      tabR addrs t = tabAll addrs (m + 1) c acc ∧ st = ((.z (byt t) t.length :: Bo addrs :: sl st.1 2 :: sl st.1 3 :: sl st.1 4 :: sl st.1 5 :: .p h.length 0 :: .s ido 0 acc.length :: sl st.1 8 :: sl st.1 9 :: sl st.1 10 :: sl st.1 11 :: sl st.1 12 :: sl st.1 13 :: sl st.1 14 :: sl st.1 15 :: sl st.1 16 :: sl st.1 17 :: sl st.1 18 :: sl st.1 19 :: sl st.1 20 :: sl st.1 21 :: sl st.1 22 :: sl st.1 23 :: sl st.1 24 :: sl st.1 25 :: sl st.1 26 :: sl st.1 27 :: sl st.1 28 :: sl st.1 29 :: sl st.1 30 :: sl st.1 31 :: sl st.1 32 :: sl st.1 33 :: sl st.1 34 :: sl st.1 35 :: sl st.1 36 :: sl st.1 37 :: sl st.1 38 :: sl st.1 39 :: sl st.1 40 :: sl st.1 41 :: sl st.1 42 :: sl st.1 43 :: sl st.1 44 :: sl st.1 45 :: sl st.1 46 :: sl st.1 47 :: sl st.1 48 :: sl st.1 49 :: sl st.1 50 :: sl st.1 51 :: sl st.1 52 :: sl st.1 53 :: sl st.1 54 :: sl st.1 55 :: sl st.1 56 :: sl st.1 57 :: sl st.1 58 :: sl st.1 59 :: sl st.1 60 :: sl st.1 61 :: sl st.1 62 :: sl st.1 63 :: sl st.1 64 :: sl st.1 65 :: sl st.1 66 :: sl st.1 67 :: sl st.1 68 :: sl st.1 69 :: sl st.1 70 :: sl st.1 71 :: sl st.1 72 :: sl st.1 73 :: sl st.1 74 :: sl st.1 75 :: sl st.1 76 :: sl st.1 77 :: sl st.1 78 :: sl st.1 79 :: sl st.1 80 :: sl st.1 81 :: sl st.1 82 :: sl st.1 83 :: sl st.1 84 :: sl st.1 85 :: sl st.1 86 :: sl st.1 87 :: []), h1)) t.length
    ((.z (byt t) t.length :: Bo addrs :: .bad :: .bad :: .bad :: .bad :: .p h.length 0 :: .s (h.length + 1) 0 0 :: .bad :: .bad :: .bad :: .bad :: .bad :: .bad :: .bad :: .bad :: .bad :: .bad :: .bad :: .bad :: .bad :: .bad :: .bad :: .bad :: .bad :: .bad :: .bad :: .bad :: .bad :: .bad :: .bad :: .bad :: .bad :: .bad :: .bad :: .bad :: .bad :: .bad :: .bad :: .bad :: .bad :: .bad :: .bad :: .bad :: .bad :: .bad :: .bad :: .bad :: .bad :: .bad :: .bad :: .bad :: .bad :: .bad :: .bad :: .bad :: .bad :: .bad :: .bad :: .bad :: .bad :: .bad :: .bad :: .bad :: .bad :: .bad :: .bad :: .bad :: .bad :: .bad :: .bad :: .bad :: .bad :: .bad :: .bad :: .bad :: .bad :: .bad :: .bad :: .bad :: .bad :: .bad :: .bad :: .bad :: .bad :: .bad :: .bad :: .bad :: []), (h ++ [rc ⟨t, 0, 0⟩]) ++ [.o 3 []]) (by simp)
    (by have := weak_nils (X := X) (n := h.length) (sz := 3) (h := h ++ [rc ⟨t, 0, 0⟩]) (tm' := (.z (byt t) t.length :: Bo addrs :: .bad :: .bad :: .bad :: .bad :: .p h.length 0 :: .s (h.length + 1) 0 0 :: .bad :: .bad :: .bad :: .bad :: .bad :: .bad :: .bad :: .bad :: .bad :: .bad :: .bad :: .bad :: .bad :: .bad :: .bad :: .bad :: .bad :: .bad :: .bad :: .bad :: .bad :: .bad :: .bad :: .bad :: .bad :: .bad :: .bad :: .bad :: .bad :: .bad :: .bad :: .bad :: .bad :: .bad :: .bad :: .bad :: .bad :: .bad :: .bad :: .bad :: .bad :: .bad :: .bad :: .bad :: .bad :: .bad :: .bad :: .bad :: .bad :: .bad :: .bad :: .bad :: .bad :: .bad :: .bad :: .bad :: .bad :: .bad :: .bad :: .bad :: .bad :: .bad :: .bad :: .bad :: .bad :: .bad :: .bad :: .bad :: .bad :: .bad :: .bad :: .bad :: .bad :: .bad :: .bad :: .bad :: .bad :: .bad :: .bad :: .bad :: [])) (tm := (.z (byt t) t.length :: Bo addrs :: .bad :: .bad :: .bad :: .bad :: .p h.length 0 :: .v (.slice none 0 0) :: .bad :: .bad :: .bad :: .bad :: .bad :: .bad :: .bad :: .bad :: .bad :: .bad :: .bad :: .bad :: .bad :: .bad :: .bad :: .bad :: .bad :: .bad :: .bad :: .bad :: .bad :: .bad :: .bad :: .bad :: .bad :: .bad :: .bad :: .bad :: .bad :: .bad :: .bad :: .bad :: .bad :: .bad :: .bad :: .bad :: .bad :: .bad :: .bad :: .bad :: .bad :: .bad :: .bad :: .bad :: .bad :: .bad :: .bad :: .bad :: .bad :: .bad :: .bad :: .bad :: .bad :: .bad :: .bad :: .bad :: .bad :: .bad :: .bad :: .bad :: .bad :: .bad :: .bad :: .bad :: .bad :: .bad :: .bad :: .bad :: .bad :: .bad :: .bad :: .bad :: .bad :: .bad :: .bad :: .bad :: .bad :: .bad :: .bad :: .bad :: [])) (by simp) (by simp [NilOk])
        refine Weak.trans (weak_slots (tm' := (.z (byt t) t.length :: Bo addrs :: .bad :: .bad :: .bad :: .bad :: .p h.length 0 :: .v (.slice none 0 0) :: .bad :: .bad :: .bad :: .bad :: .bad :: .bad :: .bad :: .bad :: .bad :: .bad :: .bad :: .bad :: .bad :: .bad :: .bad :: .bad :: .bad :: .bad :: .bad :: .bad :: .bad :: .bad :: .bad :: .bad :: .bad :: .bad :: .bad :: .bad :: .bad :: .bad :: .bad :: .bad :: .bad :: .bad :: .bad :: .bad :: .bad :: .bad :: .bad :: .bad :: .bad :: .bad :: .bad :: .bad :: .bad :: .bad :: .bad :: .bad :: .bad :: .bad :: .bad :: .bad :: .bad :: .bad :: .bad :: .bad :: .bad :: .bad :: .bad :: .bad :: .bad :: .bad :: .bad :: .bad :: .bad :: .bad :: .bad :: .bad :: .bad :: .bad :: .bad :: .bad :: .bad :: .bad :: .bad :: .bad :: .bad :: .bad :: .bad :: .bad :: [])) (by simp) (by simp [SeeL, See])) this (Nat.le_refl _))
    ⟨⟨t, 0, 0⟩, [], _, h.length + 1, by simp [Cur.left], rfl, rfl, Cur.mki (Nat.zero_le _) (by show t.length < _; omega), Keeps.adds (Adds.mk.trans Adds.mk), by omega, hget_app hget_new (rc_ne _), by rw [show h.length + 1 = (h ++ [rc ⟨t, 0, 0⟩]).length by simp]; exact hget_new, by simp, rfl, rfl⟩ ?_
  rintro m st ⟨c, acc, h1, ido, hm, hcb, hce, hi, k1, ho, gc, go, hacc, hR1, hst⟩
  rw [hst]
  have hl := hlt gc (rc_ne c)
  have hlo := hlt go (by simp)
  have hip := hi.p
  rw [hcb] at hip
  have hca : c.left = t.length - c.p := by unfold Cur.left; rw [if_pos hce, hcb]
  by_cases hz : c.left = 0
  · have hz' : decide ((c.p : Int) < t.length) = false := by simp; omega
    (simp +contextual -dsimp only [R11, evA, evB, ↓a_on_t, ↓a_on_f, ↓a_on_und, ↓a_cond_b, ↓reduceIte, Go.Ab.part, List.getD_cons_zero, List.getD_cons_succ, List.set_cons_zero, List.set_cons_succ, List.length_cons, List.length_nil, List.cons_append, List.nil_append, cond_true, cond_false, Bool.cond_true, reduceCtorEq, Option.map_some, Option.map_none, forall_const, ne_eq, implies_true, Nat.reduceAdd, Nat.reduceLeDiff, Nat.reduceLT, Nat.beq, Option.isNone_none, beq_self_eq_true, bne_self_eq_false, Int.reduceBEq, Int.reduceBNe, Int.reduceLT, Int.reduceLE, Int.reduceGT, Int.reduceGE, Int.reduceEq, Int.reduceNe, Int.reduceToNat, List.take_zero, List.drop_zero, List.all_cons, List.all_nil, List.append_nil, List.length_append, List.length_set, List.append_assoc, List.drop_nil, List.take_nil, gc, rc, hz'] <;> try simp -dsimp only [if_conj])
    have e0 : tabR addrs t = (acc, 0) := by rw [hR1]; unfold tabAll; rw [if_pos hz]
    rw [e0] at hK
    exact hK _ _ k1 (.inr ⟨ido, rfl, go⟩)
  · have hz' : decide ((c.p : Int) < t.length) = true := by simp; omega
    have e0 := hR1.trans (tabAll_more hz)
    (simp +contextual -dsimp only [R11, evA, evB, ↓a_on_t, ↓a_on_f, ↓a_on_und, ↓a_cond_b, ↓reduceIte, Go.Ab.part, List.getD_cons_zero, List.getD_cons_succ, List.set_cons_zero, List.set_cons_succ, List.length_cons, List.length_nil, List.cons_append, List.nil_append, cond_true, cond_false, Bool.cond_true, reduceCtorEq, Option.map_some, Option.map_none, forall_const, ne_eq, implies_true, Nat.reduceAdd, Nat.reduceLeDiff, Nat.reduceLT, Nat.beq, Option.isNone_none, beq_self_eq_true, bne_self_eq_false, Int.reduceBEq, Int.reduceBNe, Int.reduceLT, Int.reduceLE, Int.reduceGT, Int.reduceGE, Int.reduceEq, Int.reduceNe, Int.reduceToNat, List.take_zero, List.drop_zero, List.all_cons, List.all_nil, List.append_nil, List.length_append, List.length_set, List.append_assoc, List.drop_nil, List.take_nil, gc, rc, hz'] <;> try simp -dsimp only [if_conj])
    refine rBody_ok gc hi (by rw [hcb]; omega) fun h2 idb a2 n2 gb2 => ?_
    have gc2 : h2.getD h.length .dead = rc c.bd.2.1 := a2.get (hget_set hl) (rc_ne _)
    have go2 : h2.getD ido .dead = .o 3 (tabs acc) := a2.get (by rw [hget_set_ne (by omega)]; exact go) (by simp)
    have k2 : Keeps h h2 := (Keeps.set' k1 (Nat.le_refl _)).trans (Keeps.adds a2)
    have l2 := hlt gb2 (rc_ne _)
    have hbi := bd2_inv hi
    (simp +contextual -dsimp only [R11, evA, evB, ↓a_on_t, ↓a_on_f, ↓a_on_und, ↓a_cond_b, ↓reduceIte, Go.Ab.part, List.getD_cons_zero, List.getD_cons_succ, List.set_cons_zero, List.set_cons_succ, List.length_cons, List.length_nil, List.cons_append, List.nil_append, cond_true, cond_false, Bool.cond_true, reduceCtorEq, Option.map_some, Option.map_none, forall_const, ne_eq, implies_true, Nat.reduceAdd, Nat.reduceLeDiff, Nat.reduceLT, Nat.beq, Option.isNone_none, beq_self_eq_true, bne_self_eq_false, Int.reduceBEq, Int.reduceBNe, Int.reduceLT, Int.reduceLE, Int.reduceGT, Int.reduceGE, Int.reduceEq, Int.reduceNe, Int.reduceToNat, List.take_zero, List.drop_zero, List.all_cons, List.all_nil, List.append_nil, List.length_append, List.length_set, List.append_assoc, List.drop_nil, List.take_nil] <;> try simp -dsimp only [if_conj])
    refine rUint_ok gb2 hbi ?_
    rw [show wid 2 = 2 from rfl]
    (simp +contextual -dsimp only [R11, evA, evB, ↓a_on_t, ↓a_on_f, ↓a_on_und, ↓a_cond_b, ↓reduceIte, Go.Ab.part, List.getD_cons_zero, List.getD_cons_succ, List.set_cons_zero, List.set_cons_succ, List.length_cons, List.length_nil, List.cons_append, List.nil_append, cond_true, cond_false, Bool.cond_true, reduceCtorEq, Option.map_some, Option.map_none, forall_const, ne_eq, implies_true, Nat.reduceAdd, Nat.reduceLeDiff, Nat.reduceLT, Nat.beq, Option.isNone_none, beq_self_eq_true, bne_self_eq_false, Int.reduceBEq, Int.reduceBNe, Int.reduceLT, Int.reduceLE, Int.reduceGT, Int.reduceGE, Int.reduceEq, Int.reduceNe, Int.reduceToNat, List.take_zero, List.drop_zero, List.all_cons, List.all_nil, List.append_nil, List.length_append, List.length_set, List.append_assoc, List.drop_nil, List.take_nil] <;> try simp -dsimp only [if_conj])
    refine rUint_ok (hget_set l2) (hbi.skip 2) ?_
    rw [show wid 2 = 2 from rfl, List.set_set]
    have gc3 : (h2.set idb (rc ((c.bd.2.2.skip 2).skip 2))).getD h.length .dead = rc c.bd.2.1 := by rw [hget_set_ne (by omega)]; exact gc2
    have gb3 : (h2.set idb (rc ((c.bd.2.2.skip 2).skip 2))).getD idb .dead = rc ((c.bd.2.2.skip 2).skip 2) := hget_set l2
    have go3 : (h2.set idb (rc ((c.bd.2.2.skip 2).skip 2))).getD ido .dead = .o 3 (tabs acc) := by rw [hget_set_ne (by omega)]; exact go2
    have kl1 := k1.len
    have k3 : Keeps h (h2.set idb (rc ((c.bd.2.2.skip 2).skip 2))) := Keeps.set' k2 (by omega)
    have l3 : (h2.set idb (rc ((c.bd.2.2.skip 2).skip 2))).length = h2.length := by simp
    generalize h2.set idb (rc ((c.bd.2.2.skip 2).skip 2)) = h3 at *
    by_cases e1 : ((c.bd.2.2.skip 2).skip 2).e = 0
    · have e1' : (((c.bd.2.2.skip 2).skip 2).e != 0) = false := by simp [e1]
      have he0 := e1
      have hdi : ((c.bd.2.2.skip 2).skip 2).inv := (hbi.skip 2).skip 2
      obtain ⟨f1, f2, f3⟩ := skip_e0 he0
      obtain ⟨f4, f5, f6⟩ := skip_e0 f1
      obtain ⟨g1, g2, g3, g4, g5, g6⟩ := bd_e0 hi f4
      have hdl : ((c.bd.2.2.skip 2).skip 2).left = ((c.bd.2.2.skip 2).skip 2).b.length - ((c.bd.2.2.skip 2).skip 2).p := by unfold Cur.left; rw [if_pos he0]
      have hdb : ((c.bd.2.2.skip 2).skip 2).b = c.bd.2.2.b := by rw [skip_b, skip_b]
      have hdp := hdi.p
      have hnp := tabN_pos addrs c.bd.1
      have hn8 := tabN_le addrs c.bd.1
      have hlt30 : ((c.bd.2.2.skip 2).skip 2).left ≤ c.bd.2.1.p := by rw [hdl, hdb]; omega
      have hp30 : c.bd.2.1.p ≤ 300000 := by rw [hcb] at g4; omega
      have hw1 : IntKind.i64.wrap ((c.bd.2.1.p : Int) - (((c.bd.2.2.skip 2).skip 2).left : Nat)) = ((c.bd.2.1.p - ((c.bd.2.2.skip 2).skip 2).left : Nat) : Int) := by rw [wrap_i64 (by omega) (by omega)]; omega
      have hw2 : IntKind.u64.wrap ((c.bd.2.1.p - ((c.bd.2.2.skip 2).skip 2).left : Nat) : Int) = ((c.bd.2.1.p - ((c.bd.2.2.skip 2).skip 2).left : Nat) : Int) := wrap_u64 (by omega) (by omega)
      have htab : c.tab addrs = if ¬ (le (c.bd.2.2.got 2) = 5 ∧ le ((c.bd.2.2.skip 2).got 2) = tabHead addrs) then (default, 42, c.bd.2.1) else if ((c.bd.2.2.skip 2).skip 2).left % tabN addrs c.bd.1 ≠ 0 then (default, 10, c.bd.2.1) else
          (⟨c.bd.1, c.bd.2.1.p - ((c.bd.2.2.skip 2).skip 2).left, numsAt (tabN addrs c.bd.1) (((c.bd.2.2.skip 2).skip 2).b.drop ((c.bd.2.2.skip 2).skip 2).p) (((c.bd.2.2.skip 2).skip 2).left / tabN addrs c.bd.1)⟩, 0, c.bd.2.1) := by
        unfold Cur.tab; rw [if_neg (show ¬ ((c.bd.2.2.skip 2).skip 2).e ≠ 0 by simp [he0])]
      generalize hv1 : le (c.bd.2.2.got 2) = v1 at *
      generalize hv2 : le ((c.bd.2.2.skip 2).got 2) = v2 at *
      generalize hdd : (c.bd.2.2.skip 2).skip 2 = d at *
      by_cases hg : v1 = 5 ∧ v2 = tabHead addrs
      · have e5 : ((v1 : Int) != 5) = false := by simp; omega
        rw [if_neg (not_not_intro hg)] at htab
        have hg2 := hg.2
        generalize hN : tabN addrs c.bd.1 = n at *
        by_cases hA : addrs = true
        case' neg =>
          have hA' : (!addrs) = true := by simpa using hA
          have e6 : ((v2 : Int) != 0) = false := by
            simp
            rw [hg2, tabHead, if_neg hA]
          (simp +contextual -dsimp only [R11, evA, evB, ↓a_on_t, ↓a_on_f, ↓a_on_und, ↓a_cond_b, ↓reduceIte, Go.Ab.part, List.getD_cons_zero, List.getD_cons_succ, List.set_cons_zero, List.set_cons_succ, List.length_cons, List.length_nil, List.cons_append, List.nil_append, cond_true, cond_false, Bool.cond_true, reduceCtorEq, Option.map_some, Option.map_none, forall_const, ne_eq, implies_true, Nat.reduceAdd, Nat.reduceLeDiff, Nat.reduceLT, Nat.beq, Option.isNone_none, beq_self_eq_true, bne_self_eq_false, Int.reduceBEq, Int.reduceBNe, Int.reduceLT, Int.reduceLE, Int.reduceGT, Int.reduceGE, Int.reduceEq, Int.reduceNe, Int.reduceToNat, List.take_zero, List.drop_zero, List.all_cons, List.all_nil, List.append_nil, List.length_append, List.length_set, List.append_assoc, List.drop_nil, List.take_nil, gb3, rc, e1', hA'] <;> try simp -dsimp only [if_conj])
          refine rOff_ok ?_
          (simp +contextual -dsimp only [R11, evA, evB, ↓a_on_t, ↓a_on_f, ↓a_on_und, ↓a_cond_b, ↓reduceIte, Go.Ab.part, List.getD_cons_zero, List.getD_cons_succ, List.set_cons_zero, List.set_cons_succ, List.length_cons, List.length_nil, List.cons_append, List.nil_append, cond_true, cond_false, Bool.cond_true, reduceCtorEq, Option.map_some, Option.map_none, forall_const, ne_eq, implies_true, Nat.reduceAdd, Nat.reduceLeDiff, Nat.reduceLT, Nat.beq, Option.isNone_none, beq_self_eq_true, bne_self_eq_false, Int.reduceBEq, Int.reduceBNe, Int.reduceLT, Int.reduceLE, Int.reduceGT, Int.reduceGE, Int.reduceEq, Int.reduceNe, Int.reduceToNat, List.take_zero, List.drop_zero, List.all_cons, List.all_nil, List.append_nil, List.length_append, List.length_set, List.append_assoc, List.drop_nil, List.take_nil, e5, e6] <;> try simp -dsimp only [if_conj])
          rw [show lenW c.bd.1 = n by rw [← hN, tabN, if_neg hA]]
        case' pos =>
          have hA' : (!addrs) = false := by simp [hA]
          have e6 : ((v2 : Int) != 8) = false := by
            simp
            rw [hg2, tabHead, if_pos hA]
            rfl
          (simp +contextual -dsimp only [R11, evA, evB, ↓a_on_t, ↓a_on_f, ↓a_on_und, ↓a_cond_b, ↓reduceIte, Go.Ab.part, List.getD_cons_zero, List.getD_cons_succ, List.set_cons_zero, List.set_cons_succ, List.length_cons, List.length_nil, List.cons_append, List.nil_append, cond_true, cond_false, Bool.cond_true, reduceCtorEq, Option.map_some, Option.map_none, forall_const, ne_eq, implies_true, Nat.reduceAdd, Nat.reduceLeDiff, Nat.reduceLT, Nat.beq, Option.isNone_none, beq_self_eq_true, bne_self_eq_false, Int.reduceBEq, Int.reduceBNe, Int.reduceLT, Int.reduceLE, Int.reduceGT, Int.reduceGE, Int.reduceEq, Int.reduceNe, Int.reduceToNat, List.take_zero, List.drop_zero, List.all_cons, List.all_nil, List.append_nil, List.length_append, List.length_set, List.append_assoc, List.drop_nil, List.take_nil, gb3, rc, e1', e5, e6, hA'] <;> try simp -dsimp only [if_conj])
          rw [show (8 : Int) = ((n : Nat) : Int) by rw [← hN, tabN, if_pos hA]; rfl]
        all_goals
          have gc4 : ∀ o, (h3 ++ [o]).getD h.length .dead = rc c.bd.2.1 := fun o => hget_app gc3 (rc_ne _)
          have gb4 : ∀ o, (h3 ++ [o]).getD idb .dead = rc d := fun o => hget_app gb3 (rc_ne _)
          have go4 : ∀ o, (h3 ++ [o]).getD ido .dead = .o 3 (tabs acc) := fun o => hget_app go3 (by simp)
          have go4' := go3
          have k4 : ∀ o, Keeps h (h3 ++ [o]) := fun o => k3.trans (Keeps.adds Adds.mk)
          refine rLeft_ok gb3 hdi ?_
          by_cases e2 : d.left % n = 0
          case' neg =>
            rw [if_pos e2] at htab
            rw [htab] at e0
            simp only [ne_eq, Int.reduceEq, not_false_eq_true, if_true] at e0
            rw [e0] at hK
            have e2' : decide (((d.left % n : Nat) : Int) > 0) = true := by simp; omega
            (simp +contextual -dsimp only [R11, evA, evB, ↓a_on_t, ↓a_on_f, ↓a_on_und, ↓a_cond_b, ↓reduceIte, Go.Ab.part, List.getD_cons_zero, List.getD_cons_succ, List.set_cons_zero, List.set_cons_succ, List.length_cons, List.length_nil, List.cons_append, List.nil_append, cond_true, cond_false, Bool.cond_true, reduceCtorEq, Option.map_some, Option.map_none, forall_const, ne_eq, implies_true, Nat.reduceAdd, Nat.reduceLeDiff, Nat.reduceLT, Nat.beq, Option.isNone_none, beq_self_eq_true, bne_self_eq_false, Int.reduceBEq, Int.reduceBNe, Int.reduceLT, Int.reduceLE, Int.reduceGT, Int.reduceGE, Int.reduceEq, Int.reduceNe, Int.reduceToNat, List.take_zero, List.drop_zero, List.all_cons, List.all_nil, List.append_nil, List.length_append, List.length_set, List.append_assoc, List.drop_nil, List.take_nil, tmod_nat, e2'] <;> try simp -dsimp only [if_conj])
            exact ⟨by omega, hK _ _ k3 (.inl ⟨rfl, rfl⟩)⟩
          rw [if_neg (not_not_intro e2)] at htab
          have e2' : decide (((d.left % n : Nat) : Int) > 0) = false := by simp [e2]
          (simp +contextual -dsimp only [R11, evA, evB, ↓a_on_t, ↓a_on_f, ↓a_on_und, ↓a_cond_b, ↓reduceIte, Go.Ab.part, List.getD_cons_zero, List.getD_cons_succ, List.set_cons_zero, List.set_cons_succ, List.length_cons, List.length_nil, List.cons_append, List.nil_append, cond_true, cond_false, Bool.cond_true, reduceCtorEq, Option.map_some, Option.map_none, forall_const, ne_eq, implies_true, Nat.reduceAdd, Nat.reduceLeDiff, Nat.reduceLT, Nat.beq, Option.isNone_none, beq_self_eq_true, bne_self_eq_false, Int.reduceBEq, Int.reduceBNe, Int.reduceLT, Int.reduceLE, Int.reduceGT, Int.reduceGE, Int.reduceEq, Int.reduceNe, Int.reduceToNat, List.take_zero, List.drop_zero, List.all_cons, List.all_nil, List.append_nil, List.length_append, List.length_set, List.append_assoc, List.drop_nil, List.take_nil, tmod_nat, e2'] <;> try simp -dsimp only [if_conj])
          refine ⟨by omega, ?_⟩
          have rcc : ∀ c : Cur, rc c = .o 1 [.z (byt c.b) c.b.length, I c.p, I c.e] := fun _ => rfl
          rw [rcc] at gc3 gc4
          (simp +contextual -dsimp only [R11, evA, evB, ↓a_on_t, ↓a_on_f, ↓a_on_und, ↓a_cond_b, ↓reduceIte, Go.Ab.part, List.getD_cons_zero, List.getD_cons_succ, List.set_cons_zero, List.set_cons_succ, List.length_cons, List.length_nil, List.cons_append, List.nil_append, cond_true, cond_false, Bool.cond_true, reduceCtorEq, Option.map_some, Option.map_none, forall_const, ne_eq, implies_true, Nat.reduceAdd, Nat.reduceLeDiff, Nat.reduceLT, Nat.beq, Option.isNone_none, beq_self_eq_true, bne_self_eq_false, Int.reduceBEq, Int.reduceBNe, Int.reduceLT, Int.reduceLE, Int.reduceGT, Int.reduceGE, Int.reduceEq, Int.reduceNe, Int.reduceToNat, List.take_zero, List.drop_zero, List.all_cons, List.all_nil, List.append_nil, List.length_append, List.length_set, List.append_assoc, List.drop_nil, List.take_nil, gc3, rcc] <;> try simp -dsimp only [if_conj])
          apply both
          · intro fin
            refine rLeft_ok gb3 hdi ?_
            (simp +contextual -dsimp only [R11, evA, evB, ↓a_on_t, ↓a_on_f, ↓a_on_und, ↓a_cond_b, ↓reduceIte, Go.Ab.part, List.getD_cons_zero, List.getD_cons_succ, List.set_cons_zero, List.set_cons_succ, List.length_cons, List.length_nil, List.cons_append, List.nil_append, cond_true, cond_false, Bool.cond_true, reduceCtorEq, Option.map_some, Option.map_none, forall_const, ne_eq, implies_true, Nat.reduceAdd, Nat.reduceLeDiff, Nat.reduceLT, Nat.beq, Option.isNone_none, beq_self_eq_true, bne_self_eq_false, Int.reduceBEq, Int.reduceBNe, Int.reduceLT, Int.reduceLE, Int.reduceGT, Int.reduceGE, Int.reduceEq, Int.reduceNe, Int.reduceToNat, List.take_zero, List.drop_zero, List.all_cons, List.all_nil, List.append_nil, List.length_append, List.length_set, List.append_assoc, List.drop_nil, List.take_nil, gc3, gc4, hw1, hw2, hget_new, hset_new, setAt, fill] <;> try simp -dsimp only [if_conj])
            exact fin
          · intro fin
            (simp +contextual -dsimp only [R11, evA, evB, ↓a_on_t, ↓a_on_f, ↓a_on_und, ↓a_cond_b, ↓reduceIte, Go.Ab.part, List.getD_cons_zero, List.getD_cons_succ, List.set_cons_zero, List.set_cons_succ, List.length_cons, List.length_nil, List.cons_append, List.nil_append, cond_true, cond_false, Bool.cond_true, reduceCtorEq, Option.map_some, Option.map_none, forall_const, ne_eq, implies_true, Nat.reduceAdd, Nat.reduceLeDiff, Nat.reduceLT, Nat.beq, Option.isNone_none, beq_self_eq_true, bne_self_eq_false, Int.reduceBEq, Int.reduceBNe, Int.reduceLT, Int.reduceLE, Int.reduceGT, Int.reduceGE, Int.reduceEq, Int.reduceNe, Int.reduceToNat, List.take_zero, List.drop_zero, List.all_cons, List.all_nil, List.append_nil, List.length_append, List.length_set, List.append_assoc, List.drop_nil, List.take_nil, gc3, gc4] <;> try simp -dsimp only [if_conj])
            refine rLeft_ok (gb4 _) hdi ?_
            (simp +contextual -dsimp only [R11, evA, evB, ↓a_on_t, ↓a_on_f, ↓a_on_und, ↓a_cond_b, ↓reduceIte, Go.Ab.part, List.getD_cons_zero, List.getD_cons_succ, List.set_cons_zero, List.set_cons_succ, List.length_cons, List.length_nil, List.cons_append, List.nil_append, cond_true, cond_false, Bool.cond_true, reduceCtorEq, Option.map_some, Option.map_none, forall_const, ne_eq, implies_true, Nat.reduceAdd, Nat.reduceLeDiff, Nat.reduceLT, Nat.beq, Option.isNone_none, beq_self_eq_true, bne_self_eq_false, Int.reduceBEq, Int.reduceBNe, Int.reduceLT, Int.reduceLE, Int.reduceGT, Int.reduceGE, Int.reduceEq, Int.reduceNe, Int.reduceToNat, List.take_zero, List.drop_zero, List.all_cons, List.all_nil, List.append_nil, List.length_append, List.length_set, List.append_assoc, List.drop_nil, List.take_nil, gc3, gc4, hw1, hw2, hget_new, hset_new, setAt, fill] <;> try simp -dsimp only [if_conj])
            exact fin
          have h34 := hlt go4' (by simp)
          refine aloop (fun m st => ∃ (q : Nat) (x : AV) (h5 : Heap), m + q = d.left / n ∧ h5.getD h3.length .dead = .o 1 [Bo c.bd.1, U (c.bd.2.1.p - d.left : Nat), x] ∧ IsD 1 (nums (numsAt (n) (d.b.drop d.p) q)) q x h5 ∧
              (∀ i o l, x = .s i o l → h3.length < i) ∧ h5.getD idb .dead = rc ⟨d.b, d.p + q * n, 0⟩ ∧ h5.getD h.length .dead = rc c.bd.2.1 ∧ h5.getD ido .dead = .o 3 (tabs acc) ∧ Keeps h h5 ∧ h3.length < h5.length ∧
              st = ((.z (byt t) t.length :: Bo addrs :: sl st.1 2 :: sl st.1 3 :: sl st.1 4 :: sl st.1 5 :: .p h.length 0 :: .s ido 0 acc.length :: .p idb 0 :: Bo c.bd.1 :: sl st.1 10 :: sl st.1 11 :: I n :: sl st.1 13 :: .p h3.length 0 :: sl st.1 15 :: sl st.1 16 :: sl st.1 17 :: sl st.1 18 :: sl st.1 19 :: sl st.1 20 :: sl st.1 21 :: sl st.1 22 :: sl st.1 23 :: sl st.1 24 :: sl st.1 25 :: sl st.1 26 :: sl st.1 27 :: sl st.1 28 :: sl st.1 29 :: sl st.1 30 :: sl st.1 31 :: sl st.1 32 :: sl st.1 33 :: sl st.1 34 :: sl st.1 35 :: sl st.1 36 :: sl st.1 37 :: sl st.1 38 :: sl st.1 39 :: sl st.1 40 :: sl st.1 41 :: sl st.1 42 :: sl st.1 43 :: sl st.1 44 :: sl st.1 45 :: sl st.1 46 :: sl st.1 47 :: sl st.1 48 :: sl st.1 49 :: sl st.1 50 :: sl st.1 51 :: sl st.1 52 :: sl st.1 53 :: sl st.1 54 :: sl st.1 55 :: sl st.1 56 :: sl st.1 57 :: sl st.1 58 :: sl st.1 59 :: sl st.1 60 :: sl st.1 61 :: sl st.1 62 :: sl st.1 63 :: sl st.1 64 :: sl st.1 65 :: sl st.1 66 :: sl st.1 67 :: sl st.1 68 :: sl st.1 69 :: sl st.1 70 :: sl st.1 71 :: sl st.1 72 :: sl st.1 73 :: sl st.1 74 :: sl st.1 75 :: sl st.1 76 :: sl st.1 77 :: sl st.1 78 :: sl st.1 79 :: sl st.1 80 :: sl st.1 81 :: sl st.1 82 :: sl st.1 83 :: sl st.1 84 :: sl st.1 85 :: sl st.1 86 :: sl st.1 87 :: []), h5)) (d.left / n)
            _ (by have := k4 (.o 1 [Bo c.bd.1, U (c.bd.2.1.p - d.left : Nat), .v (.slice none 0 0)]) |>.len; exact this) (Weak.refl _ (by have := k4 (.o 1 [Bo c.bd.1, U (c.bd.2.1.p - d.left : Nat), .v (.slice none 0 0)]) |>.len; exact this))
            ⟨0, _, _, by omega, hget_new, .inl ⟨rfl, rfl, rfl⟩, by simp, by rw [Nat.zero_mul, Nat.add_zero, ← he0]; exact gb4 _, gc4 _, go4 _, k4 _, by simp, rfl⟩ ?_
          rintro m2 st2 ⟨q, x, h5, hmq, gt5, hx5, hxi, gb5, gc5, go5, k5, l5, hst2⟩
          rw [hst2]
          (simp +contextual -dsimp only [R11, evA, evB, ↓a_on_t, ↓a_on_f, ↓a_on_und, ↓a_cond_b, ↓reduceIte, Go.Ab.part, List.getD_cons_zero, List.getD_cons_succ, List.set_cons_zero, List.set_cons_succ, List.length_cons, List.length_nil, List.cons_append, List.nil_append, cond_true, cond_false, Bool.cond_true, reduceCtorEq, Option.map_some, Option.map_none, forall_const, ne_eq, implies_true, Nat.reduceAdd, Nat.reduceLeDiff, Nat.reduceLT, Nat.beq, Option.isNone_none, beq_self_eq_true, bne_self_eq_false, Int.reduceBEq, Int.reduceBNe, Int.reduceLT, Int.reduceLE, Int.reduceGT, Int.reduceGE, Int.reduceEq, Int.reduceNe, Int.reduceToNat, List.take_zero, List.drop_zero, List.all_cons, List.all_nil, List.append_nil, List.length_append, List.length_set, List.append_assoc, List.drop_nil, List.take_nil] <;> try simp -dsimp only [if_conj])
          have hQ : d.left / n * n = d.left := Nat.div_mul_cancel (Nat.dvd_of_mod_eq_zero e2)
          have hqQ : q * n ≤ d.left / n * n := Nat.mul_le_mul_right _ (by omega)
          have hdb30 : d.b.length ≤ 300000 := by rw [hdb]; omega
          have hdb5 := hdi.b
          have hiq : (⟨d.b, d.p + q * n, 0⟩ : Cur).inv := Cur.mki (by omega) hdb5
          refine rLeft_ok gb5 hiq ?_
          rw [left_at]
          generalize hQQ : d.left / n = Q at *
          by_cases hz2 : m2 = 0
          · have hqe : q = Q := by omega
            subst hqe
            have hz2' : decide (((d.b.length - (d.p + q * n) : Nat) : Int) > 0) = false := by simp; omega
            have l5' := hlt gt5 (by simp)
            have lo5 := hlt go5 (by simp)
            have et : ∀ (x : AV) (y : AV) (z : AV), List.take 3 [x, y, z] = [x, y, z] := fun _ _ _ => rfl
            have eA : (tabs acc).take (acc.length * 3) = tabs acc := List.take_of_length_le (by rw [tabs, rows_len Tab.row_len]; exact Nat.le_refl _)
            have hx1 : x.one = true := by rcases hx5 with ⟨rfl, _⟩ | ⟨i, rfl, _⟩ <;> rfl
            have hno : ¬ h5.length = ido := by omega
            have tl : (tabs acc).length = acc.length * 3 := rows_len Tab.row_len acc
            (simp +contextual -dsimp only [R11, evA, evB, ↓a_on_t, ↓a_on_f, ↓a_on_und, ↓a_cond_b, ↓reduceIte, Go.Ab.part, List.getD_cons_zero, List.getD_cons_succ, List.set_cons_zero, List.set_cons_succ, List.length_cons, List.length_nil, List.cons_append, List.nil_append, cond_true, cond_false, Bool.cond_true, reduceCtorEq, Option.map_some, Option.map_none, forall_const, ne_eq, implies_true, Nat.reduceAdd, Nat.reduceLeDiff, Nat.reduceLT, Nat.beq, Option.isNone_none, beq_self_eq_true, bne_self_eq_false, Int.reduceBEq, Int.reduceBNe, Int.reduceLT, Int.reduceLE, Int.reduceGT, Int.reduceGE, Int.reduceEq, Int.reduceNe, Int.reduceToNat, List.take_zero, List.drop_zero, List.all_cons, List.all_nil, List.append_nil, List.length_append, List.length_set, List.append_assoc, List.drop_nil, List.take_nil, hz2', gt5, go5, hget_app gt5, hget_app go5, hget_new, et, eA, hx1] <;> try simp -dsimp only [if_conj])
            rw [htab, if_neg (by simp)] at e0
            have k5l := k5.len
            have ka : ∀ a b, Keeps h ((h5 ++ [a]).set ido .dead ++ [b]) := fun a b => (k5.trans (Keeps.adds Adds.mk)).push (by omega)
            refine ⟨⟨by omega, by omega, hno⟩, fun e3 => ?_, fun e3 => ?_⟩
            · rw [if_pos (by simp at e3; omega)] at e0
              rw [e0] at hK
              exact hK _ _ (ka _ _) (.inl ⟨rfl, rfl⟩)
            · rw [if_neg (by simp at e3; omega)] at e0
              have hxo : ∀ j, (j ≤ h3.length ∨ h5.length ≤ j) → otherS x j := fun j hj i o l hxe => by
                have a1 := hxi _ _ _ hxe
                rcases hx5 with ⟨rfl, _⟩ | ⟨i', rfl, gi, _⟩
                · cases hxe
                · cases hxe; have := hlt gi (by simp); omega
              have hx6 : ∀ a b, IsD 1 (nums (numsAt n (d.b.drop d.p) q)) q x ((h5 ++ [a]).set ido .dead ++ [b]) := fun a b => by
                rcases hx5 with h0 | ⟨i, rfl, gi, hil⟩
                · exact .inl h0
                · have a1 := hxi _ _ _ rfl
                  exact .inr ⟨i, rfl, ap_keep gi (by simp) (by rintro rfl; rw [gi] at go5; cases go5), hil⟩
              have g6 : ((h5 ++ [AO.o 3 [Bo c.bd.1, U (c.bd.2.1.p - d.left : Nat), x]]).set ido .dead ++ [AO.o 3 (tabs acc ++ [Bo c.bd.1, U (c.bd.2.1.p - d.left : Nat), x])]).getD (h5.length + 1) .dead = .o 3 ((tabs acc ++ [Bo c.bd.1, U (c.bd.2.1.p - d.left : Nat)]) ++ [x]) := by
                rw [ap_get]; simp
              obtain ⟨h7, W, g7, l7, o7⟩ := weak_item (X := X) (n := h.length) (tm := (.z (byt t) t.length :: Bo addrs :: .bad :: .bad :: .bad :: .bad :: .p h.length 0 :: .s (h5.length + 1) 0 (acc.length + 1) :: .bad :: .bad :: .bad :: .bad :: .bad :: .bad :: .bad :: .bad :: .bad :: .bad :: .bad :: .bad :: .bad :: .bad :: .bad :: .bad :: .bad :: .bad :: .bad :: .bad :: .bad :: .bad :: .bad :: .bad :: .bad :: .bad :: .bad :: .bad :: .bad :: .bad :: .bad :: .bad :: .bad :: .bad :: .bad :: .bad :: .bad :: .bad :: .bad :: .bad :: .bad :: .bad :: .bad :: .bad :: .bad :: .bad :: .bad :: .bad :: .bad :: .bad :: .bad :: .bad :: .bad :: .bad :: .bad :: .bad :: .bad :: .bad :: .bad :: .bad :: .bad :: .bad :: .bad :: .bad :: .bad :: .bad :: .bad :: .bad :: .bad :: .bad :: .bad :: .bad :: .bad :: .bad :: .bad :: .bad :: .bad :: .bad :: .bad :: .bad :: [])) g6 (hx6 _ _) (hxo _ (.inr (by omega)))
                (by rw [flats_app, tabs, flats_rows (fun t => by simp [Tab.row, flats, AV.flat, flats_nums])]; rfl) (by simp; omega)
                (fun g hg => by simp [frzs, frz, frzs_flat (flats_byt t), hg _ (hxo h.length (.inl (by omega))), hg _ (hxo (h5.length + 1) (.inr (by omega)))])
              have k7 : Keeps h h7 := ⟨by rw [l7]; exact (ka _ _).len, fun {j} hj => by rw [o7 j (by omega) (hxo _ (.inl (by omega)))]; exact (ka _ _).get hj⟩
              have hca : c.left = c.b.length - c.p := by unfold Cur.left; rw [if_pos hce]
              have hcb2 : c.bd.2.1.left = c.b.length - c.bd.2.1.p := by unfold Cur.left; rw [if_pos g2, g5]
              refine ⟨m - 1, ((.z (byt t) t.length :: Bo addrs :: .bad :: .bad :: .bad :: .bad :: .p h.length 0 :: .s (h5.length + 1) 0 (acc.length + 1) :: .bad :: .bad :: .bad :: .bad :: .bad :: .bad :: .bad :: .bad :: .bad :: .bad :: .bad :: .bad :: .bad :: .bad :: .bad :: .bad :: .bad :: .bad :: .bad :: .bad :: .bad :: .bad :: .bad :: .bad :: .bad :: .bad :: .bad :: .bad :: .bad :: .bad :: .bad :: .bad :: .bad :: .bad :: .bad :: .bad :: .bad :: .bad :: .bad :: .bad :: .bad :: .bad :: .bad :: .bad :: .bad :: .bad :: .bad :: .bad :: .bad :: .bad :: .bad :: .bad :: .bad :: .bad :: .bad :: .bad :: .bad :: .bad :: .bad :: .bad :: .bad :: .bad :: .bad :: .bad :: .bad :: .bad :: .bad :: .bad :: .bad :: .bad :: .bad :: .bad :: .bad :: .bad :: .bad :: .bad :: .bad :: .bad :: .bad :: .bad :: []), h7), by omega, Weak.trans (weak_slots (by simp; omega) (by simp [SeeL, See])) W (Nat.le_refl _), c.bd.2.1, acc ++ [⟨c.bd.1, c.bd.2.1.p - d.left, numsAt n (d.b.drop d.p) q⟩], h7, h5.length + 1, by omega, by rw [g5, hcb], g2, bd_inv hi, k7, by omega, ?_, ?_, by simp at e3 ⊢; omega, ?_, by rw [List.length_append]; rfl⟩
              · rw [o7 _ (by omega) (hxo _ (.inl (by omega)))]; exact ap_keep gc5 (rc_ne _) (by omega)
              · rw [g7, show tabs (acc ++ [⟨c.bd.1, c.bd.2.1.p - d.left, numsAt n (d.b.drop d.p) q⟩]) = tabs acc ++ Tab.row ⟨c.bd.1, c.bd.2.1.p - d.left, numsAt n (d.b.drop d.p) q⟩ from rows_snoc _ _]; simp [Tab.row, numsAt_len]
              · rw [show m - 1 + 1 = m by omega]; exact e0
          · have hq1 : (q + 1) * n ≤ Q * n := Nat.mul_le_mul_right _ (by omega)
            rw [Nat.succ_mul] at hq1
            have hz2' : decide (((d.b.length - (d.p + q * n) : Nat) : Int) > 0) = true := by simp; omega
            have lb5 := hlt gb5 (rc_ne _)
            (simp +contextual -dsimp only [R11, evA, evB, ↓a_on_t, ↓a_on_f, ↓a_on_und, ↓a_cond_b, ↓reduceIte, Go.Ab.part, List.getD_cons_zero, List.getD_cons_succ, List.set_cons_zero, List.set_cons_succ, List.length_cons, List.length_nil, List.cons_append, List.nil_append, cond_true, cond_false, Bool.cond_true, reduceCtorEq, Option.map_some, Option.map_none, forall_const, ne_eq, implies_true, Nat.reduceAdd, Nat.reduceLeDiff, Nat.reduceLT, Nat.beq, Option.isNone_none, beq_self_eq_true, bne_self_eq_false, Int.reduceBEq, Int.reduceBNe, Int.reduceLT, Int.reduceLE, Int.reduceGT, Int.reduceGE, Int.reduceEq, Int.reduceNe, Int.reduceToNat, List.take_zero, List.drop_zero, List.all_cons, List.all_nil, List.append_nil, List.length_append, List.length_set, List.append_assoc, List.drop_nil, List.take_nil, hz2', gt5] <;> try simp -dsimp only [if_conj])
            refine rUint_ok gb5 hiq ?_
            rw [wid_nat hn8, Cur.skips (by omega), Cur.gots (by omega)]
            have lt5 := hlt gt5 (by simp)
            have gt6 : (h5.set idb (rc ⟨d.b, d.p + q * n + n, 0⟩)).getD h3.length .dead = .o 1 [Bo c.bd.1, U (c.bd.2.1.p - d.left : Nat), x] := by rw [hget_set_ne (by omega)]; exact gt5
            have gb6 : (h5.set idb (rc ⟨d.b, d.p + q * n + n, 0⟩)).getD idb .dead = rc ⟨d.b, d.p + q * n + n, 0⟩ := hget_set lb5
            have gc6 : (h5.set idb (rc ⟨d.b, d.p + q * n + n, 0⟩)).getD h.length .dead = rc c.bd.2.1 := by rw [hget_set_ne (by omega)]; exact gc5
            have go6 : (h5.set idb (rc ⟨d.b, d.p + q * n + n, 0⟩)).getD ido .dead = .o 3 (tabs acc) := by rw [hget_set_ne (by omega)]; exact go5
            have k6 : Keeps h (h5.set idb (rc ⟨d.b, d.p + q * n + n, 0⟩)) := Keeps.set' k5 (by omega)
            have hx6 : IsD 1 (nums (numsAt n (d.b.drop d.p) q)) q x (h5.set idb (rc ⟨d.b, d.p + q * n + n, 0⟩)) := by
              rcases hx5 with h0 | ⟨i, rfl, gi, hil⟩
              · exact .inl h0
              · have := hxi _ _ _ rfl
                exact .inr ⟨i, rfl, by rw [hget_set_ne (by omega)]; exact gi, hil⟩
            have l6 : (h5.set idb (rc ⟨d.b, d.p + q * n + n, 0⟩)).length = h5.length := by simp
            generalize h5.set idb (rc ⟨d.b, d.p + q * n + n, 0⟩) = h6 at *
            have ev : le ((d.b.drop (d.p + q * n)).take n) = le (((d.b.drop d.p).drop (q * n)).take n) := by rw [List.drop_drop]
            rw [ev]
            have k6l := k6.len
            have et : ∀ x : AV, List.take 1 [x] = [x] := fun _ => rfl
            rcases hx6 with ⟨rfl, hn0, rfl⟩ | ⟨i, rfl, gi, hil⟩
            · have e1 : (1 : Nat) = 0 + 1 := rfl
              have hv : [U (le ((d.b.drop d.p).take n) : Nat)] = nums (numsAt n (d.b.drop d.p) (0 + 1)) := by rw [numsAt_succ, ← nums_snoc, hn0, Nat.zero_mul, List.drop_zero]; rfl
              (simp +contextual -dsimp only [R11, evA, evB, ↓a_on_t, ↓a_on_f, ↓a_on_und, ↓a_cond_b, ↓reduceIte, Go.Ab.part, List.getD_cons_zero, List.getD_cons_succ, List.set_cons_zero, List.set_cons_succ, List.length_cons, List.length_nil, List.cons_append, List.nil_append, cond_true, cond_false, Bool.cond_true, reduceCtorEq, Option.map_some, Option.map_none, forall_const, ne_eq, implies_true, Nat.reduceAdd, Nat.reduceLeDiff, Nat.reduceLT, Nat.beq, Option.isNone_none, beq_self_eq_true, bne_self_eq_false, Int.reduceBEq, Int.reduceBNe, Int.reduceLT, Int.reduceLE, Int.reduceGT, Int.reduceGE, Int.reduceEq, Int.reduceNe, Int.reduceToNat, List.take_zero, List.drop_zero, List.all_cons, List.all_nil, List.append_nil, List.length_append, List.length_set, List.append_assoc, List.drop_nil, List.take_nil, gt6, hget_app gt6, hget_new, et] <;> try simp -dsimp only [if_conj])
              exact ⟨by omega, m2 - 1, _, by omega, Weak.refl _ (by simp; omega), 0 + 1, _, _, by omega, hget_set (by simp; omega),
                .inr ⟨h6.length + 1, rfl, by rw [hget_set_ne (by omega), hget_new1, hv], by rw [nums_len, numsAt_len]⟩, fun i o l e => by cases e; omega,
                by rw [hget_set_ne (by omega), hget_app gb6 (rc_ne _), Nat.succ_mul, ← Nat.add_assoc], by rw [hget_set_ne (by omega), hget_app gc6 (rc_ne _)], by rw [hget_set_ne (by omega), hget_app go6 (by simp)],
                Keeps.set' (k6.trans (Keeps.adds Adds.mk)) (by omega), by simp; omega, rfl⟩
            · have hv : nums (numsAt n (d.b.drop d.p) q) ++ [U (le (((d.b.drop d.p).drop (q * n)).take n) : Nat)] = nums (numsAt n (d.b.drop d.p) (q + 1)) := by rw [numsAt_succ, ← nums_snoc]
              have hi3 := hxi _ _ _ rfl
              have hq8 : q ≤ q * n := Nat.le_mul_of_pos_right _ hnp
              have hli := hlt gi (by simp)
              have eA : (nums (numsAt n (d.b.drop d.p) q)).take q = nums (numsAt n (d.b.drop d.p) q) := List.take_of_length_le (by rw [nums_len, numsAt_len]; exact Nat.le_refl _)
              have hni : ¬ h6.length = i := by omega
              have gtx : ∀ a b, ((h6 ++ [a]).set i .dead ++ [b]).getD h3.length .dead = .o 1 [Bo c.bd.1, U (c.bd.2.1.p - d.left : Nat), .s i 0 q] := fun a b => ap_keep gt6 (by simp) (by omega)
              (simp +contextual -dsimp only [R11, evA, evB, ↓a_on_t, ↓a_on_f, ↓a_on_und, ↓a_cond_b, ↓reduceIte, Go.Ab.part, List.getD_cons_zero, List.getD_cons_succ, List.set_cons_zero, List.set_cons_succ, List.length_cons, List.length_nil, List.cons_append, List.nil_append, cond_true, cond_false, Bool.cond_true, reduceCtorEq, Option.map_some, Option.map_none, forall_const, ne_eq, implies_true, Nat.reduceAdd, Nat.reduceLeDiff, Nat.reduceLT, Nat.beq, Option.isNone_none, beq_self_eq_true, bne_self_eq_false, Int.reduceBEq, Int.reduceBNe, Int.reduceLT, Int.reduceLE, Int.reduceGT, Int.reduceGE, Int.reduceEq, Int.reduceNe, Int.reduceToNat, List.take_zero, List.drop_zero, List.all_cons, List.all_nil, List.append_nil, List.length_append, List.length_set, List.append_assoc, List.drop_nil, List.take_nil, gt6, hget_app gt6, hget_app gi, hget_new, et, eA, hv, gtx] <;> try simp -dsimp only [if_conj])
              exact ⟨⟨by omega, by rw [nums_len, numsAt_len]; exact Nat.le_refl _, hni⟩, m2 - 1, _, by omega, Weak.refl _ (by simp; omega), q + 1, _, _, by omega, hget_set (by simp; omega),
                .inr ⟨h6.length + 1, rfl, by rw [hget_set_ne (by omega)]; exact ap_get, by rw [nums_len, numsAt_len, Nat.mul_one]⟩, fun i o l e => by cases e; omega,
                by rw [hget_set_ne (by omega), Nat.succ_mul, ← Nat.add_assoc]; exact ap_keep gb6 (rc_ne _) (by omega), by rw [hget_set_ne (by omega)]; exact ap_keep gc6 (rc_ne _) (by omega), by rw [hget_set_ne (by omega)]; exact ap_keep go6 (by simp) (by omega),
                Keeps.set' ((k6.trans (Keeps.adds Adds.mk)).push (by omega)) (by omega), by simp; omega, rfl⟩
      · rw [if_pos hg] at htab
        rw [htab] at e0
        simp only [ne_eq, Int.reduceEq, not_false_eq_true, if_true] at e0
        rw [e0] at hK
        cases addrs
        · have ea : tabHead false = 0 := rfl
          (simp +contextual -dsimp only [R11, evA, evB, ↓a_on_t, ↓a_on_f, ↓a_on_und, ↓a_cond_b, ↓reduceIte, Go.Ab.part, List.getD_cons_zero, List.getD_cons_succ, List.set_cons_zero, List.set_cons_succ, List.length_cons, List.length_nil, List.cons_append, List.nil_append, cond_true, cond_false, Bool.cond_true, reduceCtorEq, Option.map_some, Option.map_none, forall_const, ne_eq, implies_true, Nat.reduceAdd, Nat.reduceLeDiff, Nat.reduceLT, Nat.beq, Option.isNone_none, beq_self_eq_true, bne_self_eq_false, Int.reduceBEq, Int.reduceBNe, Int.reduceLT, Int.reduceLE, Int.reduceGT, Int.reduceGE, Int.reduceEq, Int.reduceNe, Int.reduceToNat, List.take_zero, List.drop_zero, List.all_cons, List.all_nil, List.append_nil, List.length_append, List.length_set, List.append_assoc, List.drop_nil, List.take_nil, gb3, rc, e1'] <;> try simp -dsimp only [if_conj])
          refine rOff_ok ?_
          (simp +contextual -dsimp only [R11, evA, evB, ↓a_on_t, ↓a_on_f, ↓a_on_und, ↓a_cond_b, ↓reduceIte, Go.Ab.part, List.getD_cons_zero, List.getD_cons_succ, List.set_cons_zero, List.set_cons_succ, List.length_cons, List.length_nil, List.cons_append, List.nil_append, cond_true, cond_false, Bool.cond_true, reduceCtorEq, Option.map_some, Option.map_none, forall_const, ne_eq, implies_true, Nat.reduceAdd, Nat.reduceLeDiff, Nat.reduceLT, Nat.beq, Option.isNone_none, beq_self_eq_true, bne_self_eq_false, Int.reduceBEq, Int.reduceBNe, Int.reduceLT, Int.reduceLE, Int.reduceGT, Int.reduceGE, Int.reduceEq, Int.reduceNe, Int.reduceToNat, List.take_zero, List.drop_zero, List.all_cons, List.all_nil, List.append_nil, List.length_append, List.length_set, List.append_assoc, List.drop_nil, List.take_nil] <;> try simp -dsimp only [if_conj])
          refine ⟨fun h1 => hK _ _ k3 (.inl ⟨rfl, rfl⟩), fun h1 => ⟨fun h2 => hK _ _ k3 (.inl ⟨rfl, rfl⟩), fun h2 => ?_⟩⟩
          simp at h1 h2; omega
        · have ea : tabHead true = 8 := rfl
          (simp +contextual -dsimp only [R11, evA, evB, ↓a_on_t, ↓a_on_f, ↓a_on_und, ↓a_cond_b, ↓reduceIte, Go.Ab.part, List.getD_cons_zero, List.getD_cons_succ, List.set_cons_zero, List.set_cons_succ, List.length_cons, List.length_nil, List.cons_append, List.nil_append, cond_true, cond_false, Bool.cond_true, reduceCtorEq, Option.map_some, Option.map_none, forall_const, ne_eq, implies_true, Nat.reduceAdd, Nat.reduceLeDiff, Nat.reduceLT, Nat.beq, Option.isNone_none, beq_self_eq_true, bne_self_eq_false, Int.reduceBEq, Int.reduceBNe, Int.reduceLT, Int.reduceLE, Int.reduceGT, Int.reduceGE, Int.reduceEq, Int.reduceNe, Int.reduceToNat, List.take_zero, List.drop_zero, List.all_cons, List.all_nil, List.append_nil, List.length_append, List.length_set, List.append_assoc, List.drop_nil, List.take_nil, gb3, rc, e1'] <;> try simp -dsimp only [if_conj])
          refine ⟨fun h1 => hK _ _ k3 (.inl ⟨rfl, rfl⟩), fun h1 => ⟨fun h2 => hK _ _ k3 (.inl ⟨rfl, rfl⟩), fun h2 => ?_⟩⟩
          simp at h1 h2; omega
    · have e1' : (((c.bd.2.2.skip 2).skip 2).e != 0) = true := by simp [e1]
      (simp +contextual -dsimp only [R11, evA, evB, ↓a_on_t, ↓a_on_f, ↓a_on_und, ↓a_cond_b, ↓reduceIte, Go.Ab.part, List.getD_cons_zero, List.getD_cons_succ, List.set_cons_zero, List.set_cons_succ, List.length_cons, List.length_nil, List.cons_append, List.nil_append, cond_true, cond_false, Bool.cond_true, reduceCtorEq, Option.map_some, Option.map_none, forall_const, ne_eq, implies_true, Nat.reduceAdd, Nat.reduceLeDiff, Nat.reduceLT, Nat.beq, Option.isNone_none, beq_self_eq_true, bne_self_eq_false, Int.reduceBEq, Int.reduceBNe, Int.reduceLT, Int.reduceLE, Int.reduceGT, Int.reduceGE, Int.reduceEq, Int.reduceNe, Int.reduceToNat, List.take_zero, List.drop_zero, List.all_cons, List.all_nil, List.append_nil, List.length_append, List.length_set, List.append_assoc, List.drop_nil, List.take_nil, gb3, rc, e1'] <;> try simp -dsimp only [if_conj])
      rw [if_pos (by rw [tab_e e1]; exact e1), tab_e e1] at e0
      rw [e0] at hK
      exact hK _ _ k3 (.inl ⟨rfl, rfl⟩)
end Go.Proofs.YtlngajfpplebmaaDoor
