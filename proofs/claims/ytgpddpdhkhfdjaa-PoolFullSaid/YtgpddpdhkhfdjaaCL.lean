import Derived.Test.YtgpddpdhkhfdjaaCK
set_option linter.unusedVariables false
set_option linter.unusedSimpArgs false
set_option maxRecDepth 100000
set_option maxHeartbeats 1000000
namespace Go.Proofs.Ytgpddpdhkhfdjaa
open Go.Ab
variable {h : Heap} {K : Kt}

def sI (i : Nat) : List UInt8 := List.replicate 190 120 ++ [UInt8.ofNat (97 + i % 26), UInt8.ofNat (97 + i / 26)]
def lI (k : Nat) : List (List UInt8) := (List.range k).map sI
theorem sI_len (i : Nat) : (sI i).length = 192 := by simp [sI]
theorem txt_self : ∀ s : List UInt8, (∀ b ∈ s, b ≠ 0) → txt s = s
  | [], _ => rfl
  | b :: s, h => by rw [txt_cons, if_neg (h b (List.mem_cons_self ..)), txt_self s fun c hc => h c (List.mem_cons_of_mem _ hc)]
theorem ofNat_ne {n : Nat} (h1 : 0 < n) (h2 : n < 256) : UInt8.ofNat n ≠ 0 := fun e => by
  have := congrArg UInt8.toNat e
  rw [UInt8.toNat_ofNat_of_lt' (by simpa [UInt8.size] using h2)] at this
  simp at this; omega
theorem sI_right {i : Nat} (h : i < 345) : right (sI i) := by
  have ht : txt (sI i) = sI i := txt_self _ fun b hb => by
    unfold sI at hb
    rcases List.mem_append.1 hb with h0 | h0
    · rw [(List.mem_replicate.1 h0).2]; decide
    · simp only [List.mem_cons, List.not_mem_nil, or_false] at h0
      rcases h0 with rfl | rfl
      · exact ofNat_ne (by omega) (by omega)
      · exact ofNat_ne (by omega) (by omega)
  exact ⟨by rw [ht], by rw [sI_len]; omega⟩
theorem sI_inj {i j : Nat} (hi : i < 345) (hj : j < 345) (e : sI i = sI j) : i = j := by
  unfold sI at e
  have e2 := List.append_cancel_left e
  simp only [List.cons.injEq, and_true] at e2
  obtain ⟨a, b⟩ := e2
  have a := congrArg UInt8.toNat a
  have b := congrArg UInt8.toNat b
  rw [UInt8.toNat_ofNat_of_lt' (by simp [UInt8.size]; omega), UInt8.toNat_ofNat_of_lt' (by simp [UInt8.size]; omega)] at a b
  omega
theorem lI_succ (k : Nat) : lI (k + 1) = lI k ++ [sI k] := by simp [lI, List.range_succ]
theorem lI_len (k : Nat) : (lI k).length = k := by simp [lI]
theorem lI_cat : ∀ k : Nat, (cat (lI k)).length = 193 * k
  | 0 => rfl
  | k + 1 => by rw [lI_succ, cat_snoc, List.length_append, List.length_append, lI_cat k, sI_len, List.length_singleton]; omega
theorem lI_right {k : Nat} (h : k ≤ 345) : ∀ x ∈ lI k, right x := fun x hx => by
  obtain ⟨i, hi, rfl⟩ := List.mem_map.1 hx
  exact sI_right (by have := List.mem_range.1 hi; omega)
theorem place_none : ∀ (L : List (List UInt8)) (o : Nat) (s : List UInt8), s ∉ L → placeOf o L s = none
  | [], _, _, _ => rfl
  | x :: l, o, s, h => by
    unfold placeOf
    rw [if_neg (fun e => h (by rw [e]; exact List.mem_cons_self ..))]
    exact place_none l _ s fun h2 => h (List.mem_cons_of_mem _ h2)
theorem addR_I {k i : Nat} (hk : k ≤ i) (hi : i < 345) : addR (lI k) (sI i) = if 193 * k + 193 > 65536 then ((0, 3), lI k) else ((193 * k, 0), lI k ++ [sI i]) := by
  have hn : placeOf 0 (lI k) (sI i) = none := place_none _ _ _ fun hm => by
    obtain ⟨j, hj, e⟩ := List.mem_map.1 hm
    have hj := List.mem_range.1 hj
    have := sI_inj (by omega) hi e; omega
  unfold addR
  rw [if_neg (not_not_intro (show (txt (sI i)).length = (sI i).length ∧ (sI i).length ≤ 200 from sI_right hi)), hn, lI_cat, sI_len]
theorem full_ok {n : Int} {ask : List UInt8} (h1 : -9223372036854775808 ≤ n) (h2 : n < 9223372036854775808) : ACall X 4 [I n, .v (.string (mkStr ask))] [] (.c (fun r _ => r = Bo true) ()) := by
  have hbig : (6000000 : Nat) ≤ bigRoom := by decide
  apply i4
  (simp +contextual -dsimp only [R4, evA, evB, ↓a_on_t, ↓a_on_f, ↓a_on_und, ↓a_cond_b, ↓reduceIte, Go.Ab.part, List.getD_cons_zero, List.getD_cons_succ, List.set_cons_zero, List.set_cons_succ, List.length_cons, List.length_nil, List.cons_append, List.nil_append, cond_true, cond_false, Bool.cond_true, reduceCtorEq, Option.map_some, Option.map_none, forall_const, ne_eq, implies_true, Nat.reduceAdd, Nat.reduceLeDiff, Nat.reduceLT, Nat.beq, Option.isNone_none, beq_self_eq_true, bne_self_eq_false, Int.reduceBEq, Int.reduceBNe, Int.reduceLT, Int.reduceLE, Int.reduceGT, Int.reduceGE, Int.reduceEq, Int.reduceNe, Int.reduceToNat, List.take_zero, List.drop_zero, List.all_cons, List.all_nil, List.append_nil, List.length_append, List.length_set, List.append_assoc, List.drop_nil, List.take_nil] <;> try simp -dsimp only [if_conj])
  refine New04_ok ?_
  (simp +contextual -dsimp only [R4, evA, evB, ↓a_on_t, ↓a_on_f, ↓a_on_und, ↓a_cond_b, ↓reduceIte, Go.Ab.part, List.getD_cons_zero, List.getD_cons_succ, List.set_cons_zero, List.set_cons_succ, List.length_cons, List.length_nil, List.cons_append, List.nil_append, cond_true, cond_false, Bool.cond_true, reduceCtorEq, Option.map_some, Option.map_none, forall_const, ne_eq, implies_true, Nat.reduceAdd, Nat.reduceLeDiff, Nat.reduceLT, Nat.beq, Option.isNone_none, beq_self_eq_true, bne_self_eq_false, Int.reduceBEq, Int.reduceBNe, Int.reduceLT, Int.reduceLE, Int.reduceGT, Int.reduceGE, Int.reduceEq, Int.reduceNe, Int.reduceToNat, List.take_zero, List.drop_zero, List.all_cons, List.all_nil, List.append_nil, List.length_append, List.length_set, List.append_assoc, List.drop_nil, List.take_nil, fill] <;> try simp -dsimp only [if_conj])
  refine aloop (fun m st => ∃ q, m + q = 19 ∧ st = ((I n :: .v (.string (mkStr ask)) :: sl st.1 2 :: sl st.1 3 :: sl st.1 4 :: .p 1 0 :: .p 2 0 :: .v (.string (mkStr (List.replicate (10 * q) 120))) :: sl st.1 8 :: sl st.1 9 :: sl st.1 10 :: sl st.1 11 :: sl st.1 12 :: sl st.1 13 :: sl st.1 14 :: sl st.1 15 :: sl st.1 16 :: sl st.1 17 :: sl st.1 18 :: sl st.1 19 :: sl st.1 20 :: sl st.1 21 :: sl st.1 22 :: sl st.1 23 :: sl st.1 24 :: sl st.1 25 :: sl st.1 26 :: sl st.1 27 :: sl st.1 28 :: sl st.1 29 :: sl st.1 30 :: sl st.1 31 :: sl st.1 32 :: sl st.1 33 :: sl st.1 34 :: sl st.1 35 :: sl st.1 36 :: sl st.1 37 :: sl st.1 38 :: sl st.1 39 :: sl st.1 40 :: sl st.1 41 :: sl st.1 42 :: sl st.1 43 :: sl st.1 44 :: sl st.1 45 :: sl st.1 46 :: sl st.1 47 :: sl st.1 48 :: sl st.1 49 :: sl st.1 50 :: sl st.1 51 :: sl st.1 52 :: sl st.1 53 :: sl st.1 54 :: sl st.1 55 :: sl st.1 56 :: sl st.1 57 :: sl st.1 58 :: sl st.1 59 :: sl st.1 60 :: sl st.1 61 :: sl st.1 62 :: sl st.1 63 :: sl st.1 64 :: sl st.1 65 :: sl st.1 66 :: sl st.1 67 :: sl st.1 68 :: sl st.1 69 :: sl st.1 70 :: sl st.1 71 :: sl st.1 72 :: sl st.1 73 :: sl st.1 74 :: sl st.1 75 :: sl st.1 76 :: sl st.1 77 :: sl st.1 78 :: sl st.1 79 :: sl st.1 80 :: sl st.1 81 :: sl st.1 82 :: sl st.1 83 :: sl st.1 84 :: sl st.1 85 :: sl st.1 86 :: sl st.1 87 :: sl st.1 88 :: sl st.1 89 :: sl st.1 90 :: sl st.1 91 :: sl st.1 92 :: sl st.1 93 :: sl st.1 94 :: sl st.1 95 :: sl st.1 96 :: sl st.1 97 :: sl st.1 98 :: sl st.1 99 :: sl st.1 100 :: sl st.1 101 :: sl st.1 102 :: sl st.1 103 :: sl st.1 104 :: sl st.1 105 :: sl st.1 106 :: sl st.1 107 :: sl st.1 108 :: sl st.1 109 :: sl st.1 110 :: sl st.1 111 :: sl st.1 112 :: sl st.1 113 :: sl st.1 114 :: sl st.1 115 :: sl st.1 116 :: sl st.1 117 :: sl st.1 118 :: sl st.1 119 :: sl st.1 120 :: sl st.1 121 :: sl st.1 122 :: sl st.1 123 :: sl st.1 124 :: sl st.1 125 :: sl st.1 126 :: sl st.1 127 :: sl st.1 128 :: []), [.m [], .o 1 [.m 0, .v (.slice none 0 0)], .o 1 [.v (.slice none 0 0)]])) 19
    _ (Nat.zero_le _) (Weak.refl _ (Nat.zero_le _)) ⟨0, by omega, rfl⟩ ?_
  rintro m st ⟨q, hm, hst⟩
  rw [hst]
  by_cases hz : q < 19
  · have hz' : decide (((10 * q : Nat) : Int) < 190) = true := by simp; omega
    have hx : (⟨#[120, 120, 120, 120, 120, 120, 120, 120, 120, 120]⟩ : ByteArray) = mkStr (List.replicate 10 120) := rfl
    (simp +contextual -dsimp only [R4, evA, evB, ↓a_on_t, ↓a_on_f, ↓a_on_und, ↓a_cond_b, ↓reduceIte, Go.Ab.part, List.getD_cons_zero, List.getD_cons_succ, List.set_cons_zero, List.set_cons_succ, List.length_cons, List.length_nil, List.cons_append, List.nil_append, cond_true, cond_false, Bool.cond_true, reduceCtorEq, Option.map_some, Option.map_none, forall_const, ne_eq, implies_true, Nat.reduceAdd, Nat.reduceLeDiff, Nat.reduceLT, Nat.beq, Option.isNone_none, beq_self_eq_true, bne_self_eq_false, Int.reduceBEq, Int.reduceBNe, Int.reduceLT, Int.reduceLE, Int.reduceGT, Int.reduceGE, Int.reduceEq, Int.reduceNe, Int.reduceToNat, List.take_zero, List.drop_zero, List.all_cons, List.all_nil, List.append_nil, List.length_append, List.length_set, List.append_assoc, List.drop_nil, List.take_nil, mkStr_size, List.length_replicate, hz', hx, mkStr_append, List.replicate_append_replicate] <;> try simp -dsimp only [if_conj])
    exact ⟨by omega, m - 1, _, by omega, Weak.refl _ (Nat.zero_le _), q + 1, by omega, by rw [Nat.mul_succ]; rfl⟩
  · have hz' : decide (((10 * q : Nat) : Int) < 190) = false := by simp; omega
    have hq : q = 19 := by omega
    subst hq
    obtain ⟨M, hM, hM2⟩ : ∃ M : Nat, (IntKind.u64.wrap n).tmod 20 = (M : Int) ∧ M < 20 := by
      rw [wrap_u64_eq]
      refine ⟨(n % 18446744073709551616 % 20).toNat, ?_, by omega⟩
      rw [Int.tmod_eq_emod_of_nonneg (by omega)]; omega
    have hM3 : IntKind.i64.wrap (M : Int) = (M : Int) := wrap_i64 (by omega) (by omega)
    have hM4 : IntKind.i64.wrap (325 + (M : Int)) = ((325 + M : Nat) : Int) := by rw [wrap_i64 (by omega) (by omega)]; omega
    (simp +contextual -dsimp only [R4, evA, evB, ↓a_on_t, ↓a_on_f, ↓a_on_und, ↓a_cond_b, ↓reduceIte, Go.Ab.part, List.getD_cons_zero, List.getD_cons_succ, List.set_cons_zero, List.set_cons_succ, List.length_cons, List.length_nil, List.cons_append, List.nil_append, cond_true, cond_false, Bool.cond_true, reduceCtorEq, Option.map_some, Option.map_none, forall_const, ne_eq, implies_true, Nat.reduceAdd, Nat.reduceLeDiff, Nat.reduceLT, Nat.beq, Option.isNone_none, beq_self_eq_true, bne_self_eq_false, Int.reduceBEq, Int.reduceBNe, Int.reduceLT, Int.reduceLE, Int.reduceGT, Int.reduceGE, Int.reduceEq, Int.reduceNe, Int.reduceToNat, List.take_zero, List.drop_zero, List.all_cons, List.all_nil, List.append_nil, List.length_append, List.length_set, List.append_assoc, List.drop_nil, List.take_nil, mkStr_size, List.length_replicate, hz', hM, hM3, hM4] <;> try simp -dsimp only [if_conj])
    have h345 : 325 + M < 345 := by omega
    refine aloop (fun m st => ∃ i k tab ls h1, m + i = 325 + M ∧ k = min i 339 ∧ IsPool (lI k) 1 0 tab h1 ∧ IsP (lI k) 2 ls h1 ∧
        st = ((sl st.1 0 :: .v (.string (mkStr ask)) :: sl st.1 2 :: sl st.1 3 :: sl st.1 4 :: .p 1 0 :: .p 2 0 :: .v (.string (mkStr (List.replicate 190 120))) :: sl st.1 8 :: sl st.1 9 :: sl st.1 10 :: sl st.1 11 :: sl st.1 12 :: sl st.1 13 :: sl st.1 14 :: sl st.1 15 :: sl st.1 16 :: sl st.1 17 :: sl st.1 18 :: sl st.1 19 :: sl st.1 20 :: sl st.1 21 :: sl st.1 22 :: sl st.1 23 :: sl st.1 24 :: sl st.1 25 :: sl st.1 26 :: sl st.1 27 :: sl st.1 28 :: sl st.1 29 :: I (325 + M : Nat) :: I i :: sl st.1 32 :: sl st.1 33 :: sl st.1 34 :: sl st.1 35 :: sl st.1 36 :: sl st.1 37 :: sl st.1 38 :: sl st.1 39 :: sl st.1 40 :: sl st.1 41 :: sl st.1 42 :: sl st.1 43 :: sl st.1 44 :: sl st.1 45 :: sl st.1 46 :: sl st.1 47 :: sl st.1 48 :: sl st.1 49 :: sl st.1 50 :: sl st.1 51 :: sl st.1 52 :: sl st.1 53 :: sl st.1 54 :: sl st.1 55 :: sl st.1 56 :: sl st.1 57 :: sl st.1 58 :: sl st.1 59 :: sl st.1 60 :: sl st.1 61 :: sl st.1 62 :: sl st.1 63 :: sl st.1 64 :: sl st.1 65 :: sl st.1 66 :: sl st.1 67 :: sl st.1 68 :: sl st.1 69 :: sl st.1 70 :: sl st.1 71 :: sl st.1 72 :: sl st.1 73 :: sl st.1 74 :: sl st.1 75 :: sl st.1 76 :: sl st.1 77 :: sl st.1 78 :: sl st.1 79 :: sl st.1 80 :: sl st.1 81 :: sl st.1 82 :: sl st.1 83 :: sl st.1 84 :: sl st.1 85 :: sl st.1 86 :: sl st.1 87 :: sl st.1 88 :: sl st.1 89 :: sl st.1 90 :: sl st.1 91 :: sl st.1 92 :: sl st.1 93 :: sl st.1 94 :: sl st.1 95 :: sl st.1 96 :: sl st.1 97 :: sl st.1 98 :: sl st.1 99 :: sl st.1 100 :: sl st.1 101 :: sl st.1 102 :: sl st.1 103 :: sl st.1 104 :: sl st.1 105 :: sl st.1 106 :: sl st.1 107 :: sl st.1 108 :: sl st.1 109 :: sl st.1 110 :: sl st.1 111 :: sl st.1 112 :: sl st.1 113 :: sl st.1 114 :: sl st.1 115 :: sl st.1 116 :: sl st.1 117 :: sl st.1 118 :: sl st.1 119 :: sl st.1 120 :: sl st.1 121 :: sl st.1 122 :: sl st.1 123 :: sl st.1 124 :: sl st.1 125 :: sl st.1 126 :: sl st.1 127 :: sl st.1 128 :: []), h1)) (325 + M)
      _ (Nat.zero_le _) (Weak.refl _ (Nat.zero_le _)) ⟨0, 0, .v (.slice none 0 0), .v (.slice none 0 0), [.m [], .o 1 [.m 0, .v (.slice none 0 0)], .o 1 [.v (.slice none 0 0)]], by omega, rfl, ⟨rfl, rfl, .inl ⟨rfl, rfl⟩⟩, ⟨rfl, .inl ⟨rfl, rfl⟩⟩, rfl⟩ ?_
    rintro m st ⟨i, k, tab, ls, h1, hm, hk, ip, ir, hst⟩
    rw [hst]
    by_cases hz2 : i < 325 + M
    · have hi : i < 345 := by omega
      have hz2' : decide ((i : Int) < ((325 + M : Nat) : Int)) = true := by simp; omega
      have hi1 : IntKind.i64.wrap ((i : Int) + 1) = ((i + 1 : Nat) : Int) := by rw [wrap_i64 (by omega) (by omega)]; rfl
      have w1 : IntKind.i64.wrap (97 + (i : Int).tmod 26) = ((97 + i % 26 : Nat) : Int) := by rw [show (26 : Int) = ((26 : Nat) : Int) from rfl, tmod_nat, wrap_i64 (by omega) (by omega)]; omega
      have w2 : IntKind.i64.wrap ((i : Int).tdiv 26) = ((i / 26 : Nat) : Int) := by rw [show (26 : Int) = ((26 : Nat) : Int) from rfl, tdiv_nat, wrap_i64 (by omega) (by omega)]
      have w3 : IntKind.i64.wrap (97 + ((i / 26 : Nat) : Int)) = ((97 + i / 26 : Nat) : Int) := by rw [wrap_i64 (by omega) (by omega)]; omega
      have w4 : IntKind.u8.wrap ((97 + i % 26 : Nat) : Int) = ((97 + i % 26 : Nat) : Int) := by rw [wrap_u8_eq]; omega
      have w5 : IntKind.u8.wrap ((97 + i / 26 : Nat) : Int) = ((97 + i / 26 : Nat) : Int) := by rw [wrap_u8_eq]; omega
      have hb : ([AV.v (.int .u8 ((97 + i % 26 : Nat) : Int)), .v (.int .u8 ((97 + i / 26 : Nat) : Int))] : List AV) = byt [UInt8.ofNat (97 + i % 26), UInt8.ofNat (97 + i / 26)] := by
        simp only [byt, List.map_cons, List.map_nil]
        rw [UInt8.toNat_ofNat_of_lt' (by simp [UInt8.size]; omega), UInt8.toNat_ofNat_of_lt' (by simp [UInt8.size]; omega)]
      (simp +contextual -dsimp only [R4, evA, evB, ↓a_on_t, ↓a_on_f, ↓a_on_und, ↓a_cond_b, ↓reduceIte, Go.Ab.part, List.getD_cons_zero, List.getD_cons_succ, List.set_cons_zero, List.set_cons_succ, List.length_cons, List.length_nil, List.cons_append, List.nil_append, cond_true, cond_false, Bool.cond_true, reduceCtorEq, Option.map_some, Option.map_none, forall_const, ne_eq, implies_true, Nat.reduceAdd, Nat.reduceLeDiff, Nat.reduceLT, Nat.beq, Option.isNone_none, beq_self_eq_true, bne_self_eq_false, Int.reduceBEq, Int.reduceBNe, Int.reduceLT, Int.reduceLE, Int.reduceGT, Int.reduceGE, Int.reduceEq, Int.reduceNe, Int.reduceToNat, List.take_zero, List.drop_zero, List.all_cons, List.all_nil, List.append_nil, List.length_append, List.length_set, List.append_assoc, List.drop_nil, List.take_nil, hz2', w1, w2, w3, w4, w5, fill, setAt, hget_new, hb, mkStr_append, mkStr_size, List.length_replicate] <;> try simp -dsimp only [if_conj])
      refine ⟨by decide, ?_⟩
      rw [show List.replicate 190 120 ++ [UInt8.ofNat (97 + i % 26), UInt8.ofNat (97 + i / 26)] = sI i from rfl]
      have k2 : Keeps h1 (h1 ++ [AO.o 1 (byt [UInt8.ofNat (97 + i % 26), UInt8.ofNat (97 + i / 26)])]) := Keeps.adds Adds.mk
      have ip2 := ip.keeps k2
      have ir2 := ir.keeps k2
      generalize h1 ++ [AO.o 1 (byt [UInt8.ofNat (97 + i % 26), UInt8.ofNat (97 + i / 26)])] = h2 at *
      refine pAdd_ok ip2 (by rw [lI_cat]; omega) (by rw [sI_len]; omega) fun h3 tab3 ip3 o3 q3 => ?_
      have ap := apart ip2 ir2
      have ir3 := p_only ir2 ap o3 (ap_ls ap)
      rw [addR_I (by omega) hi] at ip3 ⊢
      by_cases hsm : i < 339
      · have hki : k = i := by omega
        subst hki
        rw [if_neg (by omega), ← lI_succ] at ip3
        rw [if_neg (by omega)]
        have v1 : IntKind.u64.wrap (k : Int) = (k : Nat) := wrap_u64 (by omega) (by omega)
        have v2 : IntKind.u64.wrap ((k : Int) * 193) = ((193 * k : Nat) : Int) := by rw [wrap_u64 (by omega) (by omega)]; omega
        have hl3 : 2 < h3.length := by have := hlt ir3.p (by simp); exact this
        rcases ir3.s with ⟨rfl, e0⟩ | ⟨lid, rfl, gl⟩
        · (simp +contextual -dsimp only [R4, evA, evB, ↓a_on_t, ↓a_on_f, ↓a_on_und, ↓a_cond_b, ↓reduceIte, Go.Ab.part, List.getD_cons_zero, List.getD_cons_succ, List.set_cons_zero, List.set_cons_succ, List.length_cons, List.length_nil, List.cons_append, List.nil_append, cond_true, cond_false, Bool.cond_true, reduceCtorEq, Option.map_some, Option.map_none, forall_const, ne_eq, implies_true, Nat.reduceAdd, Nat.reduceLeDiff, Nat.reduceLT, Nat.beq, Option.isNone_none, beq_self_eq_true, bne_self_eq_false, Int.reduceBEq, Int.reduceBNe, Int.reduceLT, Int.reduceLE, Int.reduceGT, Int.reduceGE, Int.reduceEq, Int.reduceNe, Int.reduceToNat, List.take_zero, List.drop_zero, List.all_cons, List.all_nil, List.append_nil, List.length_append, List.length_set, List.append_assoc, List.drop_nil, List.take_nil, v1, v2, ir3.p, fill, setAt, hget_new, hget_app ir3.p, hi1] <;> try simp -dsimp only [if_conj])
          have hk0 : k = 0 := by have := congrArg List.length e0; rw [lI_len] at this; exact this
          subst hk0
          refine ⟨⟨by omega, rfl⟩, m - 1, _, by omega, Weak.refl _ (Nat.zero_le _), 1, 1, tab3, .s (h3.length + 1) 0 1, _, by omega, by omega, ?_, ⟨hget_set (by simp; omega), .inr ⟨h3.length + 1, rfl, by rw [hget_set_ne (by omega), hget_new1]; rfl⟩⟩, rfl⟩
          refine r_only ip3 (apart ip3 ir3) ⟨by simp, fun j hj h2 _ => ?_⟩
          rw [hget_set_ne (Ne.symm h2), Adds.mk.at hj]
        · have et : ∀ x : AV, List.take 1 [x] = [x] := fun _ => rfl
          have eA : (strs (lI k)).take (lI k).length = strs (lI k) := List.take_of_length_le (by rw [strs_len]; exact Nat.le_refl _)
          have hne : lid ≠ 2 := fun e => by
            rw [e, ir3.p] at gl
            cases hL : lI k <;> rw [hL] at gl <;> simp [strs] at gl
          have gpx : ∀ a b, ((h3 ++ [a]).set lid .dead ++ [b]).getD 2 .dead = .o 1 [.s lid 0 (lI k).length] := fun a b => ap_keep ir3.p (by simp) hne
          (simp +contextual -dsimp only [R4, evA, evB, ↓a_on_t, ↓a_on_f, ↓a_on_und, ↓a_cond_b, ↓reduceIte, Go.Ab.part, List.getD_cons_zero, List.getD_cons_succ, List.set_cons_zero, List.set_cons_succ, List.length_cons, List.length_nil, List.cons_append, List.nil_append, cond_true, cond_false, Bool.cond_true, reduceCtorEq, Option.map_some, Option.map_none, forall_const, ne_eq, implies_true, Nat.reduceAdd, Nat.reduceLeDiff, Nat.reduceLT, Nat.beq, Option.isNone_none, beq_self_eq_true, bne_self_eq_false, Int.reduceBEq, Int.reduceBNe, Int.reduceLT, Int.reduceLE, Int.reduceGT, Int.reduceGE, Int.reduceEq, Int.reduceNe, Int.reduceToNat, List.take_zero, List.drop_zero, List.all_cons, List.all_nil, List.append_nil, List.length_append, List.length_set, List.append_assoc, List.drop_nil, List.take_nil, v1, v2, ir3.p, fill, setAt, hget_new, hget_app ir3.p, hget_app gl, et, eA, strs_snoc, gpx, hi1] <;> try simp -dsimp only [if_conj])
          have hlid := hlt gl (by simp)
          have hn : (lI k).length + 1 = (lI (k + 1)).length := by rw [lI_len, lI_len]
          rw [hn, ← lI_succ]
          refine ⟨⟨by rw [← hn, lI_len]; omega, by rw [strs_len]; exact Nat.le_refl _, by omega⟩, m - 1, _, by omega, Weak.refl _ (Nat.zero_le _), k + 1, k + 1, tab3, .s (h3.length + 1) 0 (lI (k + 1)).length, _, by omega, by omega, ?_, ⟨hget_set (by simp; omega), .inr ⟨h3.length + 1, rfl, by rw [hget_set_ne (by omega)]; exact ap_get⟩⟩, rfl⟩
          refine r_only ip3 (apart ip3 ir3) ⟨by simp; omega, fun j hj h2 h3' => ?_⟩
          have hjl : lid ≠ j := h3' _ _ _ rfl
          rw [hget_set_ne (Ne.symm h2), List.getD_eq_getElem?_getD, List.getElem?_append_left (by simp; omega), List.getElem?_set_ne hjl, ← List.getD_eq_getElem?_getD, Adds.mk.at (by omega)]
      · rw [if_pos (by omega)] at ip3 ⊢
        have v3 : IntKind.i64.wrap (((i + 1 : Nat) : Int) * 193) = (((i + 1) * 193 : Nat) : Int) := by rw [wrap_i64 (by omega) (by omega)]; omega
        have v4 : decide ((((i + 1) * 193 : Nat) : Int) ≤ 65536) = false := by simp; omega
        (simp +contextual -dsimp only [R4, evA, evB, ↓a_on_t, ↓a_on_f, ↓a_on_und, ↓a_cond_b, ↓reduceIte, Go.Ab.part, List.getD_cons_zero, List.getD_cons_succ, List.set_cons_zero, List.set_cons_succ, List.length_cons, List.length_nil, List.cons_append, List.nil_append, cond_true, cond_false, Bool.cond_true, reduceCtorEq, Option.map_some, Option.map_none, forall_const, ne_eq, implies_true, Nat.reduceAdd, Nat.reduceLeDiff, Nat.reduceLT, Nat.beq, Option.isNone_none, beq_self_eq_true, bne_self_eq_false, Int.reduceBEq, Int.reduceBNe, Int.reduceLT, Int.reduceLE, Int.reduceGT, Int.reduceGE, Int.reduceEq, Int.reduceNe, Int.reduceToNat, List.take_zero, List.drop_zero, List.all_cons, List.all_nil, List.append_nil, List.length_append, List.length_set, List.append_assoc, List.drop_nil, List.take_nil, hi1, v3, v4] <;> try simp -dsimp only [if_conj])
        exact ⟨m - 1, _, by omega, Weak.refl _ (Nat.zero_le _), i + 1, k, tab3, ls, h3, by omega, by omega, ip3, ir3, rfl⟩
    · have hz2' : decide ((i : Int) < ((325 + M : Nat) : Int)) = false := by simp; omega
      by_cases ha : ask.length ≤ 300
      · have ha' : decide ((ask.length : Int) > 300) = false := by simp; omega
        (simp +contextual -dsimp only [R4, evA, evB, ↓a_on_t, ↓a_on_f, ↓a_on_und, ↓a_cond_b, ↓reduceIte, Go.Ab.part, List.getD_cons_zero, List.getD_cons_succ, List.set_cons_zero, List.set_cons_succ, List.length_cons, List.length_nil, List.cons_append, List.nil_append, cond_true, cond_false, Bool.cond_true, reduceCtorEq, Option.map_some, Option.map_none, forall_const, ne_eq, implies_true, Nat.reduceAdd, Nat.reduceLeDiff, Nat.reduceLT, Nat.beq, Option.isNone_none, beq_self_eq_true, bne_self_eq_false, Int.reduceBEq, Int.reduceBNe, Int.reduceLT, Int.reduceLE, Int.reduceGT, Int.reduceGE, Int.reduceEq, Int.reduceNe, Int.reduceToNat, List.take_zero, List.drop_zero, List.all_cons, List.all_nil, List.append_nil, List.length_append, List.length_set, List.append_assoc, List.drop_nil, List.take_nil, hz2', mkStr_size, ha'] <;> try simp -dsimp only [if_conj])
        refine pAdd_ok ip (by rw [lI_cat]; omega) (by omega) fun h3 tab3 ip3 o3 q3 => ?_
        have ap := apart ip ir
        have ir3 := p_only ir ap o3 (ap_ls ap)
        (simp +contextual -dsimp only [R4, evA, evB, ↓a_on_t, ↓a_on_f, ↓a_on_und, ↓a_cond_b, ↓reduceIte, Go.Ab.part, List.getD_cons_zero, List.getD_cons_succ, List.set_cons_zero, List.set_cons_succ, List.length_cons, List.length_nil, List.cons_append, List.nil_append, cond_true, cond_false, Bool.cond_true, reduceCtorEq, Option.map_some, Option.map_none, forall_const, ne_eq, implies_true, Nat.reduceAdd, Nat.reduceLeDiff, Nat.reduceLT, Nat.beq, Option.isNone_none, beq_self_eq_true, bne_self_eq_false, Int.reduceBEq, Int.reduceBNe, Int.reduceLT, Int.reduceLE, Int.reduceGT, Int.reduceGE, Int.reduceEq, Int.reduceNe, Int.reduceToNat, List.take_zero, List.drop_zero, List.all_cons, List.all_nil, List.append_nil, List.length_append, List.length_set, List.append_assoc, List.drop_nil, List.take_nil] <;> try simp -dsimp only [if_conj])
        refine rpAdd_ok ir3 (lI_right (by omega)) (by rw [lI_cat]; omega) (by omega) fun h4 ls4 ir4 o4 q4 => ?_
        have ip4 := r_only ip3 (apart ip3 ir3) o4
        have hlen4 := isS_len ir4.s
        (simp +contextual -dsimp only [R4, evA, evB, ↓a_on_t, ↓a_on_f, ↓a_on_und, ↓a_cond_b, ↓reduceIte, Go.Ab.part, List.getD_cons_zero, List.getD_cons_succ, List.set_cons_zero, List.set_cons_succ, List.length_cons, List.length_nil, List.cons_append, List.nil_append, cond_true, cond_false, Bool.cond_true, reduceCtorEq, Option.map_some, Option.map_none, forall_const, ne_eq, implies_true, Nat.reduceAdd, Nat.reduceLeDiff, Nat.reduceLT, Nat.beq, Option.isNone_none, beq_self_eq_true, bne_self_eq_false, Int.reduceBEq, Int.reduceBNe, Int.reduceLT, Int.reduceLE, Int.reduceGT, Int.reduceGE, Int.reduceEq, Int.reduceNe, Int.reduceToNat, List.take_zero, List.drop_zero, List.all_cons, List.all_nil, List.append_nil, List.length_append, List.length_set, List.append_assoc, List.drop_nil, List.take_nil, ir4.p, hlen4] <;> try simp -dsimp only [if_conj])
        refine pCount_ok ip4 ?_
        (simp +contextual -dsimp only [R4, evA, evB, ↓a_on_t, ↓a_on_f, ↓a_on_und, ↓a_cond_b, ↓reduceIte, Go.Ab.part, List.getD_cons_zero, List.getD_cons_succ, List.set_cons_zero, List.set_cons_succ, List.length_cons, List.length_nil, List.cons_append, List.nil_append, cond_true, cond_false, Bool.cond_true, reduceCtorEq, Option.map_some, Option.map_none, forall_const, ne_eq, implies_true, Nat.reduceAdd, Nat.reduceLeDiff, Nat.reduceLT, Nat.beq, Option.isNone_none, beq_self_eq_true, bne_self_eq_false, Int.reduceBEq, Int.reduceBNe, Int.reduceLT, Int.reduceLE, Int.reduceGT, Int.reduceGE, Int.reduceEq, Int.reduceNe, Int.reduceToNat, List.take_zero, List.drop_zero, List.all_cons, List.all_nil, List.append_nil, List.length_append, List.length_set, List.append_assoc, List.drop_nil, List.take_nil, ir4.p, hlen4] <;> try simp -dsimp only [if_conj])
        refine works04_ok fun h5 k5 => ?_
        (simp +contextual -dsimp only [R4, evA, evB, ↓a_on_t, ↓a_on_f, ↓a_on_und, ↓a_cond_b, ↓reduceIte, Go.Ab.part, List.getD_cons_zero, List.getD_cons_succ, List.set_cons_zero, List.set_cons_succ, List.length_cons, List.length_nil, List.cons_append, List.nil_append, cond_true, cond_false, Bool.cond_true, reduceCtorEq, Option.map_some, Option.map_none, forall_const, ne_eq, implies_true, Nat.reduceAdd, Nat.reduceLeDiff, Nat.reduceLT, Nat.beq, Option.isNone_none, beq_self_eq_true, bne_self_eq_false, Int.reduceBEq, Int.reduceBNe, Int.reduceLT, Int.reduceLE, Int.reduceGT, Int.reduceGE, Int.reduceEq, Int.reduceNe, Int.reduceToNat, List.take_zero, List.drop_zero, List.all_cons, List.all_nil, List.append_nil, List.length_append, List.length_set, List.append_assoc, List.drop_nil, List.take_nil] <;> try simp -dsimp only [if_conj])
      · have ha' : decide ((ask.length : Int) > 300) = true := by simp; omega
        (simp +contextual -dsimp only [R4, evA, evB, ↓a_on_t, ↓a_on_f, ↓a_on_und, ↓a_cond_b, ↓reduceIte, Go.Ab.part, List.getD_cons_zero, List.getD_cons_succ, List.set_cons_zero, List.set_cons_succ, List.length_cons, List.length_nil, List.cons_append, List.nil_append, cond_true, cond_false, Bool.cond_true, reduceCtorEq, Option.map_some, Option.map_none, forall_const, ne_eq, implies_true, Nat.reduceAdd, Nat.reduceLeDiff, Nat.reduceLT, Nat.beq, Option.isNone_none, beq_self_eq_true, bne_self_eq_false, Int.reduceBEq, Int.reduceBNe, Int.reduceLT, Int.reduceLE, Int.reduceGT, Int.reduceGE, Int.reduceEq, Int.reduceNe, Int.reduceToNat, List.take_zero, List.drop_zero, List.all_cons, List.all_nil, List.append_nil, List.length_append, List.length_set, List.append_assoc, List.drop_nil, List.take_nil, hz2', mkStr_size, ha'] <;> try simp -dsimp only [if_conj])
        refine works04_ok fun h5 k5 => ?_
        (simp +contextual -dsimp only [R4, evA, evB, ↓a_on_t, ↓a_on_f, ↓a_on_und, ↓a_cond_b, ↓reduceIte, Go.Ab.part, List.getD_cons_zero, List.getD_cons_succ, List.set_cons_zero, List.set_cons_succ, List.length_cons, List.length_nil, List.cons_append, List.nil_append, cond_true, cond_false, Bool.cond_true, reduceCtorEq, Option.map_some, Option.map_none, forall_const, ne_eq, implies_true, Nat.reduceAdd, Nat.reduceLeDiff, Nat.reduceLT, Nat.beq, Option.isNone_none, beq_self_eq_true, bne_self_eq_false, Int.reduceBEq, Int.reduceBNe, Int.reduceLT, Int.reduceLE, Int.reduceGT, Int.reduceGE, Int.reduceEq, Int.reduceNe, Int.reduceToNat, List.take_zero, List.drop_zero, List.all_cons, List.all_nil, List.append_nil, List.length_append, List.length_set, List.append_assoc, List.drop_nil, List.take_nil] <;> try simp -dsimp only [if_conj])
end Go.Proofs.Ytgpddpdhkhfdjaa
