import Derived.Test.YtlfplmcidfflfaaCH
set_option linter.unusedVariables false
set_option linter.unusedSimpArgs false
set_option maxRecDepth 100000
namespace Go.Proofs.Ytlfplmcidfflfaa
open Go.Ab
variable {h : Heap} {K : Kt}

/-- a number without a sign, read -/
def uR (c : Cur) : Nat × Cur :=
  match rd 10 c with
  | (none, d) => (0, d)
  | (some l, d) => if 1 < l.getD 9 0 then (0, d.fail 11) else (vl l, d)
/-- the number of parts, with a sign -/
def vs (l : List Nat) : Int := if 64 ≤ l.getLastD 0 then (vl l : Int) - 128 ^ l.length else vl l
def sR (c : Cur) : Int × Cur :=
  match rd 10 c with
  | (none, d) => (0, d)
  | (some l, d) => if l.length = 10 ∧ l.getD 9 0 ≠ 0 ∧ l.getD 9 0 ≠ 127 then (0, d.fail 11) else (vs l, d)
theorem arr9 {l : List Nat} (hl : l.length ≤ 10) (hx : ∀ x ∈ l, x < 128) {i : Nat} (hi : i < 10) : (byt (arr l)).getD i .bad = .v (.int .u8 ((l.getD i 0 : Nat) : Int)) := by
  rw [byt_getD (by rw [arr_len hl]; exact hi)]
  congr 2
  unfold arr
  rw [List.getD_eq_getElem?_getD, List.getD_eq_getElem?_getD]
  by_cases h : i < l.length
  · rw [List.getElem?_append_left (by simpa using h), List.getElem?_map, List.getElem?_eq_getElem h]
    show ((UInt8.ofNat l[i]).toNat : Int) = _
    have : l[i] < 128 := hx _ (List.getElem_mem _)
    rw [UInt8.toNat_ofNat_of_lt' (by rw [show UInt8.size = 256 from rfl]; omega)]; rfl
  · rw [List.getElem?_append_right (by simp; omega), List.getElem?_replicate, List.getElem?_eq_none (by omega)]
    split <;> rfl
theorem getD_lt {l : List Nat} (hx : ∀ x ∈ l, x < 128) (i : Nat) : l.getD i 0 < 128 := by
  rw [List.getD_eq_getElem?_getD]
  by_cases h : i < l.length
  · rw [List.getElem?_eq_getElem h]; exact hx _ (List.getElem_mem _)
  · rw [List.getElem?_eq_none (by omega)]; decide
theorem vl_small {l : List Nat} (hl : l.length ≤ 10) (hx : ∀ x ∈ l, x < 128) (h9 : l.getD 9 0 ≤ 1) : vl l < 18446744073709551616 := by
  by_cases h : l.length ≤ 9
  · exact Nat.lt_of_lt_of_le (vl_lt hx) (Nat.le_trans (Nat.pow_le_pow_right (by decide) h) (by decide))
  · have e := take_last (l := l) (i := 9) (by omega)
    have h1 := vl_lt (l := l.take 9) fun x h => hx x (List.mem_of_mem_take h)
    rw [List.length_take, Nat.min_eq_left (by omega)] at h1
    rw [e, vl_append, List.length_take, Nat.min_eq_left (by omega)]
    simp only [vl]
    omega
/-- a contract on a cursor: what it tells, and where it stands then -/
abbrev Reads (h : Heap) (id : Nat) (c : Cur) (r : AV) (d : Cur) (K : Kt) : Prop :=
  ∀ h1, h1.getD id .dead = cur d → d.inv → (∀ j, j < h.length → j ≠ id → h1.getD j .dead = h.getD j .dead) → h.length ≤ h1.length → K.K r h1
theorem U_ok {c : Cur} {id : Nat} (hid : h.getD id .dead = cur c) (hi : c.inv) (hK : Reads h id c (U ((uR c).1 : Nat)) (uR c).2 K) : ACall X 13 [.p id 0] h K := by
  have hil := hlt hid (cur_ne c)
  apply i13
  (simp +contextual -dsimp only [R13, evA, evB, ↓a_on_t, ↓a_on_f, ↓a_on_und, ↓a_cond_b, ↓reduceIte, Go.Ab.part, List.getD_cons_zero, List.getD_cons_succ, List.set_cons_zero, List.set_cons_succ, List.length_cons, List.length_nil, List.cons_append, List.nil_append, cond_true, cond_false, Bool.cond_true, reduceCtorEq, Option.map_some, Option.map_none, forall_const, ne_eq, implies_true, Nat.reduceAdd, Nat.reduceLeDiff, Nat.reduceLT, Nat.beq, Option.isNone_none, beq_self_eq_true, bne_self_eq_false, Int.reduceBEq, Int.reduceBNe, Int.reduceLT, Int.reduceLE, Int.reduceGT, Int.reduceGE, Int.reduceEq, Int.reduceNe, Int.reduceToNat, List.take_zero, List.drop_zero, List.all_cons, List.all_nil, List.append_nil, List.length_append, List.length_set, List.append_assoc, List.drop_nil, List.take_nil] <;> try simp -dsimp only [if_conj])
  refine seven_ok hid hi (fun d ps h1 hr hp g1 g2 g3 g4 => ?_) (fun l d h1 hr g1 g2 g3 g4 => ?_)
  · have hu : uR c = (0, d) := by unfold uR; rw [hr]
    rw [hu] at hK
    have al : (byt ps).length = 10 := by rw [byt_length, hp]
    have bo := byt_one ps
    (simp +contextual -dsimp only [R13, evA, evB, ↓a_on_t, ↓a_on_f, ↓a_on_und, ↓a_cond_b, ↓reduceIte, Go.Ab.part, List.getD_cons_zero, List.getD_cons_succ, List.set_cons_zero, List.set_cons_succ, List.length_cons, List.length_nil, List.cons_append, List.nil_append, cond_true, cond_false, Bool.cond_true, reduceCtorEq, Option.map_some, Option.map_none, forall_const, ne_eq, implies_true, Nat.reduceAdd, Nat.reduceLeDiff, Nat.reduceLT, Nat.beq, Option.isNone_none, beq_self_eq_true, bne_self_eq_false, Int.reduceBEq, Int.reduceBNe, Int.reduceLT, Int.reduceLE, Int.reduceGT, Int.reduceGE, Int.reduceEq, Int.reduceNe, Int.reduceToNat, List.take_zero, List.drop_zero, List.all_cons, List.all_nil, List.append_nil, List.length_append, List.length_set, List.append_assoc, List.drop_nil, List.take_nil, hget_new, hset_new, al, bo] <;> try simp -dsimp only [if_conj])
    exact hK _ (hget_app g1 (cur_ne _)) g2 (fun j hj hj2 => (Adds.mk.at (by omega)).trans (g3 j hj hj2)) (by simp; omega)
  · obtain ⟨p1, p2, p3, p4⟩ := rd_prop 10 c l d hr
    have al : (byt (arr l)).length = 10 := by rw [byt_length, arr_len p1]
    have bo := byt_one (arr l)
    have at10 : (byt (arr l)).take 10 = byt (arr l) := List.take_of_length_le (by rw [al]; exact Nat.le_refl _)
    have sw : setAt ([AV.v (.int .u8 0), AV.v (.int .u8 0), AV.v (.int .u8 0), AV.v (.int .u8 0), AV.v (.int .u8 0), AV.v (.int .u8 0), AV.v (.int .u8 0), AV.v (.int .u8 0), AV.v (.int .u8 0), AV.v (.int .u8 0)]) 0 (byt (arr l)) = byt (arr l) := setAt_whole (by rw [al]; rfl)
    have a9 := arr9 p1 p3 (i := 9) (by decide)
    have h9 := getD_lt p3 9
    (simp +contextual -dsimp only [R13, evA, evB, ↓a_on_t, ↓a_on_f, ↓a_on_und, ↓a_cond_b, ↓reduceIte, Go.Ab.part, List.getD_cons_zero, List.getD_cons_succ, List.set_cons_zero, List.set_cons_succ, List.length_cons, List.length_nil, List.cons_append, List.nil_append, cond_true, cond_false, Bool.cond_true, reduceCtorEq, Option.map_some, Option.map_none, forall_const, ne_eq, implies_true, Nat.reduceAdd, Nat.reduceLeDiff, Nat.reduceLT, Nat.beq, Option.isNone_none, beq_self_eq_true, bne_self_eq_false, Int.reduceBEq, Int.reduceBNe, Int.reduceLT, Int.reduceLE, Int.reduceGT, Int.reduceGE, Int.reduceEq, Int.reduceNe, Int.reduceToNat, List.take_zero, List.drop_zero, List.all_cons, List.all_nil, List.append_nil, List.length_append, List.length_set, List.append_assoc, List.drop_nil, List.take_nil, hget_new, hset_new, al, bo, sw, a9, at10] <;> try simp -dsimp only [if_conj])
    refine ⟨by omega, fun hc => ?_, fun hc => ?_⟩
    · have hc : 1 < l.getD 9 0 := by have := of_decide_eq_true hc; omega
      have hu : uR c = (0, d.fail 11) := by unfold uR; rw [hr]; exact if_pos hc
      rw [hu] at hK
      refine Fail_ok (hget_app g1 (cur_ne _)) ?_
      (simp +contextual -dsimp only [R13, evA, evB, ↓a_on_t, ↓a_on_f, ↓a_on_und, ↓a_cond_b, ↓reduceIte, Go.Ab.part, List.getD_cons_zero, List.getD_cons_succ, List.set_cons_zero, List.set_cons_succ, List.length_cons, List.length_nil, List.cons_append, List.nil_append, cond_true, cond_false, Bool.cond_true, reduceCtorEq, Option.map_some, Option.map_none, forall_const, ne_eq, implies_true, Nat.reduceAdd, Nat.reduceLeDiff, Nat.reduceLT, Nat.beq, Option.isNone_none, beq_self_eq_true, bne_self_eq_false, Int.reduceBEq, Int.reduceBNe, Int.reduceLT, Int.reduceLE, Int.reduceGT, Int.reduceGE, Int.reduceEq, Int.reduceNe, Int.reduceToNat, List.take_zero, List.drop_zero, List.all_cons, List.all_nil, List.append_nil, List.length_append, List.length_set, List.append_assoc, List.drop_nil, List.take_nil] <;> try simp -dsimp only [if_conj])
      refine hK _ (hget_set (by simp; have := hlt g1 (cur_ne _); omega)) (g2.fail _) (fun j hj hj2 => ?_) (by simp; omega)
      rw [hget_set_ne (Ne.symm hj2), Adds.mk.at (by omega)]; exact g3 j hj hj2
    · have hc : ¬ 1 < l.getD 9 0 := fun h => hc (decide_eq_true (by omega))
      have hu : uR c = (vl l, d) := by unfold uR; rw [hr]; exact if_neg hc
      rw [hu] at hK
      refine whole_ok p1 p3 fun h2 k2 => ?_
      rw [Nat.mod_eq_of_lt (vl_small p1 p3 (by omega))]
      (simp +contextual -dsimp only [R13, evA, evB, ↓a_on_t, ↓a_on_f, ↓a_on_und, ↓a_cond_b, ↓reduceIte, Go.Ab.part, List.getD_cons_zero, List.getD_cons_succ, List.set_cons_zero, List.set_cons_succ, List.length_cons, List.length_nil, List.cons_append, List.nil_append, cond_true, cond_false, Bool.cond_true, reduceCtorEq, Option.map_some, Option.map_none, forall_const, ne_eq, implies_true, Nat.reduceAdd, Nat.reduceLeDiff, Nat.reduceLT, Nat.beq, Option.isNone_none, beq_self_eq_true, bne_self_eq_false, Int.reduceBEq, Int.reduceBNe, Int.reduceLT, Int.reduceLE, Int.reduceGT, Int.reduceGE, Int.reduceEq, Int.reduceNe, Int.reduceToNat, List.take_zero, List.drop_zero, List.all_cons, List.all_nil, List.append_nil, List.length_append, List.length_set, List.append_assoc, List.drop_nil, List.take_nil] <;> try simp -dsimp only [if_conj])
      exact hK _ (k2.at (hget_app g1 (cur_ne _)) (cur_ne _)) g2 (fun j hj hj2 => (k2.get (by simp; omega)).trans ((Adds.mk.at (by omega)).trans (g3 j hj hj2))) (by have := k2.len; simp at this; omega)
theorem ones {a n : Nat} (hn : n < 10) (ha : a < 128 ^ n) :
    abits .or .u64 (a : Int) (IntKind.u64.wrap (18446744073709551615 * 2 ^ min (Int.toNat (7 * (n : Int))) IntKind.u64.bits)) = ((a + (2 ^ 64 - 128 ^ n) : Nat) : Int) := by
  have e8 : (128 : Nat) ^ n = 2 ^ (7 * n) := by rw [Nat.pow_mul]
  have hb : min (Int.toNat (7 * (n : Int))) IntKind.u64.bits = 7 * n := by
    simp only [IntKind.bits]; omega
  rw [e8] at ha
  have hp : (2 : Nat) ^ (7 * n) ≤ 2 ^ 63 := Nat.pow_le_pow_right (by decide) (by omega)
  have hp0 : 0 < (2 : Nat) ^ (7 * n) := Nat.two_pow_pos _
  have hsp : (2 : Nat) ^ 64 = 2 ^ (64 - 7 * n) * 2 ^ (7 * n) := by rw [← Nat.pow_add]; congr 1; omega
  have hy : 2 ^ 64 - 2 ^ (7 * n) = (2 ^ (64 - 7 * n) - 1) * 2 ^ (7 * n) := by rw [Nat.sub_mul, Nat.one_mul, ← hsp]
  rw [hb, e8]
  have ew : IntKind.u64.wrap ((18446744073709551615 : Int) * 2 ^ (7 * n)) = ((2 ^ 64 - 2 ^ (7 * n) : Nat) : Int) := by
    have e0 : ((2 : Int) ^ (7 * n)) = ((2 ^ (7 * n) : Nat) : Int) := by push_cast; rfl
    rw [e0, wrap_u64_eq]
    clear e0 hy hsp hb e8 ha
    generalize (2 : Nat) ^ (7 * n) = N at *
    omega
  rw [ew]
  generalize hN : (2 ^ 64 - 2 ^ (7 * n) : Nat) = y at *
  have hlt : y < 2 ^ 64 := by omega
  change IntKind.u64.wrap (((BitVec.ofInt 64 (a : Int)) ||| (BitVec.ofInt 64 ((y : Nat) : Int))).toNat : Int) = _
  have e1 : BitVec.ofInt 64 (a : Int) = BitVec.ofNat 64 a := BitVec.ofInt_natCast ..
  have e2 : BitVec.ofInt 64 ((y : Nat) : Int) = BitVec.ofNat 64 y := BitVec.ofInt_natCast ..
  have ho : a ||| y = a + y := by rw [hy]; exact or_shift ha
  rw [e1, e2, BitVec.toNat_or, BitVec.toNat_ofNat, BitVec.toNat_ofNat, Nat.mod_eq_of_lt (by omega), Nat.mod_eq_of_lt hlt, ho]
  rw [wrap_u64 (by omega) (by omega)]
theorem wrap_i64_hi {n : Int} (h1 : 9223372036854775808 ≤ n) (h2 : n < 18446744073709551616) : IntKind.i64.wrap n = n - 18446744073709551616 := by
  simp [IntKind.wrap, IntKind.bits, IntKind.signed]
  (try split) <;> omega
theorem top_neg {a : Nat} (ha : a < 128 ^ 9) : IntKind.i64.wrap (((a + 128 ^ 9 * 127) % 18446744073709551616 : Nat) : Int) = ((a + 128 ^ 9 * 127 : Nat) : Int) - 128 ^ 10 := by
  have h9 : (128 : Nat) ^ 9 = 9223372036854775808 := rfl
  have h10 : (128 : Int) ^ 10 = 1180591620717411303424 := rfl
  rw [h9] at ha
  rw [h9, h10]
  have e : (a + 9223372036854775808 * 127) % 18446744073709551616 = a + 9223372036854775808 := by omega
  rw [e, wrap_i64_hi (by omega) (by omega)]
  omega
theorem top_pos {a : Nat} (ha : a < 128 ^ 9) : IntKind.i64.wrap (((a + 128 ^ 9 * 0) % 18446744073709551616 : Nat) : Int) = ((a + 128 ^ 9 * 0 : Nat) : Int) := by
  have h9 : (128 : Nat) ^ 9 = 9223372036854775808 := rfl
  rw [h9] at ha
  rw [Nat.mul_zero, Nat.add_zero, Nat.mod_eq_of_lt (by omega), wrap_i64 (by omega) (by omega)]
theorem low_neg {a N : Nat} (ha : a < N) (hN : N ≤ 9223372036854775808) : IntKind.i64.wrap ((a + (2 ^ 64 - N) : Nat) : Int) = (a : Int) - (N : Int) := by
  have h64 : (2 : Nat) ^ 64 = 18446744073709551616 := rfl
  rw [h64, wrap_i64_hi (by omega) (by omega)]
  omega
theorem S_ok {c : Cur} {id : Nat} (hid : h.getD id .dead = cur c) (hi : c.inv) (hK : Reads h id c (I (sR c).1) (sR c).2 K) : ACall X 14 [.p id 0] h K := by
  have hil := hlt hid (cur_ne c)
  apply i14
  (simp +contextual -dsimp only [R14, evA, evB, ↓a_on_t, ↓a_on_f, ↓a_on_und, ↓a_cond_b, ↓reduceIte, Go.Ab.part, List.getD_cons_zero, List.getD_cons_succ, List.set_cons_zero, List.set_cons_succ, List.length_cons, List.length_nil, List.cons_append, List.nil_append, cond_true, cond_false, Bool.cond_true, reduceCtorEq, Option.map_some, Option.map_none, forall_const, ne_eq, implies_true, Nat.reduceAdd, Nat.reduceLeDiff, Nat.reduceLT, Nat.beq, Option.isNone_none, beq_self_eq_true, bne_self_eq_false, Int.reduceBEq, Int.reduceBNe, Int.reduceLT, Int.reduceLE, Int.reduceGT, Int.reduceGE, Int.reduceEq, Int.reduceNe, Int.reduceToNat, List.take_zero, List.drop_zero, List.all_cons, List.all_nil, List.append_nil, List.length_append, List.length_set, List.append_assoc, List.drop_nil, List.take_nil] <;> try simp -dsimp only [if_conj])
  refine seven_ok hid hi (fun d ps h1 hr hp g1 g2 g3 g4 => ?_) (fun l d h1 hr g1 g2 g3 g4 => ?_)
  · have hu : sR c = (0, d) := by unfold sR; rw [hr]
    rw [hu] at hK
    have al : (byt ps).length = 10 := by rw [byt_length, hp]
    have bo := byt_one ps
    (simp +contextual -dsimp only [R14, evA, evB, ↓a_on_t, ↓a_on_f, ↓a_on_und, ↓a_cond_b, ↓reduceIte, Go.Ab.part, List.getD_cons_zero, List.getD_cons_succ, List.set_cons_zero, List.set_cons_succ, List.length_cons, List.length_nil, List.cons_append, List.nil_append, cond_true, cond_false, Bool.cond_true, reduceCtorEq, Option.map_some, Option.map_none, forall_const, ne_eq, implies_true, Nat.reduceAdd, Nat.reduceLeDiff, Nat.reduceLT, Nat.beq, Option.isNone_none, beq_self_eq_true, bne_self_eq_false, Int.reduceBEq, Int.reduceBNe, Int.reduceLT, Int.reduceLE, Int.reduceGT, Int.reduceGE, Int.reduceEq, Int.reduceNe, Int.reduceToNat, List.take_zero, List.drop_zero, List.all_cons, List.all_nil, List.append_nil, List.length_append, List.length_set, List.append_assoc, List.drop_nil, List.take_nil, hget_new, hset_new, al, bo] <;> try simp -dsimp only [if_conj])
    exact hK _ (hget_app g1 (cur_ne _)) g2 (fun j hj hj2 => (Adds.mk.at (by omega)).trans (g3 j hj hj2)) (by simp; omega)
  · obtain ⟨p1, p2, p3, p4⟩ := rd_prop 10 c l d hr
    have al : (byt (arr l)).length = 10 := by rw [byt_length, arr_len p1]
    have bo := byt_one (arr l)
    have at10 : (byt (arr l)).take 10 = byt (arr l) := List.take_of_length_le (by rw [al]; exact Nat.le_refl _)
    have sw : setAt ([AV.v (.int .u8 0), AV.v (.int .u8 0), AV.v (.int .u8 0), AV.v (.int .u8 0), AV.v (.int .u8 0), AV.v (.int .u8 0), AV.v (.int .u8 0), AV.v (.int .u8 0), AV.v (.int .u8 0), AV.v (.int .u8 0)]) 0 (byt (arr l)) = byt (arr l) := setAt_whole (by rw [al]; rfl)
    have a9 := arr9 p1 p3 (i := 9) (by decide)
    have h9 := getD_lt p3 9
    have q1 : (h1 ++ [AO.o 1 (byt (arr l))]).getD h1.length .dead = .o 1 (byt (arr l)) := hget_new
    have q2 : (h1 ++ [AO.o 1 (byt (arr l))]).getD id .dead = cur d := hget_app g1 (cur_ne _)
    have q3 : ∀ j, j < h.length → j ≠ id → (h1 ++ [AO.o 1 (byt (arr l))]).getD j .dead = h.getD j .dead := fun j hj hj2 => (Adds.mk.at (by omega)).trans (g3 j hj hj2)
    have q4 : h.length ≤ (h1 ++ [AO.o 1 (byt (arr l))]).length := by simp; omega
    (simp +contextual -dsimp only [R14, evA, evB, ↓a_on_t, ↓a_on_f, ↓a_on_und, ↓a_cond_b, ↓reduceIte, Go.Ab.part, List.getD_cons_zero, List.getD_cons_succ, List.set_cons_zero, List.set_cons_succ, List.length_cons, List.length_nil, List.cons_append, List.nil_append, cond_true, cond_false, Bool.cond_true, reduceCtorEq, Option.map_some, Option.map_none, forall_const, ne_eq, implies_true, Nat.reduceAdd, Nat.reduceLeDiff, Nat.reduceLT, Nat.beq, Option.isNone_none, beq_self_eq_true, bne_self_eq_false, Int.reduceBEq, Int.reduceBNe, Int.reduceLT, Int.reduceLE, Int.reduceGT, Int.reduceGE, Int.reduceEq, Int.reduceNe, Int.reduceToNat, List.take_zero, List.drop_zero, List.all_cons, List.all_nil, List.append_nil, List.length_append, List.length_set, List.append_assoc, List.drop_nil, List.take_nil, hget_new, hset_new, al, bo, sw] <;> try simp -dsimp only [if_conj])
    have hn1 : id < h1.length := hlt g1 (cur_ne _)
    generalize h1 ++ [AO.o 1 (byt (arr l))] = G at *
    obtain ⟨x9, hx9⟩ : ∃ x, l.getD 9 0 = x := ⟨_, rfl⟩
    rw [hx9] at a9 h9
    -- refused
    have bad : l.length = 10 ∧ x9 ≠ 0 ∧ x9 ≠ 127 → K.K (I 0) (G.set id (cur (d.fail 11))) := fun hb => by
      have hu : sR c = (0, d.fail 11) := by unfold sR; rw [hr]; show (if l.length = 10 ∧ l.getD 9 0 ≠ 0 ∧ l.getD 9 0 ≠ 127 then _ else _) = _; rw [hx9, if_pos hb]
      rw [hu] at hK
      refine hK _ (hget_set (hlt q2 (cur_ne _))) (g2.fail _) (fun j hj hj2 => ?_) (by rw [List.length_set]; exact q4)
      rw [hget_set_ne (Ne.symm hj2)]; exact q3 j hj hj2
    have good : ¬ (l.length = 10 ∧ x9 ≠ 0 ∧ x9 ≠ 127) → ∀ G2, Keeps G G2 → K.K (I (vs l)) G2 := fun hb G2 k2 => by
      have hu : sR c = (vs l, d) := by unfold sR; rw [hr]; show (if l.length = 10 ∧ l.getD 9 0 ≠ 0 ∧ l.getD 9 0 ≠ 127 then _ else _) = _; rw [hx9, if_neg hb]
      rw [hu] at hK
      exact hK _ (k2.at q2 (cur_ne _)) g2 (fun j hj hj2 => (k2.get (by omega)).trans (q3 j hj hj2)) (by have := k2.len; omega)
    have hlastD : l.getLastD 0 = l.getD (l.length - 1) 0 := by
      rw [List.getLastD_eq_getLast?, List.getLast?_eq_getElem?, List.getD_eq_getElem?_getD]
    by_cases c1 : l.length = 10
    · have d1 : ((l.length : Int) == 10) = true := by simp [c1]
      have d5 : decide ((l.length : Int) < 10) = false := by simp; omega
      have hvs : (x9 = 0 ∨ x9 = 127) → IntKind.i64.wrap ((vl l % 18446744073709551616 : Nat) : Int) = vs l := fun hb => by
        have e := take_last (l := l) (i := 9) (by omega)
        have h1 := vl_lt (l := l.take 9) fun x h => p3 x (List.mem_of_mem_take h)
        rw [List.length_take, Nat.min_eq_left (by omega)] at h1
        have e2 : vl l = vl (l.take 9) + 128 ^ 9 * x9 := by
          conv => lhs; rw [e]
          rw [vl_append, List.length_take, Nat.min_eq_left (by omega), hx9]; simp [vl]
        unfold vs
        rw [hlastD, c1, show (10 : Nat) - 1 = 9 from rfl, hx9]
        rcases hb with hb | hb
        · rw [if_neg (by rw [hb]; decide), e2, hb]; exact top_pos h1
        · rw [if_pos (by rw [hb]; decide), e2, hb]; exact top_neg h1
      by_cases c2 : x9 = 0
      · have d2 : (((x9 : Nat) : Int) != 0) = false := by simp [c2]
        (simp +contextual -dsimp only [R14, evA, evB, ↓a_on_t, ↓a_on_f, ↓a_on_und, ↓a_cond_b, ↓reduceIte, Go.Ab.part, List.getD_cons_zero, List.getD_cons_succ, List.set_cons_zero, List.set_cons_succ, List.length_cons, List.length_nil, List.cons_append, List.nil_append, cond_true, cond_false, Bool.cond_true, reduceCtorEq, Option.map_some, Option.map_none, forall_const, ne_eq, implies_true, Nat.reduceAdd, Nat.reduceLeDiff, Nat.reduceLT, Nat.beq, Option.isNone_none, beq_self_eq_true, bne_self_eq_false, Int.reduceBEq, Int.reduceBNe, Int.reduceLT, Int.reduceLE, Int.reduceGT, Int.reduceGE, Int.reduceEq, Int.reduceNe, Int.reduceToNat, List.take_zero, List.drop_zero, List.all_cons, List.all_nil, List.append_nil, List.length_append, List.length_set, List.append_assoc, List.drop_nil, List.take_nil, d1, d2, q1, al, a9, at10] <;> try simp -dsimp only [if_conj])
        refine ⟨by omega, ?_⟩
        refine whole_ok p1 p3 fun G2 k2 => ?_
        (simp +contextual -dsimp only [R14, evA, evB, ↓a_on_t, ↓a_on_f, ↓a_on_und, ↓a_cond_b, ↓reduceIte, Go.Ab.part, List.getD_cons_zero, List.getD_cons_succ, List.set_cons_zero, List.set_cons_succ, List.length_cons, List.length_nil, List.cons_append, List.nil_append, cond_true, cond_false, Bool.cond_true, reduceCtorEq, Option.map_some, Option.map_none, forall_const, ne_eq, implies_true, Nat.reduceAdd, Nat.reduceLeDiff, Nat.reduceLT, Nat.beq, Option.isNone_none, beq_self_eq_true, bne_self_eq_false, Int.reduceBEq, Int.reduceBNe, Int.reduceLT, Int.reduceLE, Int.reduceGT, Int.reduceGE, Int.reduceEq, Int.reduceNe, Int.reduceToNat, List.take_zero, List.drop_zero, List.all_cons, List.all_nil, List.append_nil, List.length_append, List.length_set, List.append_assoc, List.drop_nil, List.take_nil, d5] <;> try simp -dsimp only [if_conj])
        rw [hvs (.inl c2)]
        exact good (fun h => h.2.1 c2) G2 k2
      · have d2 : (((x9 : Nat) : Int) != 0) = true := by simp; omega
        by_cases c3 : x9 = 127
        · have d3 : (((x9 : Nat) : Int) != 127) = false := by simp [c3]
          (simp +contextual -dsimp only [R14, evA, evB, ↓a_on_t, ↓a_on_f, ↓a_on_und, ↓a_cond_b, ↓reduceIte, Go.Ab.part, List.getD_cons_zero, List.getD_cons_succ, List.set_cons_zero, List.set_cons_succ, List.length_cons, List.length_nil, List.cons_append, List.nil_append, cond_true, cond_false, Bool.cond_true, reduceCtorEq, Option.map_some, Option.map_none, forall_const, ne_eq, implies_true, Nat.reduceAdd, Nat.reduceLeDiff, Nat.reduceLT, Nat.beq, Option.isNone_none, beq_self_eq_true, bne_self_eq_false, Int.reduceBEq, Int.reduceBNe, Int.reduceLT, Int.reduceLE, Int.reduceGT, Int.reduceGE, Int.reduceEq, Int.reduceNe, Int.reduceToNat, List.take_zero, List.drop_zero, List.all_cons, List.all_nil, List.append_nil, List.length_append, List.length_set, List.append_assoc, List.drop_nil, List.take_nil, d1, d2, d3, q1, al, a9, at10] <;> try simp -dsimp only [if_conj])
          refine ⟨by omega, by omega, ?_⟩
          refine whole_ok p1 p3 fun G2 k2 => ?_
          (simp +contextual -dsimp only [R14, evA, evB, ↓a_on_t, ↓a_on_f, ↓a_on_und, ↓a_cond_b, ↓reduceIte, Go.Ab.part, List.getD_cons_zero, List.getD_cons_succ, List.set_cons_zero, List.set_cons_succ, List.length_cons, List.length_nil, List.cons_append, List.nil_append, cond_true, cond_false, Bool.cond_true, reduceCtorEq, Option.map_some, Option.map_none, forall_const, ne_eq, implies_true, Nat.reduceAdd, Nat.reduceLeDiff, Nat.reduceLT, Nat.beq, Option.isNone_none, beq_self_eq_true, bne_self_eq_false, Int.reduceBEq, Int.reduceBNe, Int.reduceLT, Int.reduceLE, Int.reduceGT, Int.reduceGE, Int.reduceEq, Int.reduceNe, Int.reduceToNat, List.take_zero, List.drop_zero, List.all_cons, List.all_nil, List.append_nil, List.length_append, List.length_set, List.append_assoc, List.drop_nil, List.take_nil, d5] <;> try simp -dsimp only [if_conj])
          rw [hvs (.inr c3)]
          exact good (fun h => h.2.2 c3) G2 k2
        · have d3 : (((x9 : Nat) : Int) != 127) = true := by simp; omega
          (simp +contextual -dsimp only [R14, evA, evB, ↓a_on_t, ↓a_on_f, ↓a_on_und, ↓a_cond_b, ↓reduceIte, Go.Ab.part, List.getD_cons_zero, List.getD_cons_succ, List.set_cons_zero, List.set_cons_succ, List.length_cons, List.length_nil, List.cons_append, List.nil_append, cond_true, cond_false, Bool.cond_true, reduceCtorEq, Option.map_some, Option.map_none, forall_const, ne_eq, implies_true, Nat.reduceAdd, Nat.reduceLeDiff, Nat.reduceLT, Nat.beq, Option.isNone_none, beq_self_eq_true, bne_self_eq_false, Int.reduceBEq, Int.reduceBNe, Int.reduceLT, Int.reduceLE, Int.reduceGT, Int.reduceGE, Int.reduceEq, Int.reduceNe, Int.reduceToNat, List.take_zero, List.drop_zero, List.all_cons, List.all_nil, List.append_nil, List.length_append, List.length_set, List.append_assoc, List.drop_nil, List.take_nil, d1, d2, d3, q1, al, a9, at10] <;> try simp -dsimp only [if_conj])
          refine ⟨by omega, by omega, ?_⟩
          refine Fail_ok q2 ?_
          (simp +contextual -dsimp only [R14, evA, evB, ↓a_on_t, ↓a_on_f, ↓a_on_und, ↓a_cond_b, ↓reduceIte, Go.Ab.part, List.getD_cons_zero, List.getD_cons_succ, List.set_cons_zero, List.set_cons_succ, List.length_cons, List.length_nil, List.cons_append, List.nil_append, cond_true, cond_false, Bool.cond_true, reduceCtorEq, Option.map_some, Option.map_none, forall_const, ne_eq, implies_true, Nat.reduceAdd, Nat.reduceLeDiff, Nat.reduceLT, Nat.beq, Option.isNone_none, beq_self_eq_true, bne_self_eq_false, Int.reduceBEq, Int.reduceBNe, Int.reduceLT, Int.reduceLE, Int.reduceGT, Int.reduceGE, Int.reduceEq, Int.reduceNe, Int.reduceToNat, List.take_zero, List.drop_zero, List.all_cons, List.all_nil, List.append_nil, List.length_append, List.length_set, List.append_assoc, List.drop_nil, List.take_nil] <;> try simp -dsimp only [if_conj])
          exact bad ⟨c1, c2, c3⟩
    · have d1 : ((l.length : Int) == 10) = false := by simp; omega
      have d5 : decide ((l.length : Int) < 10) = true := by simp; omega
      have hvl := vl_lt p3
      have h128 : (128 : Nat) ^ l.length ≤ 9223372036854775808 := Nat.le_trans (Nat.pow_le_pow_right (by decide) (show l.length ≤ 9 by omega)) (by decide)
      (simp +contextual -dsimp only [R14, evA, evB, ↓a_on_t, ↓a_on_f, ↓a_on_und, ↓a_cond_b, ↓reduceIte, Go.Ab.part, List.getD_cons_zero, List.getD_cons_succ, List.set_cons_zero, List.set_cons_succ, List.length_cons, List.length_nil, List.cons_append, List.nil_append, cond_true, cond_false, Bool.cond_true, reduceCtorEq, Option.map_some, Option.map_none, forall_const, ne_eq, implies_true, Nat.reduceAdd, Nat.reduceLeDiff, Nat.reduceLT, Nat.beq, Option.isNone_none, beq_self_eq_true, bne_self_eq_false, Int.reduceBEq, Int.reduceBNe, Int.reduceLT, Int.reduceLE, Int.reduceGT, Int.reduceGE, Int.reduceEq, Int.reduceNe, Int.reduceToNat, List.take_zero, List.drop_zero, List.all_cons, List.all_nil, List.append_nil, List.length_append, List.length_set, List.append_assoc, List.drop_nil, List.take_nil, d1, q1, al, a9, at10] <;> try simp -dsimp only [if_conj])
      refine whole_ok p1 p3 fun G2 k2 => ?_
      have q5 := k2.at q1 (by simp)
      rw [Nat.mod_eq_of_lt (show vl l < 18446744073709551616 by omega)]
      have w1 : IntKind.i64.wrap ((l.length : Int) - 1) = ((l.length - 1 : Nat) : Int) := by rw [wrap_i64 (by omega) (by omega)]; omega
      have aL := arr9 p1 p3 (i := l.length - 1) (by omega)
      have w2 : IntKind.u64.wrap (IntKind.i64.wrap (7 * (l.length : Int))) = 7 * (l.length : Int) := by rw [wrap_i64 (by omega) (by omega), wrap_u64 (by omega) (by omega)]
      have w3 := ones (n := l.length) (by omega) hvl
      obtain ⟨xl, hxl⟩ : ∃ x, l.getD (l.length - 1) 0 = x := ⟨_, rfl⟩
      rw [hxl] at aL hlastD
      by_cases c4 : 64 ≤ xl
      · have d6 : decide (((xl : Nat) : Int) ≥ 64) = true := by simp; omega
        have w4 : IntKind.i64.wrap ((vl l + (2 ^ 64 - 128 ^ l.length) : Nat) : Int) = vs l := by
          unfold vs
          rw [hlastD, if_pos c4]
          have e : ((128 : Int) ^ l.length) = ((128 ^ l.length : Nat) : Int) := by push_cast; rfl
          rw [e]
          exact low_neg hvl h128
        (simp +contextual -dsimp only [R14, evA, evB, ↓a_on_t, ↓a_on_f, ↓a_on_und, ↓a_cond_b, ↓reduceIte, Go.Ab.part, List.getD_cons_zero, List.getD_cons_succ, List.set_cons_zero, List.set_cons_succ, List.length_cons, List.length_nil, List.cons_append, List.nil_append, cond_true, cond_false, Bool.cond_true, reduceCtorEq, Option.map_some, Option.map_none, forall_const, ne_eq, implies_true, Nat.reduceAdd, Nat.reduceLeDiff, Nat.reduceLT, Nat.beq, Option.isNone_none, beq_self_eq_true, bne_self_eq_false, Int.reduceBEq, Int.reduceBNe, Int.reduceLT, Int.reduceLE, Int.reduceGT, Int.reduceGE, Int.reduceEq, Int.reduceNe, Int.reduceToNat, List.take_zero, List.drop_zero, List.all_cons, List.all_nil, List.append_nil, List.length_append, List.length_set, List.append_assoc, List.drop_nil, List.take_nil, d5, q5, al, w1, aL, d6, w2, w3, w4] <;> try simp -dsimp only [if_conj])
        refine ⟨by omega, by omega, by omega, ?_⟩
        exact good (fun h => c1 h.1) G2 k2
      · have d6 : decide (((xl : Nat) : Int) ≥ 64) = false := by simp; omega
        have w4 : IntKind.i64.wrap ((vl l : Nat) : Int) = vs l := by
          unfold vs
          rw [hlastD, if_neg c4, wrap_i64 (by omega) (by omega)]
        (simp +contextual -dsimp only [R14, evA, evB, ↓a_on_t, ↓a_on_f, ↓a_on_und, ↓a_cond_b, ↓reduceIte, Go.Ab.part, List.getD_cons_zero, List.getD_cons_succ, List.set_cons_zero, List.set_cons_succ, List.length_cons, List.length_nil, List.cons_append, List.nil_append, cond_true, cond_false, Bool.cond_true, reduceCtorEq, Option.map_some, Option.map_none, forall_const, ne_eq, implies_true, Nat.reduceAdd, Nat.reduceLeDiff, Nat.reduceLT, Nat.beq, Option.isNone_none, beq_self_eq_true, bne_self_eq_false, Int.reduceBEq, Int.reduceBNe, Int.reduceLT, Int.reduceLE, Int.reduceGT, Int.reduceGE, Int.reduceEq, Int.reduceNe, Int.reduceToNat, List.take_zero, List.drop_zero, List.all_cons, List.all_nil, List.append_nil, List.length_append, List.length_set, List.append_assoc, List.drop_nil, List.take_nil, d5, q5, al, w1, aL, d6, w4] <;> try simp -dsimp only [if_conj])
        refine ⟨by omega, by omega, ?_⟩
        exact good (fun h => c1 h.1) G2 k2
end Go.Proofs.Ytlfplmcidfflfaa
