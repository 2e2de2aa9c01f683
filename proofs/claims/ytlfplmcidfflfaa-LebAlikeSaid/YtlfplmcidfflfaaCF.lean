import Derived.Test.YtlfplmcidfflfaaCE
set_option linter.unusedVariables false
set_option linter.unusedSimpArgs false
set_option maxRecDepth 100000
namespace Go.Proofs.Ytlfplmcidfflfaa
open Go.Ab
variable {h : Heap} {K : Kt}

/-- so many parts of a number -/
def wd : Nat → Nat → List Nat
  | 0, _ => []
  | s + 1, n => n % 128 :: wd s (n / 128)
theorem wd_len : ∀ s n, (wd s n).length = s
  | 0, _ => rfl
  | s + 1, n => by rw [wd, List.length_cons, wd_len s]
theorem wd_lt : ∀ (s n : Nat), ∀ x ∈ wd s n, x < 128
  | 0, _, x, h => by cases h
  | s + 1, n, x, h => by
    rcases List.mem_cons.1 h with rfl | h
    · omega
    · exact wd_lt s _ x h
theorem wd_get : ∀ (s n i : Nat), i < s → (wd s n).getD i 0 = n / 128 ^ i % 128
  | s + 1, n, 0, _ => by simp [wd]
  | s + 1, n, i + 1, h => by
    rw [wd, List.getD_cons_succ, wd_get s _ i (by omega), Nat.div_div_eq_div_mul, Nat.pow_succ, Nat.mul_comm 128]
theorem wd_zero : ∀ s, wd s 0 = List.replicate s 0
  | 0 => rfl
  | s + 1 => by rw [wd, Nat.zero_mod, Nat.zero_div, wd_zero s, List.replicate_succ]
theorem up_wd : ∀ (k n s : Nat), n < 128 ^ (k + 1) → (up k n).length ≤ s → up k n ++ List.replicate (s - (up k n).length) 0 = wd s n ∧ n < 128 ^ (up k n).length
  | 0, n, s, hn, hs => by
    have hu : up 0 n = [n % 128] := rfl
    rw [hu] at hs ⊢
    obtain ⟨s, rfl⟩ : ∃ t, s = t + 1 := ⟨s - 1, by simp at hs; omega⟩
    refine ⟨?_, by simpa using hn⟩
    have : n / 128 = 0 := by simp at hn; omega
    rw [wd, this, wd_zero]; simp
  | k + 1, n, s, hn, hs => by
    have hu : up (k + 1) n = if n < 128 then [n] else n % 128 :: up k (n / 128) := rfl
    rw [hu] at hs ⊢
    by_cases h : n < 128
    · rw [if_pos h] at hs ⊢
      obtain ⟨s, rfl⟩ : ∃ t, s = t + 1 := ⟨s - 1, by simp at hs; omega⟩
      have : n / 128 = 0 := by omega
      rw [wd, this, wd_zero, Nat.mod_eq_of_lt h]
      exact ⟨by simp, by simpa using h⟩
    · rw [if_neg h] at hs ⊢
      obtain ⟨s, rfl⟩ : ∃ t, s = t + 1 := ⟨s - 1, by simp at hs; omega⟩
      have hn' : n / 128 < 128 ^ (k + 1) := by rw [Nat.pow_succ] at hn; omega
      obtain ⟨e1, e2⟩ := up_wd k (n / 128) s hn' (by simpa using hs)
      refine ⟨?_, ?_⟩
      · rw [wd, List.cons_append, List.length_cons, Nat.add_sub_add_right, e1]
      · rw [List.length_cons, Nat.pow_succ]; omega
theorem enc_snoc : ∀ (l : List Nat) (x : Nat), enc (l ++ [x]) = hi7 l ++ [UInt8.ofNat x]
  | [], x => rfl
  | [y], x => rfl
  | y :: z :: r, x => by
    have := enc_snoc (z :: r) x
    rw [List.cons_append, List.cons_append, enc, ← List.cons_append, this]; rfl
theorem take_last {l : List Nat} {i : Nat} (h : i + 1 = l.length) : l = l.take i ++ [l.getD i 0] := by
  have : l.take (i + 1) = l := by rw [h]; exact List.take_length
  conv => lhs; rw [← this]
  rw [List.take_add_one, List.getElem?_eq_getElem (by omega), List.getD_eq_getElem?_getD, List.getElem?_eq_getElem (by omega)]; rfl
theorem take_succ {l : List Nat} {i : Nat} (h : i < l.length) : l.take (i + 1) = l.take i ++ [l.getD i 0] := by
  rw [List.take_add_one, List.getElem?_eq_getElem h, List.getD_eq_getElem?_getD, List.getElem?_eq_getElem h]; rfl
theorem byt_snoc8 (l : List UInt8) (y : Nat) (hy : y < 256) : byt l ++ [.v (.int .u8 (y : Int))] = byt (l ++ [UInt8.ofNat y]) := by
  rw [← byt_append, byt_cons, UInt8.toNat_ofNat_of_lt' (by rw [show UInt8.size = 256 from rfl]; omega)]; rfl
theorem or128b (y : Nat) (hy : y < 256) : abits .or .u8 (y : Int) 128 = ((y % 128 + 128 : Nat) : Int) := by
  have e : ((BitVec.ofInt 8 (y : Int)) ||| (BitVec.ofInt 8 128)).toNat = y % 128 + 128 := by
    rw [BitVec.toNat_or, BitVec.ofInt_natCast, BitVec.toNat_ofNat, show (BitVec.ofInt 8 128).toNat = 128 from rfl, Nat.mod_eq_of_lt (by omega)]
    revert hy y; decide
  show IntKind.u8.wrap (((BitVec.ofInt 8 (y : Int)) ||| (BitVec.ofInt 8 128)).toNat : Int) = _
  rw [e, wrap_u8_eq]; omega
/-- how many bytes -/
def wsz (n : Nat) (size : Int) : Nat := (min (max size ((up 9 n).length : Int)) 10).toNat
theorem PutWide_w {a r : List UInt8} {id n : Nat} {size : Int} (hid : h.getD id .dead = .o 1 (byt (a ++ r))) (ha : a.length + 10 ≤ bigRoom) (hn : n < 18446744073709551616) (hK : PutsW h a id (wd (wsz n size) n) K (fun i l => .w i 0 l)) : ACall X 10 [.w id 0 a.length, U n, I size] h K := by
  obtain ⟨u1, u2, u3, u4⟩ := up_prop 9 n
  have hil := hlt hid (by simp)
  apply i10
  (simp +contextual -dsimp only [R10, evA, evB, ↓a_on_t, ↓a_on_f, ↓a_on_und, ↓a_cond_b, ↓reduceIte, Go.Ab.part, List.getD_cons_zero, List.getD_cons_succ, List.set_cons_zero, List.set_cons_succ, List.length_cons, List.length_nil, List.cons_append, List.nil_append, cond_true, cond_false, Bool.cond_true, reduceCtorEq, Option.map_some, Option.map_none, forall_const, ne_eq, implies_true, Nat.reduceAdd, Nat.reduceLeDiff, Nat.reduceLT, Nat.beq, Option.isNone_none, beq_self_eq_true, bne_self_eq_false, Int.reduceBEq, Int.reduceBNe, Int.reduceLT, Int.reduceLE, Int.reduceGT, Int.reduceGE, Int.reduceEq, Int.reduceNe, Int.reduceToNat, List.take_zero, List.drop_zero, List.all_cons, List.all_nil, List.append_nil, List.length_append, List.length_set, List.append_assoc, List.drop_nil, List.take_nil] <;> try simp -dsimp only [if_conj])
  refine SizeU_ok hn fun h1 k1 => ?_
  (simp +contextual -dsimp only [R10, evA, evB, ↓a_on_t, ↓a_on_f, ↓a_on_und, ↓a_cond_b, ↓reduceIte, Go.Ab.part, List.getD_cons_zero, List.getD_cons_succ, List.set_cons_zero, List.set_cons_succ, List.length_cons, List.length_nil, List.cons_append, List.nil_append, cond_true, cond_false, Bool.cond_true, reduceCtorEq, Option.map_some, Option.map_none, forall_const, ne_eq, implies_true, Nat.reduceAdd, Nat.reduceLeDiff, Nat.reduceLT, Nat.beq, Option.isNone_none, beq_self_eq_true, bne_self_eq_false, Int.reduceBEq, Int.reduceBNe, Int.reduceLT, Int.reduceLE, Int.reduceGT, Int.reduceGE, Int.reduceEq, Int.reduceNe, Int.reduceToNat, List.take_zero, List.drop_zero, List.all_cons, List.all_nil, List.append_nil, List.length_append, List.length_set, List.append_assoc, List.drop_nil, List.take_nil] <;> try simp -dsimp only [if_conj])
  have hw : (if 10 < if ((up 9 n).length : Int) > size then ((up 9 n).length : Int) else size then (10 : Int) else if ((up 9 n).length : Int) > size then ((up 9 n).length : Int) else size) = ((wsz n size : Nat) : Int) := by
    unfold wsz; split <;> split at * <;> omega
  rw [hw]
  have hn70 : n < 128 ^ (9 + 1) := Nat.lt_trans hn (by decide)
  have hs1 : (up 9 n).length ≤ wsz n size ∧ wsz n size ≤ 10 := by unfold wsz; omega
  obtain ⟨_, hlt7⟩ := up_wd 9 n (wsz n size) hn70 hs1.1
  generalize hS : wsz n size = S at *
  have hn7 : n < 128 ^ S := Nat.lt_of_lt_of_le hlt7 (Nat.pow_le_pow_right (by omega) hs1.1)
  have hwl := wd_len S n
  have hwx := wd_lt S n
  have hbr : bigRoom = 140737488355328 := rfl
  rw [wrap_i64 (n := ((S : Nat) : Int) - 1) (by omega) (by omega)]
  refine aloop (fun m st => ∃ i bid H rr, m + i = S - 1 ∧ H.getD bid .dead = .o 1 (byt (a ++ hi7 ((wd S n).take i) ++ rr)) ∧ (∃ r', H.getD id .dead = .o 1 (byt (a ++ r'))) ∧ (∀ j, j < h.length → j ≠ id → H.getD j .dead = h.getD j .dead) ∧ h.length ≤ H.length ∧ (bid = id ∨ h.length ≤ bid) ∧
    st = ((.w bid 0 (a.length + i) :: U ((n / 128 ^ i : Nat) : Int) :: sl st.1 2 :: sl st.1 3 :: sl st.1 4 :: sl st.1 5 :: sl st.1 6 :: sl st.1 7 :: sl st.1 8 :: sl st.1 9 :: sl st.1 10 :: sl st.1 11 :: sl st.1 12 :: I ((S : Int) - 1) :: I i :: sl st.1 15 :: sl st.1 16 :: sl st.1 17 :: sl st.1 18 :: sl st.1 19 :: sl st.1 20 :: sl st.1 21 :: sl st.1 22 :: sl st.1 23 :: sl st.1 24 :: sl st.1 25 :: sl st.1 26 :: sl st.1 27 :: sl st.1 28 :: sl st.1 29 :: []), H)) (S - 1) _ k1.len (Weak.refl _ k1.len) ?_ ?_
  · refine ⟨0, id, h1, r, by omega, ?_, ⟨r, k1.at hid (by simp)⟩, fun j hj _ => k1.get hj, k1.len, .inl rfl, ?_⟩
    · rw [show a ++ hi7 ((wd S n).take 0) ++ r = a ++ r by simp [hi7]]; exact k1.at hid (by simp)
    · rw [show n / 128 ^ 0 = n by simp]; rfl
  · rintro m st ⟨i, bid, H, rr, hm, q1, ⟨r', q2⟩, q3, q4, q5, hst⟩
    rw [hst]
    have hbl := hlt q1 (by simp)
    have hal : (hi7 ((wd S n).take i)).length = i := by rw [hi7_len, List.length_take]; omega
    have hl2 : (a ++ hi7 ((wd S n).take i)).length = a.length + i := by rw [List.length_append, hal]
    have hq : n / 128 ^ i ≤ n := Nat.div_le_self _ _
    have b1 : IntKind.u8.wrap ((n / 128 ^ i : Nat) : Int) = ((n / 128 ^ i % 256 : Nat) : Int) := by rw [wrap_u8_eq]; omega
    have b2 := or128b (n / 128 ^ i % 256) (by omega)
    have b3 : n / 128 ^ i % 256 % 128 = n / 128 ^ i % 128 := by omega
    rw [b3] at b2
    -- what an append leaves
    have step : ∀ (y : Nat) (id' off' : Nat) (h' : Heap), y < 256 → Apk 1 bid 0 (a.length + i) [.v (.int .u8 (y : Int))] (byt (a ++ (hi7 ((wd S n).take i) ++ rr))) (H ++ [AO.o 1 [.v (.int .u8 (y : Int))]]) id' off' h' →
        off' = 0 ∧ h'.getD id' .dead = .o 1 (byt (a ++ (hi7 ((wd S n).take i) ++ [UInt8.ofNat y]))) ∧ (∃ r', h'.getD id .dead = .o 1 (byt (a ++ r'))) ∧ (∀ j, j < h.length → j ≠ id → h'.getD j .dead = h.getD j .dead) ∧ h.length ≤ h'.length ∧ (id' = id ∨ h.length ≤ id') := by
      intro y id' off' h' hy hap
      have hb8 : (.v (.int .u8 (y : Int)) : AV) = .v (.int .u8 ((UInt8.ofNat y).toNat : Int)) := by rw [UInt8.toNat_ofNat_of_lt' (by rw [show UInt8.size = 256 from rfl]; omega)]
      have s3 : (H ++ [AO.o 1 [.v (.int .u8 (y : Int))]]).getD bid .dead = .o 1 (byt (a ++ hi7 ((wd S n).take i) ++ rr)) := hget_app q1 (by simp)
      obtain ⟨rfl, g⟩ := apk_b (a := a ++ hi7 ((wd S n).take i)) (r := rr) (m := [UInt8.ofNat y]) hap (by rw [List.append_assoc]) (congrArg (fun z => [z]) hb8) hl2.symm (by rw [← List.append_assoc]; exact s3)
      have hG1 : (H ++ [AO.o 1 [.v (.int .u8 (y : Int))]]).length = H.length + 1 := by simp
      have gk : ∀ j, j < H.length → j ≠ bid → h'.getD j .dead = H.getD j .dead := fun j hj hjb => (g.keep j (by omega) hjb).trans (Adds.mk.at hj)
      refine ⟨rfl, by rw [g.get, List.append_assoc], ?_, fun j hj hne => ?_, by have := g.len; omega, by have := g.is; omega⟩
      · by_cases hib : id = bid
        · subst hib
          rcases g.old with e | e
          · exact ⟨hi7 ((wd S n).take i) ++ rr, by rw [e, s3, List.append_assoc]⟩
          · exact ⟨hi7 ((wd S n).take i) ++ [UInt8.ofNat y], by rw [e, List.append_assoc]⟩
        · exact ⟨r', (gk id (by omega) hib).trans q2⟩
      · rw [gk j (by omega) (by omega)]; exact q3 j hj hne
    have s3 : ∀ y : Int, (H ++ [AO.o 1 [.v (.int .u8 y)]]).getD bid .dead = .o 1 (byt (a ++ hi7 ((wd S n).take i) ++ rr)) := fun y => hget_app q1 (by simp)
    have s4 : ∀ y : Int, (H ++ [AO.o 1 [.v (.int .u8 y)]]).getD H.length .dead = .o 1 [.v (.int .u8 y)] := fun y => hget_new
    have et : ∀ y : Int, List.take 1 [AV.v (.int .u8 y)] = [AV.v (.int .u8 y)] := fun _ => rfl
    have b4 := shr7 (n / 128 ^ i)
    have b5 : n / 128 ^ i / 128 = n / 128 ^ (i + 1) := by rw [Nat.div_div_eq_div_mul, Nat.pow_succ]
    rw [b5] at b4
    (simp +contextual -dsimp only [R10, evA, evB, ↓a_on_t, ↓a_on_f, ↓a_on_und, ↓a_cond_b, ↓reduceIte, Go.Ab.part, List.getD_cons_zero, List.getD_cons_succ, List.set_cons_zero, List.set_cons_succ, List.length_cons, List.length_nil, List.cons_append, List.nil_append, cond_true, cond_false, Bool.cond_true, reduceCtorEq, Option.map_some, Option.map_none, forall_const, ne_eq, implies_true, Nat.reduceAdd, Nat.reduceLeDiff, Nat.reduceLT, Nat.beq, Option.isNone_none, beq_self_eq_true, bne_self_eq_false, Int.reduceBEq, Int.reduceBNe, Int.reduceLT, Int.reduceLE, Int.reduceGT, Int.reduceGE, Int.reduceEq, Int.reduceNe, Int.reduceToNat, List.take_zero, List.drop_zero, List.all_cons, List.all_nil, List.append_nil, List.length_append, List.length_set, List.append_assoc, List.drop_nil, List.take_nil, b1, b2, b4, s3, s4, et] <;> try simp -dsimp only [if_conj])
    refine ⟨fun hi => ?_, fun hi => ?_⟩
    · replace hi : i < S - 1 := by simp at hi; omega
      refine ⟨⟨by omega, by omega⟩, fun id' off' h' hap => ?_⟩
      obtain ⟨rfl, p1, p2, p3, p4, p5⟩ := step _ id' off' h' (by omega) hap
      rw [wrap_i64 (n := (i : Int) + 1) (by omega) (by omega)]
      refine ⟨m - 1, _, by omega, Weak.refl _ p4, i + 1, id', h', [], by omega, ?_, p2, p3, p4, p5, rfl⟩
      have htk : (wd S n).take (i + 1) = (wd S n).take i ++ [n / 128 ^ i % 128] := by
        rw [← wd_get S n i (by omega), List.take_add_one, List.getElem?_eq_getElem (by omega), List.getD_eq_getElem?_getD, List.getElem?_eq_getElem (by omega)]; rfl
      rw [p1, htk, hi7_snoc, List.append_nil]
    · replace hi : i = S - 1 := by simp at hi; omega
      refine ⟨⟨by omega, by omega⟩, fun id' off' h' hap => ?_⟩
      obtain ⟨rfl, p1, p2, p3, p4, p5⟩ := step _ id' off' h' (by omega) hap
      have hlast : n / 128 ^ i < 128 := by
        rw [Nat.div_lt_iff_lt_mul (Nat.pow_pos (by decide)), hi, Nat.mul_comm, ← Nat.pow_succ, show (S - 1).succ = S by omega]; exact hn7
      have e1 : (wd S n) = (wd S n).take i ++ [n / 128 ^ i % 128] := by
        rw [← wd_get S n i (by omega)]
        exact take_last (by omega)
      have e2 : enc (wd S n) = hi7 ((wd S n).take i) ++ [UInt8.ofNat (n / 128 ^ i % 256)] := by
        rw [show n / 128 ^ i % 256 = n / 128 ^ i % 128 by rw [Nat.mod_eq_of_lt hlast, Nat.mod_eq_of_lt (Nat.lt_trans hlast (by decide))]]
        conv => lhs; rw [e1]
        exact enc_snoc _ _
      have := hK h' id' (by rw [e2]; exact p1) p3 p2 p4 p5
      rw [hwl] at this
      rw [show a.length + i + 1 = a.length + S by omega]
      exact this
theorem see_w2 {f : FuncId} {id len : Nat} {x y : AV} {K : Kt} (H : ACall X f [.w id 0 len, x, y] h (.c (fun r h1 => ∃ id1 l, r = .w id1 0 l ∧ h.length ≤ h1.length ∧ K.K (.s id1 0 l) h1) ())) : ACall X f [.s id 0 len, x, y] h K := by
  refine acall_weak_post ?_
  refine acall_weak (args' := [.w id 0 len, x, y]) (h' := h) (weak_sw (Nat.le_refl _) ⟨.inr (.inr ⟨_, _, _, .inl ⟨rfl, rfl⟩⟩), .inl rfl, .inl rfl, trivial⟩) (Nat.le_refl _) ?_
  refine acall_mono H ?_
  rintro r h1 ⟨id1, l, rfl, hl, hk⟩
  exact ⟨.s id1 0 l, h1, weak_sw hl ⟨.inr (.inr ⟨_, _, _, .inr ⟨rfl, rfl⟩⟩), trivial⟩, hk⟩
theorem see_nil2 {f : FuncId} {x y : AV} {K : Kt} (H : ACall X f [.w h.length 0 0, x, y] (h ++ [.o 1 []]) (.c (fun r h1 => ∃ id1 l, r = .w id1 0 l ∧ h.length ≤ h1.length ∧ K.K (.s id1 0 l) h1) ())) : ACall X f [.v (.slice none 0 0), x, y] h K := by
  refine acall_weak_post ?_
  have W1 : Weak X h.length ([.v (.slice none 0 0), x, y], h) ([.s h.length 0 0, x, y], h ++ [.o 1 []]) := weak_nils (Nat.le_refl _) ⟨.inr (.inr ⟨rfl, _, _, rfl⟩), .inl rfl, .inl rfl, trivial⟩
  have W2 : Weak X h.length ([.s h.length 0 0, x, y], h ++ [.o 1 []]) ([.w h.length 0 0, x, y], h ++ [.o 1 []]) := weak_sw (by simp) ⟨.inr (.inr ⟨_, _, _, .inl ⟨rfl, rfl⟩⟩), .inl rfl, .inl rfl, trivial⟩
  refine acall_weak (args' := [.w h.length 0 0, x, y]) (h' := h ++ [.o 1 []]) (W1.trans W2 (Nat.le_refl _)) (by simp) ?_
  refine acall_mono H ?_
  rintro r h1 ⟨id1, l, rfl, hl, hk⟩
  exact ⟨.s id1 0 l, h1, weak_sw hl ⟨.inr (.inr ⟨_, _, _, .inr ⟨rfl, rfl⟩⟩), trivial⟩, hk⟩
theorem PutWide_ok {a r : List UInt8} {id n : Nat} {size : Int} (hid : h.getD id .dead = .o 1 (byt (a ++ r))) (ha : a.length + 10 ≤ bigRoom) (hn : n < 18446744073709551616) (hK : PutsW h a id (wd (wsz n size) n) K (fun i l => .s i 0 l)) : ACall X 10 [.s id 0 a.length, U n, I size] h K :=
  see_w2 (PutWide_w hid ha hn fun h1 id1 g1 g2 g3 g4 g5 => ⟨id1, _, rfl, g4, hK h1 id1 g1 g2 g3 g4 g5⟩)
theorem PutWide_nil {n : Nat} {size : Int} (hn : n < 18446744073709551616) (hK : PutsN h (enc (wd (wsz n size) n)) K) : ACall X 10 [.v (.slice none 0 0), U n, I size] h K :=
  see_nil2 (PutWide_w (a := []) (r := []) hget_new (by decide) hn (puts_new hK))
/-! The document's. -/
theorem rPutU_ok {n : Nat} (hn : n < 18446744073709551616) (hK : PutsN h (enc (up 9 n)) K) : ACall X 17 [U n] h K := by
  apply i17
  (simp +contextual -dsimp only [R17, evA, evB, ↓a_on_t, ↓a_on_f, ↓a_on_und, ↓a_cond_b, ↓reduceIte, Go.Ab.part, List.getD_cons_zero, List.getD_cons_succ, List.set_cons_zero, List.set_cons_succ, List.length_cons, List.length_nil, List.cons_append, List.nil_append, cond_true, cond_false, Bool.cond_true, reduceCtorEq, Option.map_some, Option.map_none, forall_const, ne_eq, implies_true, Nat.reduceAdd, Nat.reduceLeDiff, Nat.reduceLT, Nat.beq, Option.isNone_none, beq_self_eq_true, bne_self_eq_false, Int.reduceBEq, Int.reduceBNe, Int.reduceLT, Int.reduceLE, Int.reduceGT, Int.reduceGE, Int.reduceEq, Int.reduceNe, Int.reduceToNat, List.take_zero, List.drop_zero, List.all_cons, List.all_nil, List.append_nil, List.length_append, List.length_set, List.append_assoc, List.drop_nil, List.take_nil] <;> try simp -dsimp only [if_conj])
  have hb : (11 : Nat) ≤ bigRoom := by decide
  refine aloop (fun f st => ∃ i m h1 id1, f + i ≤ 9 ∧ (up 9 n).drop i = up f m ∧ i ≤ (up 9 n).length ∧ m < 128 ^ (f + 1) ∧ m < 18446744073709551616 ∧ Grown (h ++ [.o 1 []]) h.length h1 id1 (.o 1 (byt (hi7 ((up 9 n).take i)))) ∧ st = ((U (m : Nat) :: sl st.1 1 :: sl st.1 2 :: .s id1 0 i :: sl st.1 4 :: sl st.1 5 :: sl st.1 6 :: sl st.1 7 :: sl st.1 8 :: sl st.1 9 :: sl st.1 10 :: sl st.1 11 :: sl st.1 12 :: sl st.1 13 :: sl st.1 14 :: sl st.1 15 :: sl st.1 16 :: sl st.1 17 :: sl st.1 18 :: sl st.1 19 :: []), h1)) 9 _ (Nat.le_refl _)
    (weak_nils (tm' := (U n :: .bad :: .bad :: .s h.length 0 0 :: .bad :: .bad :: .bad :: .bad :: .bad :: .bad :: .bad :: .bad :: .bad :: .bad :: .bad :: .bad :: .bad :: .bad :: .bad :: .bad :: [])) (sz := 1) (Nat.le_refl _) (by simp [NilOk])) ⟨0, n, h ++ [.o 1 []], h.length, by omega, rfl, Nat.zero_le _, by omega, hn, Grown.refl hget_new, rfl⟩ ?_
  rintro f st ⟨i, m, h1, id1, hfi, hu1, hu2, hm1, hm2, g, hst⟩
  rw [hst]
  have hid1 := hlt g.get (by simp)
  obtain ⟨u1, u2, u3, u4⟩ := up_prop 9 n
  have hne : ¬ h1.length = id1 := by omega
  have et : ∀ x : AV, List.take 1 [x] = [x] := fun _ => rfl
  have hal : (hi7 ((up 9 n).take i)).length = i := by rw [hi7_len, List.length_take]; omega
  have e2 : List.take i (byt (hi7 ((up 9 n).take i))) = byt (hi7 ((up 9 n).take i)) := List.take_of_length_le (by rw [byt_length, hal]; exact Nat.le_refl _)
  have s3 : ∀ y : Int, (h1 ++ [AO.o 1 [.v (.int .u8 y)]]).getD id1 .dead = .o 1 (byt (hi7 ((up 9 n).take i))) := fun y => hget_app g.get (by simp)
  by_cases hc : 128 ≤ m
  · have d1 : decide ((m : Int) ≥ 128) = true := by simp; omega
    have r1 : ((m : Nat) : Int).tmod 128 = ((m % 128 : Nat) : Int) := tmod_nat m 128
    have r2 : ((m : Nat) : Int).tdiv 128 = ((m / 128 : Nat) : Int) := tdiv_nat m 128
    have r3 : IntKind.u64.wrap (((m % 128 : Nat) : Int) + 128) = ((m % 128 + 128 : Nat) : Int) := by rw [wrap_u64 (by omega) (by omega)]; omega
    have r4 : IntKind.u8.wrap ((m % 128 + 128 : Nat) : Int) = ((m % 128 + 128 : Nat) : Int) := by rw [wrap_u8_eq]; omega
    have r5 : IntKind.u64.wrap ((m / 128 : Nat) : Int) = ((m / 128 : Nat) : Int) := wrap_u64 (by omega) (by omega)
    obtain ⟨f', hf, hxs, hm3⟩ : ∃ f', f = f' + 1 ∧ (up 9 n).drop i = m % 128 :: up f' (m / 128) ∧ m / 128 < 128 ^ (f' + 1) := by
      rcases up_case f m hm1 with ⟨_, b⟩ | ⟨f', a, b, c, d⟩
      · omega
      · exact ⟨f', a, hu1.trans b, d⟩
    obtain ⟨hk, hg, hd⟩ := drop_cons (d := 0) hxs
    (simp +contextual -dsimp only [R17, evA, evB, ↓a_on_t, ↓a_on_f, ↓a_on_und, ↓a_cond_b, ↓reduceIte, Go.Ab.part, List.getD_cons_zero, List.getD_cons_succ, List.set_cons_zero, List.set_cons_succ, List.length_cons, List.length_nil, List.cons_append, List.nil_append, cond_true, cond_false, Bool.cond_true, reduceCtorEq, Option.map_some, Option.map_none, forall_const, ne_eq, implies_true, Nat.reduceAdd, Nat.reduceLeDiff, Nat.reduceLT, Nat.beq, Option.isNone_none, beq_self_eq_true, bne_self_eq_false, Int.reduceBEq, Int.reduceBNe, Int.reduceLT, Int.reduceLE, Int.reduceGT, Int.reduceGE, Int.reduceEq, Int.reduceNe, Int.reduceToNat, List.take_zero, List.drop_zero, List.all_cons, List.all_nil, List.append_nil, List.length_append, List.length_set, List.append_assoc, List.drop_nil, List.take_nil, d1, r1, r2, r3, r4, r5, s3, hget_new, et, e2] <;> try simp -dsimp only [if_conj])
    rw [byt_snoc8 _ _ (by omega)]
    have gg := g.step (x := AO.o 1 [.v (.int .u8 ((m % 128 + 128 : Nat) : Int))]) (p := AO.o 1 (byt (hi7 ((up 9 n).take i) ++ [UInt8.ofNat (m % 128 + 128)]))) (by simp)
    rw [← hi7_snoc, ← hg, ← take_succ hk] at gg
    refine ⟨⟨by omega, by omega, hne⟩, f', _, by omega, Weak.refl _ (by have := gg.len; simp at this ⊢; omega), i + 1, m / 128, _, _, by omega, hd, by omega, hm3, by omega, gg, ?_⟩
    rw [← hi7_snoc, ← hg, ← take_succ hk]
    rfl
  · have d1 : decide ((m : Int) ≥ 128) = false := by simp; omega
    have r4 : IntKind.u8.wrap ((m : Nat) : Int) = ((m : Nat) : Int) := by rw [wrap_u8_eq]; omega
    have hxs : (up 9 n).drop i = [m] := by
      rcases up_case f m hm1 with ⟨a, b⟩ | ⟨f', a, b, c, d⟩
      · rw [hu1, a, Nat.mod_eq_of_lt (by omega)]
      · omega
    obtain ⟨hk, hg, hd⟩ := drop_cons (d := 0) hxs
    have hlen : i + 1 = (up 9 n).length := by have := List.drop_eq_nil_iff.1 hd; omega
    have henc : enc (up 9 n) = hi7 ((up 9 n).take i) ++ [UInt8.ofNat m] := by
      conv => lhs; rw [take_last hlen, hg]
      exact enc_snoc _ _
    (simp +contextual -dsimp only [R17, evA, evB, ↓a_on_t, ↓a_on_f, ↓a_on_und, ↓a_cond_b, ↓reduceIte, Go.Ab.part, List.getD_cons_zero, List.getD_cons_succ, List.set_cons_zero, List.set_cons_succ, List.length_cons, List.length_nil, List.cons_append, List.nil_append, cond_true, cond_false, Bool.cond_true, reduceCtorEq, Option.map_some, Option.map_none, forall_const, ne_eq, implies_true, Nat.reduceAdd, Nat.reduceLeDiff, Nat.reduceLT, Nat.beq, Option.isNone_none, beq_self_eq_true, bne_self_eq_false, Int.reduceBEq, Int.reduceBNe, Int.reduceLT, Int.reduceLE, Int.reduceGT, Int.reduceGE, Int.reduceEq, Int.reduceNe, Int.reduceToNat, List.take_zero, List.drop_zero, List.all_cons, List.all_nil, List.append_nil, List.length_append, List.length_set, List.append_assoc, List.drop_nil, List.take_nil, d1, r4, s3, hget_new, et, e2] <;> try simp -dsimp only [if_conj])
    refine ⟨⟨by omega, by omega, hne⟩, ?_⟩
    rw [byt_snoc8 _ _ (by omega), ← henc]
    have gg := g.step (x := AO.o 1 [.v (.int .u8 (m : Int))]) (p := AO.o 1 (byt (enc (up 9 n)))) (by simp)
    have := hK _ _ gg.keepsNew (by have := g.len; simp at this; omega) gg.get
    rw [enc_len, ← hlen] at this
    exact this
end Go.Proofs.Ytlfplmcidfflfaa
