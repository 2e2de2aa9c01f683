import Derived.Test.YtmjjfchahkdceaaDoorCH
import Derived.Test.YtmjjfchahkdceaaDoorCB
set_option linter.unusedVariables false
set_option linter.unusedSimpArgs false
set_option maxRecDepth 100000
set_option maxHeartbeats 1000000
namespace Go.Proofs.YtmjjfchahkdceaaDoor
open Go.Ab
variable {c : Cur} {h : Heap} {id : Nat} {K : Kt}
theorem rOf15_ok {l : List Hd} {r : AV} {o : Nat} (hl : l.length ≤ 30000) (i : IsR Hd.row 8 l r h) (hK : ∀ h', Keeps h h' → K.K (I (ofU 0 l o)) h') : ACall X 12 [r, U o] h K := by
  obtain ⟨id, h2, W, ad, g0⟩ := i.seen (X := X) [] [U o] (Nat.le_refl _)
  have g0 : h2.getD id .dead = .o 8 (hds l) := g0
  refine acall_weak W ad.len ?_
  have hll := hds_len l
  apply i12
  (simp +contextual -dsimp only [R12, evA, evB, ↓a_on_t, ↓a_on_f, ↓a_on_und, ↓a_cond_b, ↓reduceIte, Go.Ab.part, List.getD_cons_zero, List.getD_cons_succ, List.set_cons_zero, List.set_cons_succ, List.length_cons, List.length_nil, List.cons_append, List.nil_append, cond_true, cond_false, Bool.cond_true, reduceCtorEq, Option.map_some, Option.map_none, forall_const, ne_eq, implies_true, Nat.reduceAdd, Nat.reduceLeDiff, Nat.reduceLT, Nat.beq, Option.isNone_none, beq_self_eq_true, bne_self_eq_false, Int.reduceBEq, Int.reduceBNe, Int.reduceLT, Int.reduceLE, Int.reduceGT, Int.reduceGE, Int.reduceEq, Int.reduceNe, Int.reduceToNat, List.take_zero, List.drop_zero, List.all_cons, List.all_nil, List.append_nil, List.length_append, List.length_set, List.append_assoc, List.drop_nil, List.take_nil] <;> try simp -dsimp only [if_conj])
  refine aloop (fun m st => ∃ n, m + n = l.length ∧ ofU 0 l o = ofU n (l.drop n) o ∧ st = ((.s id 0 l.length :: U o :: sl st.1 2 :: sl st.1 3 :: sl st.1 4 :: I n :: sl st.1 6 :: sl st.1 7 :: sl st.1 8 :: sl st.1 9 :: sl st.1 10 :: sl st.1 11 :: sl st.1 12 :: sl st.1 13 :: sl st.1 14 :: sl st.1 15 :: sl st.1 16 :: sl st.1 17 :: sl st.1 18 :: sl st.1 19 :: sl st.1 20 :: sl st.1 21 :: sl st.1 22 :: sl st.1 23 :: sl st.1 24 :: sl st.1 25 :: sl st.1 26 :: sl st.1 27 :: sl st.1 28 :: []), h2)) l.length _ (Nat.le_refl _) (Weak.refl _ (Nat.le_refl _)) ⟨0, by omega, rfl, rfl⟩ ?_
  rintro m st ⟨n, hm, he, hst⟩
  rw [hst]
  by_cases hz : n < l.length
  · have hz' : decide ((n : Int) < l.length) = true := by simp; omega
    have hn1 : IntKind.i64.wrap ((n : Int) + 1) = ((n + 1 : Nat) : Int) := by rw [wrap_i64 (by omega) (by omega)]; rfl
    have c6 : (hds l).getD (n * 8 + 6) .bad = U (l.getD n default).first := hd_at (j := 6) hz (by decide)
    have c7 : (hds l).getD (n * 8 + 7) .bad = U (l.getD n default).fin := hd_at (j := 7) hz (by decide)
    rw [ofU_drop hz] at he
    generalize l.getD n default = R at *
    by_cases h1 : R.first ≤ o
    · have d1 : decide ((o : Int) ≥ R.first) = true := by simp; omega
      by_cases h2 : o < R.fin
      · have d2 : decide ((o : Int) < R.fin) = true := by simp; omega
        rw [if_pos ⟨h1, h2⟩] at he
        (simp +contextual -dsimp only [R12, evA, evB, ↓a_on_t, ↓a_on_f, ↓a_on_und, ↓a_cond_b, ↓reduceIte, Go.Ab.part, List.getD_cons_zero, List.getD_cons_succ, List.set_cons_zero, List.set_cons_succ, List.length_cons, List.length_nil, List.cons_append, List.nil_append, cond_true, cond_false, Bool.cond_true, reduceCtorEq, Option.map_some, Option.map_none, forall_const, ne_eq, implies_true, Nat.reduceAdd, Nat.reduceLeDiff, Nat.reduceLT, Nat.beq, Option.isNone_none, beq_self_eq_true, bne_self_eq_false, Int.reduceBEq, Int.reduceBNe, Int.reduceLT, Int.reduceLE, Int.reduceGT, Int.reduceGE, Int.reduceEq, Int.reduceNe, Int.reduceToNat, List.take_zero, List.drop_zero, List.all_cons, List.all_nil, List.append_nil, List.length_append, List.length_set, List.append_assoc, List.drop_nil, List.take_nil, hz', g0, c6, c7, d1, d2] <;> try simp -dsimp only [if_conj])
        rw [he] at hK
        repeat' apply And.intro
        all_goals first | omega | exact hK _ (Keeps.adds ad)
      · have d2 : decide ((o : Int) < R.fin) = false := by simp; omega
        rw [if_neg (fun h => h2 h.2)] at he
        (simp +contextual -dsimp only [R12, evA, evB, ↓a_on_t, ↓a_on_f, ↓a_on_und, ↓a_cond_b, ↓reduceIte, Go.Ab.part, List.getD_cons_zero, List.getD_cons_succ, List.set_cons_zero, List.set_cons_succ, List.length_cons, List.length_nil, List.cons_append, List.nil_append, cond_true, cond_false, Bool.cond_true, reduceCtorEq, Option.map_some, Option.map_none, forall_const, ne_eq, implies_true, Nat.reduceAdd, Nat.reduceLeDiff, Nat.reduceLT, Nat.beq, Option.isNone_none, beq_self_eq_true, bne_self_eq_false, Int.reduceBEq, Int.reduceBNe, Int.reduceLT, Int.reduceLE, Int.reduceGT, Int.reduceGE, Int.reduceEq, Int.reduceNe, Int.reduceToNat, List.take_zero, List.drop_zero, List.all_cons, List.all_nil, List.append_nil, List.length_append, List.length_set, List.append_assoc, List.drop_nil, List.take_nil, hz', g0, c6, c7, d1, d2, hn1] <;> try simp -dsimp only [if_conj])
        repeat' apply And.intro
        all_goals first | omega | exact ⟨m - 1, _, by omega, Weak.refl _ (Nat.le_refl _), n + 1, by omega, he, rfl⟩
    · have d1 : decide ((o : Int) ≥ R.first) = false := by simp; omega
      rw [if_neg (fun h => h1 h.1)] at he
      (simp +contextual -dsimp only [R12, evA, evB, ↓a_on_t, ↓a_on_f, ↓a_on_und, ↓a_cond_b, ↓reduceIte, Go.Ab.part, List.getD_cons_zero, List.getD_cons_succ, List.set_cons_zero, List.set_cons_succ, List.length_cons, List.length_nil, List.cons_append, List.nil_append, cond_true, cond_false, Bool.cond_true, reduceCtorEq, Option.map_some, Option.map_none, forall_const, ne_eq, implies_true, Nat.reduceAdd, Nat.reduceLeDiff, Nat.reduceLT, Nat.beq, Option.isNone_none, beq_self_eq_true, bne_self_eq_false, Int.reduceBEq, Int.reduceBNe, Int.reduceLT, Int.reduceLE, Int.reduceGT, Int.reduceGE, Int.reduceEq, Int.reduceNe, Int.reduceToNat, List.take_zero, List.drop_zero, List.all_cons, List.all_nil, List.append_nil, List.length_append, List.length_set, List.append_assoc, List.drop_nil, List.take_nil, hz', g0, c6, c7, d1, hn1] <;> try simp -dsimp only [if_conj])
      repeat' apply And.intro
      all_goals first | omega | exact ⟨m - 1, _, by omega, Weak.refl _ (Nat.le_refl _), n + 1, by omega, he, rfl⟩
  · have hz' : decide ((n : Int) < l.length) = false := by simp; omega
    have e1 : ofU n (l.drop n) o = -1 := by rw [List.drop_of_length_le (by omega)]; rfl
    rw [he, e1] at hK
    (simp +contextual -dsimp only [R12, evA, evB, ↓a_on_t, ↓a_on_f, ↓a_on_und, ↓a_cond_b, ↓reduceIte, Go.Ab.part, List.getD_cons_zero, List.getD_cons_succ, List.set_cons_zero, List.set_cons_succ, List.length_cons, List.length_nil, List.cons_append, List.nil_append, cond_true, cond_false, Bool.cond_true, reduceCtorEq, Option.map_some, Option.map_none, forall_const, ne_eq, implies_true, Nat.reduceAdd, Nat.reduceLeDiff, Nat.reduceLT, Nat.beq, Option.isNone_none, beq_self_eq_true, bne_self_eq_false, Int.reduceBEq, Int.reduceBNe, Int.reduceLT, Int.reduceLE, Int.reduceGT, Int.reduceGE, Int.reduceEq, Int.reduceNe, Int.reduceToNat, List.take_zero, List.drop_zero, List.all_cons, List.all_nil, List.append_nil, List.length_append, List.length_set, List.append_assoc, List.drop_nil, List.take_nil, hz'] <;> try simp -dsimp only [if_conj])
    exact hK _ (Keeps.adds ad)
theorem fits_ok {n : Nat} {w : Bool} (hK : K.K (Bo (w || decide (n < 4294967296))) h) : ACall X 26 [U n, Bo w] h K := by
  apply i26
  have hsh : (n : Int).fdiv (2 ^ min 32 IntKind.u64.bits) = ((n / 4294967296 : Nat) : Int) := by
    rw [show min 32 IntKind.u64.bits = 32 from rfl]
    rw [Int.fdiv_eq_ediv_of_nonneg _ (by decide)]; rfl
  cases w
  · (simp +contextual -dsimp only [R26, evA, evB, ↓a_on_t, ↓a_on_f, ↓a_on_und, ↓a_cond_b, ↓reduceIte, Go.Ab.part, List.getD_cons_zero, List.getD_cons_succ, List.set_cons_zero, List.set_cons_succ, List.length_cons, List.length_nil, List.cons_append, List.nil_append, cond_true, cond_false, Bool.cond_true, reduceCtorEq, Option.map_some, Option.map_none, forall_const, ne_eq, implies_true, Nat.reduceAdd, Nat.reduceLeDiff, Nat.reduceLT, Nat.beq, Option.isNone_none, beq_self_eq_true, bne_self_eq_false, Int.reduceBEq, Int.reduceBNe, Int.reduceLT, Int.reduceLE, Int.reduceGT, Int.reduceGE, Int.reduceEq, Int.reduceNe, Int.reduceToNat, List.take_zero, List.drop_zero, List.all_cons, List.all_nil, List.append_nil, List.length_append, List.length_set, List.append_assoc, List.drop_nil, List.take_nil, hsh] <;> try simp -dsimp only [if_conj])
    have : (((n / 4294967296 : Nat) : Int) == 0) = decide (n < 4294967296) := by
      by_cases e : n < 4294967296
      · rw [decide_eq_true e]; simp; omega
      · rw [decide_eq_false e]; simp; omega
    rw [this]
    simpa using hK
  · (simp +contextual -dsimp only [R26, evA, evB, ↓a_on_t, ↓a_on_f, ↓a_on_und, ↓a_cond_b, ↓reduceIte, Go.Ab.part, List.getD_cons_zero, List.getD_cons_succ, List.set_cons_zero, List.set_cons_succ, List.length_cons, List.length_nil, List.cons_append, List.nil_append, cond_true, cond_false, Bool.cond_true, reduceCtorEq, Option.map_some, Option.map_none, forall_const, ne_eq, implies_true, Nat.reduceAdd, Nat.reduceLeDiff, Nat.reduceLT, Nat.beq, Option.isNone_none, beq_self_eq_true, bne_self_eq_false, Int.reduceBEq, Int.reduceBNe, Int.reduceLT, Int.reduceLE, Int.reduceGT, Int.reduceGE, Int.reduceEq, Int.reduceNe, Int.reduceToNat, List.take_zero, List.drop_zero, List.all_cons, List.all_nil, List.append_nil, List.length_append, List.length_set, List.append_assoc, List.drop_nil, List.take_nil] <;> try simp -dsimp only [if_conj])
    simpa using hK
def uBad (R : Hd) : Prop := uSize R.kind R.w = 0 ∨ (R.w = false ∧ (4294967296 ≤ R.ab ∨ 4294967296 ≤ R.ty)) ∨ (R.kind ≠ 2 ∧ (R.sig ≠ 0 ∨ R.ty ≠ 0))
instance (R : Hd) : Decidable (uBad R) := by unfold uBad; infer_instance
def uBody (R : Hd) (m : List UInt8) : List UInt8 := [5, 0, UInt8.ofNat R.kind.toNat, 8] ++ leB (lenW R.w) R.ab ++ (if R.kind = 2 then leB 8 R.sig ++ leB (lenW R.w) R.ty else []) ++ m
def uPut (R : Hd) (m : List UInt8) : List UInt8 × Int := if uBad R then ([], 2) else (lenB (uBody R m).length R.w ++ uBody R m, 0)
theorem Put_nil {n : Nat} {size : Int}
    (hK : ∀ h1 id1, Keeps h h1 → h.length ≤ id1 → h1.getD id1 .dead = .o 1 (byt (leB (wid size) n)) → K.K (.s id1 0 (wid size)) h1) : ACall X 28 [.v (.slice none 0 0), U n, I size] h K := by
  have hb : (100 : Nat) ≤ bigRoom := by decide
  refine acall_weak (args' := [.s h.length 0 0, U n, I size]) (h' := h ++ [.o 1 []]) (weak_nils (Nat.le_refl _) ?_) (by simp) ?_
  · exact ⟨.inr (.inr ⟨rfl, _, _, rfl⟩), .inl rfl, .inl rfl, trivial⟩
  · refine Put_ok (l := []) hget_new (by simp; omega) fun h1 id1 g => ?_
    rw [List.nil_append] at g
    have := hK h1 id1 g.keepsNew (by rcases g.is with e | e <;> (try simp at e) <;> omega) g.get
    simpa using this
theorem Put15_t {k : Int} {w : Bool} {ab sig ty o1 o2 o3 b : Nat} {g : Heap} {m : List UInt8} {r : AV} (hk : k = 1 ∨ k = 2 ∨ k = 3) (hm : m.length ≤ 300000) (k0 : Keeps h g) (hb : h.length ≤ b) (gb : g.getD b .dead = .o 1 [I k, Bo w, U ab, U sig, U ty, U o1, U o2, U o3]) (im : IsB m r g) 
    (hK : ∀ h' r', Keeps h h' → IsB (lenB (uBody ⟨k, w, ab, sig, ty, o1, o2, o3⟩ m).length w ++ uBody ⟨k, w, ab, sig, ty, o1, o2, o3⟩ m) r' h' → (∀ j, j < h.length → otherId j r') → K.K (.t [r', I 0]) h') :
    ∀ st : St, st = ((sl st.1 0 :: r :: .p b 0 :: sl st.1 3 :: sl st.1 4 :: sl st.1 5 :: I (lenW w) :: sl st.1 7 :: sl st.1 8 :: sl st.1 9 :: sl st.1 10 :: sl st.1 11 :: sl st.1 12 :: sl st.1 13 :: sl st.1 14 :: sl st.1 15 :: sl st.1 16 :: sl st.1 17 :: sl st.1 18 :: sl st.1 19 :: sl st.1 20 :: sl st.1 21 :: sl st.1 22 :: sl st.1 23 :: sl st.1 24 :: sl st.1 25 :: sl st.1 26 :: sl st.1 27 :: sl st.1 28 :: sl st.1 29 :: sl st.1 30 :: sl st.1 31 :: sl st.1 32 :: sl st.1 33 :: sl st.1 34 :: sl st.1 35 :: sl st.1 36 :: sl st.1 37 :: sl st.1 38 :: sl st.1 39 :: sl st.1 40 :: sl st.1 41 :: sl st.1 42 :: sl st.1 43 :: sl st.1 44 :: sl st.1 45 :: sl st.1 46 :: sl st.1 47 :: sl st.1 48 :: sl st.1 49 :: sl st.1 50 :: sl st.1 51 :: sl st.1 52 :: sl st.1 53 :: sl st.1 54 :: sl st.1 55 :: sl st.1 56 :: sl st.1 57 :: sl st.1 58 :: sl st.1 59 :: sl st.1 60 :: sl st.1 61 :: sl st.1 62 :: sl st.1 63 :: sl st.1 64 :: sl st.1 65 :: sl st.1 66 :: sl st.1 67 :: sl st.1 68 :: sl st.1 69 :: sl st.1 70 :: sl st.1 71 :: sl st.1 72 :: sl st.1 73 :: sl st.1 74 :: sl st.1 75 :: sl st.1 76 :: sl st.1 77 :: sl st.1 78 :: sl st.1 79 :: sl st.1 80 :: sl st.1 81 :: sl st.1 82 :: sl st.1 83 :: sl st.1 84 :: sl st.1 85 :: []), g) → awp X h.length c13_12 (retQ X Tryd.f13 K) st := by
  have hbig : (3000000 : Nat) ≤ bigRoom := by decide
  intro st hst
  rw [hst]
  have lb := hlt gb (by simp)
  have ew : wid ((lenW w : Nat) : Int) = lenW w := wid_nat (by cases w <;> decide)
  have lw : lenW w ≤ 8 := by cases w <;> decide
  have ek : IntKind.u8.wrap k = ((UInt8.ofNat k.toNat).toNat : Int) := by rcases hk with rfl | rfl | rfl <;> rfl
  (simp +contextual -dsimp only [R13, evA, evB, ↓a_on_t, ↓a_on_f, ↓a_on_und, ↓a_cond_b, ↓reduceIte, Go.Ab.part, List.getD_cons_zero, List.getD_cons_succ, List.set_cons_zero, List.set_cons_succ, List.length_cons, List.length_nil, List.cons_append, List.nil_append, cond_true, cond_false, Bool.cond_true, reduceCtorEq, Option.map_some, Option.map_none, forall_const, ne_eq, implies_true, Nat.reduceAdd, Nat.reduceLeDiff, Nat.reduceLT, Nat.beq, Option.isNone_none, beq_self_eq_true, bne_self_eq_false, Int.reduceBEq, Int.reduceBNe, Int.reduceLT, Int.reduceLE, Int.reduceGT, Int.reduceGE, Int.reduceEq, Int.reduceNe, Int.reduceToNat, List.take_zero, List.drop_zero, List.all_cons, List.all_nil, List.append_nil, List.length_append, List.length_set, List.append_assoc, List.drop_nil, List.take_nil] <;> try simp -dsimp only [if_conj])
  refine Put_nil fun h1 i1 k1 q1 g1 => ?_
  rw [show wid 2 = 2 from rfl] at g1 ⊢
  have gb1 := k1.at gb (by simp)
  have n1 := hlt g1 (by simp)
  (simp +contextual -dsimp only [R13, evA, evB, ↓a_on_t, ↓a_on_f, ↓a_on_und, ↓a_cond_b, ↓reduceIte, Go.Ab.part, List.getD_cons_zero, List.getD_cons_succ, List.set_cons_zero, List.set_cons_succ, List.length_cons, List.length_nil, List.cons_append, List.nil_append, cond_true, cond_false, Bool.cond_true, reduceCtorEq, Option.map_some, Option.map_none, forall_const, ne_eq, implies_true, Nat.reduceAdd, Nat.reduceLeDiff, Nat.reduceLT, Nat.beq, Option.isNone_none, beq_self_eq_true, bne_self_eq_false, Int.reduceBEq, Int.reduceBNe, Int.reduceLT, Int.reduceLE, Int.reduceGT, Int.reduceGE, Int.reduceEq, Int.reduceNe, Int.reduceToNat, List.take_zero, List.drop_zero, List.all_cons, List.all_nil, List.append_nil, List.length_append, List.length_set, List.append_assoc, List.drop_nil, List.take_nil, gb1, hget_app gb1, hget_app g1, hget_new, fill, setAt] <;> try simp -dsimp only [if_conj])
  have et2 : ∀ x y : AV, List.take 2 [x, y] = [x, y] := fun _ _ => rfl
  refine ⟨⟨by omega, rfl, by omega⟩, ?_⟩
  obtain ⟨kb, hkb⟩ : ∃ kb, kb = UInt8.ofNat k.toNat := ⟨_, rfl⟩
  rw [et2, ek, ← hkb, show byt (leB 2 5) ++ [AV.v (.int .u8 (kb.toNat : Int)), AV.v (.int .u8 8)] = byt [5, 0, kb, 8] from rfl]
  have k2 : Keeps g ((h1 ++ [AO.o 1 [AV.v (.int .u8 (kb.toNat : Int)), AV.v (.int .u8 8)]]).set i1 .dead ++ [AO.o 1 (byt [5, 0, kb, 8])]) := (k1.trans (Keeps.adds Adds.mk)).push q1
  have g2 : ((h1 ++ [AO.o 1 [AV.v (.int .u8 (kb.toNat : Int)), AV.v (.int .u8 8)]]).set i1 .dead ++ [AO.o 1 (byt [5, 0, kb, 8])]).getD (h1.length + 1) .dead = .o 1 (byt [5, 0, kb, 8]) := ap_get
  have q2 : g.length ≤ h1.length + 1 := by have := k1.len; omega
  generalize ((h1 ++ [AO.o 1 [AV.v (.int .u8 (kb.toNat : Int)), AV.v (.int .u8 8)]]).set i1 .dead ++ [AO.o 1 (byt [5, 0, kb, 8])]) = H2 at *
  generalize h1.length + 1 = i2 at *
  have gb2 := k2.at gb (by simp)
  (simp +contextual -dsimp only [R13, evA, evB, ↓a_on_t, ↓a_on_f, ↓a_on_und, ↓a_cond_b, ↓reduceIte, Go.Ab.part, List.getD_cons_zero, List.getD_cons_succ, List.set_cons_zero, List.set_cons_succ, List.length_cons, List.length_nil, List.cons_append, List.nil_append, cond_true, cond_false, Bool.cond_true, reduceCtorEq, Option.map_some, Option.map_none, forall_const, ne_eq, implies_true, Nat.reduceAdd, Nat.reduceLeDiff, Nat.reduceLT, Nat.beq, Option.isNone_none, beq_self_eq_true, bne_self_eq_false, Int.reduceBEq, Int.reduceBNe, Int.reduceLT, Int.reduceLE, Int.reduceGT, Int.reduceGE, Int.reduceEq, Int.reduceNe, Int.reduceToNat, List.take_zero, List.drop_zero, List.all_cons, List.all_nil, List.append_nil, List.length_append, List.length_set, List.append_assoc, List.drop_nil, List.take_nil, gb2] <;> try simp -dsimp only [if_conj])
  refine Put_ok (l := [5, 0, kb, 8]) g2 (by simp; omega) fun h3 i3 gr3 => ?_
  rw [ew] at gr3 ⊢
  obtain ⟨l3, hl3⟩ : ∃ l3, l3 = [5, 0, kb, 8] ++ leB (lenW w) ab := ⟨_, rfl⟩
  have ll3 : l3.length = 4 + lenW w := by rw [hl3, List.length_append, leB_length]; rfl
  rw [← hl3] at gr3
  rw [show [5, 0, kb, 8].length + lenW w = l3.length by rw [ll3]; rfl]
  have k3 : Keeps g h3 := ⟨Nat.le_trans k2.len gr3.len, fun {j} hj => by rw [gr3.keep _ (by have := k2.len; omega) (by omega)]; exact k2.get hj⟩
  have q3 : g.length ≤ i3 := by rcases gr3.is with e | e <;> (have := k2.len; omega)
  have gb3 := k3.at gb (by simp)
  have key : ∀ (h4 : Heap) (i4 : Nat) (l4 : List UInt8), Keeps g h4 → g.length ≤ i4 → h4.getD i4 .dead = .o 1 (byt l4) → l4.length ≤ 1000 → l4 ++ m = uBody ⟨k, w, ab, sig, ty, o1, o2, o3⟩ m → ∀ st : St, st = ((sl st.1 0 :: r :: .p b 0 :: sl st.1 3 :: sl st.1 4 :: sl st.1 5 :: sl st.1 6 :: .s i4 0 l4.length :: sl st.1 8 :: sl st.1 9 :: sl st.1 10 :: sl st.1 11 :: sl st.1 12 :: sl st.1 13 :: sl st.1 14 :: sl st.1 15 :: sl st.1 16 :: sl st.1 17 :: sl st.1 18 :: sl st.1 19 :: sl st.1 20 :: sl st.1 21 :: sl st.1 22 :: sl st.1 23 :: sl st.1 24 :: sl st.1 25 :: sl st.1 26 :: sl st.1 27 :: sl st.1 28 :: sl st.1 29 :: sl st.1 30 :: sl st.1 31 :: sl st.1 32 :: sl st.1 33 :: sl st.1 34 :: sl st.1 35 :: sl st.1 36 :: sl st.1 37 :: sl st.1 38 :: sl st.1 39 :: sl st.1 40 :: sl st.1 41 :: sl st.1 42 :: sl st.1 43 :: sl st.1 44 :: sl st.1 45 :: sl st.1 46 :: sl st.1 47 :: sl st.1 48 :: sl st.1 49 :: sl st.1 50 :: sl st.1 51 :: sl st.1 52 :: sl st.1 53 :: sl st.1 54 :: sl st.1 55 :: sl st.1 56 :: sl st.1 57 :: sl st.1 58 :: sl st.1 59 :: sl st.1 60 :: sl st.1 61 :: sl st.1 62 :: sl st.1 63 :: sl st.1 64 :: sl st.1 65 :: sl st.1 66 :: sl st.1 67 :: sl st.1 68 :: sl st.1 69 :: sl st.1 70 :: sl st.1 71 :: sl st.1 72 :: sl st.1 73 :: sl st.1 74 :: sl st.1 75 :: sl st.1 76 :: sl st.1 77 :: sl st.1 78 :: sl st.1 79 :: sl st.1 80 :: sl st.1 81 :: sl st.1 82 :: sl st.1 83 :: sl st.1 84 :: sl st.1 85 :: []), h4) → awp X h.length c13_24 (retQ X Tryd.f13 K) st := by
    intro h4 i4 l4 k4 q4 g4 hl4 hb4 st hst
    rw [hst]
    have gb4 := k4.at gb (by simp)
    have im4 := im.keeps k4
    have ub : (uBody ⟨k, w, ab, sig, ty, o1, o2, o3⟩ m).length = l4.length + m.length := by rw [← hb4, List.length_append]
    have gb5 : ∀ p : AO, (h4.set i4 .dead ++ [p]).getD b .dead = .o 1 [I k, Bo w, U ab, U sig, U ty, U o1, U o2, U o3] := fun p => hget_app (by rw [hget_set_ne (by omega)]; exact gb4) (by simp)
    have g5 : (h4.set i4 .dead ++ [AO.o 1 (byt (l4 ++ m))]).getD h4.length .dead = .o 1 (byt (l4 ++ m)) := by rw [show h4.length = (h4.set i4 .dead).length by simp]; exact hget_new
    have k5 := k4.push (p := AO.o 1 (byt (l4 ++ m))) q4
    have on : otherId i4 r := im.ne q4
    (simp +contextual -dsimp only [R13, evA, evB, ↓a_on_t, ↓a_on_f, ↓a_on_und, ↓a_cond_b, ↓reduceIte, Go.Ab.part, List.getD_cons_zero, List.getD_cons_succ, List.set_cons_zero, List.set_cons_succ, List.length_cons, List.length_nil, List.cons_append, List.nil_append, cond_true, cond_false, Bool.cond_true, reduceCtorEq, Option.map_some, Option.map_none, forall_const, ne_eq, implies_true, Nat.reduceAdd, Nat.reduceLeDiff, Nat.reduceLT, Nat.beq, Option.isNone_none, beq_self_eq_true, bne_self_eq_false, Int.reduceBEq, Int.reduceBNe, Int.reduceLT, Int.reduceLE, Int.reduceGT, Int.reduceGE, Int.reduceEq, Int.reduceNe, Int.reduceToNat, List.take_zero, List.drop_zero, List.all_cons, List.all_nil, List.append_nil, List.length_append, List.length_set, List.append_assoc, List.drop_nil, List.take_nil, gb4, g4, im4.src, gb5] <;> try simp -dsimp only [if_conj])
    refine ⟨⟨by omega, on⟩, ?_⟩
    rw [byt_append, hb4, ← ub]
    rw [hb4] at g5 k5
    refine Wrap_nil (by omega) (IsB.s g5) fun h6 i6 gr6 => ?_
    have k6 := gr6.keepsNew
    (simp +contextual -dsimp only [R13, evA, evB, ↓a_on_t, ↓a_on_f, ↓a_on_und, ↓a_cond_b, ↓reduceIte, Go.Ab.part, List.getD_cons_zero, List.getD_cons_succ, List.set_cons_zero, List.set_cons_succ, List.length_cons, List.length_nil, List.cons_append, List.nil_append, cond_true, cond_false, Bool.cond_true, reduceCtorEq, Option.map_some, Option.map_none, forall_const, ne_eq, implies_true, Nat.reduceAdd, Nat.reduceLeDiff, Nat.reduceLT, Nat.beq, Option.isNone_none, beq_self_eq_true, bne_self_eq_false, Int.reduceBEq, Int.reduceBNe, Int.reduceLT, Int.reduceLE, Int.reduceGT, Int.reduceGE, Int.reduceEq, Int.reduceNe, Int.reduceToNat, List.take_zero, List.drop_zero, List.all_cons, List.all_nil, List.append_nil, List.length_append, List.length_set, List.append_assoc, List.drop_nil, List.take_nil] <;> try simp -dsimp only [if_conj])
    have := hK _ _ (k0.trans (k5.trans k6)) (IsB.s gr6.get) (fun j hj => by have h1 := k5.len; have h2 := k0.len; rcases gr6.is with e | e <;> (try simp at e) <;> (simp at h1; show i6 ≠ j; omega))
    rw [List.length_append] at this
    exact this
  by_cases k2' : k = 2
  · subst k2'
    (simp +contextual -dsimp only [evA, evB, ↓a_on_t, ↓a_on_f, ↓a_on_und, ↓a_cond_b, ↓reduceIte, Go.Ab.part, List.getD_cons_zero, List.getD_cons_succ, List.set_cons_zero, List.set_cons_succ, List.length_cons, List.length_nil, List.cons_append, List.nil_append, cond_true, cond_false, Bool.cond_true, reduceCtorEq, Option.map_some, Option.map_none, forall_const, ne_eq, implies_true, Nat.reduceAdd, Nat.reduceLeDiff, Nat.reduceLT, Nat.beq, Option.isNone_none, beq_self_eq_true, bne_self_eq_false, Int.reduceBEq, Int.reduceBNe, Int.reduceLT, Int.reduceLE, Int.reduceGT, Int.reduceGE, Int.reduceEq, Int.reduceNe, Int.reduceToNat, List.take_zero, List.drop_zero, List.all_cons, List.all_nil, List.append_nil, List.length_append, List.length_set, List.append_assoc, List.drop_nil, List.take_nil, w13_18, w13_20, w13_19, w13_21, w13_22, gb3] <;> try simp -dsimp only [if_conj])
    have q8 : wid 8 = 8 := rfl
    refine Put_ok gr3.get (by omega) fun h4 i4 gr4 => ?_
    rw [q8] at gr4 ⊢
    have k4 : Keeps g h4 := ⟨Nat.le_trans k3.len gr4.len, fun {j} hj => by rw [gr4.keep _ (by have := k3.len; omega) (by omega)]; exact k3.get hj⟩
    have q4 : g.length ≤ i4 := by rcases gr4.is with e | e <;> (have := k3.len; omega)
    have gb4 := k4.at gb (by simp)
    have ll4 : (l3 ++ leB 8 sig).length = l3.length + 8 := by rw [List.length_append, leB_length]
    (simp +contextual -dsimp only [evA, evB, ↓a_on_t, ↓a_on_f, ↓a_on_und, ↓a_cond_b, ↓reduceIte, Go.Ab.part, List.getD_cons_zero, List.getD_cons_succ, List.set_cons_zero, List.set_cons_succ, List.length_cons, List.length_nil, List.cons_append, List.nil_append, cond_true, cond_false, Bool.cond_true, reduceCtorEq, Option.map_some, Option.map_none, forall_const, ne_eq, implies_true, Nat.reduceAdd, Nat.reduceLeDiff, Nat.reduceLT, Nat.beq, Option.isNone_none, beq_self_eq_true, bne_self_eq_false, Int.reduceBEq, Int.reduceBNe, Int.reduceLT, Int.reduceLE, Int.reduceGT, Int.reduceGE, Int.reduceEq, Int.reduceNe, Int.reduceToNat, List.take_zero, List.drop_zero, List.all_cons, List.all_nil, List.append_nil, List.length_append, List.length_set, List.append_assoc, List.drop_nil, List.take_nil, gb4] <;> try simp -dsimp only [if_conj])
    rw [← ll4]
    refine Put_ok gr4.get (by omega) fun h5 i5 gr5 => ?_
    rw [ew] at gr5 ⊢
    have k5 : Keeps g h5 := ⟨Nat.le_trans k4.len gr5.len, fun {j} hj => by rw [gr5.keep _ (by have := k4.len; omega) (by omega)]; exact k4.get hj⟩
    have q5 : g.length ≤ i5 := by rcases gr5.is with e | e <;> (have := k4.len; omega)
    have ll5 : (l3 ++ leB 8 sig ++ leB (lenW w) ty).length = (l3 ++ leB 8 sig).length + lenW w := by rw [List.length_append, leB_length]
    (simp +contextual -dsimp only [evA, evB, ↓a_on_t, ↓a_on_f, ↓a_on_und, ↓a_cond_b, ↓reduceIte, Go.Ab.part, List.getD_cons_zero, List.getD_cons_succ, List.set_cons_zero, List.set_cons_succ, List.length_cons, List.length_nil, List.cons_append, List.nil_append, cond_true, cond_false, Bool.cond_true, reduceCtorEq, Option.map_some, Option.map_none, forall_const, ne_eq, implies_true, Nat.reduceAdd, Nat.reduceLeDiff, Nat.reduceLT, Nat.beq, Option.isNone_none, beq_self_eq_true, bne_self_eq_false, Int.reduceBEq, Int.reduceBNe, Int.reduceLT, Int.reduceLE, Int.reduceGT, Int.reduceGE, Int.reduceEq, Int.reduceNe, Int.reduceToNat, List.take_zero, List.drop_zero, List.all_cons, List.all_nil, List.append_nil, List.length_append, List.length_set, List.append_assoc, List.drop_nil, List.take_nil] <;> try simp -dsimp only [if_conj])
    have key := key h5 i5 _ k5 q5 gr5.get (by omega) (by rw [hl3, hkb]; simp [uBody])
    rw [ll5, ll4] at key
    refine key _ ?_
    rfl
  · have k2b : (k == 2) = false := by simp [k2']
    (simp +contextual -dsimp only [evA, evB, ↓a_on_t, ↓a_on_f, ↓a_on_und, ↓a_cond_b, ↓reduceIte, Go.Ab.part, List.getD_cons_zero, List.getD_cons_succ, List.set_cons_zero, List.set_cons_succ, List.length_cons, List.length_nil, List.cons_append, List.nil_append, cond_true, cond_false, Bool.cond_true, reduceCtorEq, Option.map_some, Option.map_none, forall_const, ne_eq, implies_true, Nat.reduceAdd, Nat.reduceLeDiff, Nat.reduceLT, Nat.beq, Option.isNone_none, beq_self_eq_true, bne_self_eq_false, Int.reduceBEq, Int.reduceBNe, Int.reduceLT, Int.reduceLE, Int.reduceGT, Int.reduceGE, Int.reduceEq, Int.reduceNe, Int.reduceToNat, List.take_zero, List.drop_zero, List.all_cons, List.all_nil, List.append_nil, List.length_append, List.length_set, List.append_assoc, List.drop_nil, List.take_nil, w13_18, w13_19, w13_20, w13_21, w13_23, gb3, k2b] <;> try simp -dsimp only [if_conj])
    refine key h3 i3 l3 k3 q3 gr3.get (by omega) (by rw [hl3, hkb]; simp [uBody, k2']) _ ?_
    rfl
theorem Put15_ok {R : Hd} {m : List UInt8} {r : AV} (hm : m.length ≤ 300000) (im : IsB m r h) (hK : ∀ h' r', Keeps h h' → IsB (uPut R m).1 r' h' → (∀ j, j < h.length → otherId j r') → K.K (.t [r', I (uPut R m).2]) h') : ACall X 13 [.g R.row, r] h K := by
  have kk : Keeps h (h ++ [.o 1 R.row]) := Keeps.adds Adds.mk
  have bad : uBad R → K.K (.t [.v (.slice none 0 0), I 2]) (h ++ [.o 1 R.row]) := fun hb => by
    have e : uPut R m = ([], 2) := if_pos hb
    rw [e] at hK
    exact hK _ _ kk (.inl ⟨rfl, rfl⟩) (fun _ _ => trivial)
  rw [Hd.row] at bad
  apply i13
  (simp +contextual -dsimp only [R13, evA, evB, ↓a_on_t, ↓a_on_f, ↓a_on_und, ↓a_cond_b, ↓reduceIte, Go.Ab.part, List.getD_cons_zero, List.getD_cons_succ, List.set_cons_zero, List.set_cons_succ, List.length_cons, List.length_nil, List.cons_append, List.nil_append, cond_true, cond_false, Bool.cond_true, reduceCtorEq, Option.map_some, Option.map_none, forall_const, ne_eq, implies_true, Nat.reduceAdd, Nat.reduceLeDiff, Nat.reduceLT, Nat.beq, Option.isNone_none, beq_self_eq_true, bne_self_eq_false, Int.reduceBEq, Int.reduceBNe, Int.reduceLT, Int.reduceLE, Int.reduceGT, Int.reduceGE, Int.reduceEq, Int.reduceNe, Int.reduceToNat, List.take_zero, List.drop_zero, List.all_cons, List.all_nil, List.append_nil, List.length_append, List.length_set, List.append_assoc, List.drop_nil, List.take_nil, Hd.row, hget_new] <;> try simp -dsimp only [if_conj])
  refine Size_ok ?_
  by_cases z0 : uSize R.kind R.w = 0
  · have z0' : (((uSize R.kind R.w : Nat) : Int) == 0) = true := by simp [z0]
    (simp +contextual -dsimp only [R13, evA, evB, ↓a_on_t, ↓a_on_f, ↓a_on_und, ↓a_cond_b, ↓reduceIte, Go.Ab.part, List.getD_cons_zero, List.getD_cons_succ, List.set_cons_zero, List.set_cons_succ, List.length_cons, List.length_nil, List.cons_append, List.nil_append, cond_true, cond_false, Bool.cond_true, reduceCtorEq, Option.map_some, Option.map_none, forall_const, ne_eq, implies_true, Nat.reduceAdd, Nat.reduceLeDiff, Nat.reduceLT, Nat.beq, Option.isNone_none, beq_self_eq_true, bne_self_eq_false, Int.reduceBEq, Int.reduceBNe, Int.reduceLT, Int.reduceLE, Int.reduceGT, Int.reduceGE, Int.reduceEq, Int.reduceNe, Int.reduceToNat, List.take_zero, List.drop_zero, List.all_cons, List.all_nil, List.append_nil, List.length_append, List.length_set, List.append_assoc, List.drop_nil, List.take_nil, hget_new, z0'] <;> try simp -dsimp only [if_conj])
    exact bad (.inl z0)
  have z0' : (((uSize R.kind R.w : Nat) : Int) == 0) = false := by simp; omega
  (simp +contextual -dsimp only [R13, evA, evB, ↓a_on_t, ↓a_on_f, ↓a_on_und, ↓a_cond_b, ↓reduceIte, Go.Ab.part, List.getD_cons_zero, List.getD_cons_succ, List.set_cons_zero, List.set_cons_succ, List.length_cons, List.length_nil, List.cons_append, List.nil_append, cond_true, cond_false, Bool.cond_true, reduceCtorEq, Option.map_some, Option.map_none, forall_const, ne_eq, implies_true, Nat.reduceAdd, Nat.reduceLeDiff, Nat.reduceLT, Nat.beq, Option.isNone_none, beq_self_eq_true, bne_self_eq_false, Int.reduceBEq, Int.reduceBNe, Int.reduceLT, Int.reduceLE, Int.reduceGT, Int.reduceGE, Int.reduceEq, Int.reduceNe, Int.reduceToNat, List.take_zero, List.drop_zero, List.all_cons, List.all_nil, List.append_nil, List.length_append, List.length_set, List.append_assoc, List.drop_nil, List.take_nil, hget_new, z0'] <;> try simp -dsimp only [if_conj])
  refine fits_ok ?_
  by_cases z1 : R.w = false ∧ 4294967296 ≤ R.ab
  · have z1' : (R.w || decide (R.ab < 4294967296)) = false := by simp [z1.1]; omega
    (simp +contextual -dsimp only [R13, evA, evB, ↓a_on_t, ↓a_on_f, ↓a_on_und, ↓a_cond_b, ↓reduceIte, Go.Ab.part, List.getD_cons_zero, List.getD_cons_succ, List.set_cons_zero, List.set_cons_succ, List.length_cons, List.length_nil, List.cons_append, List.nil_append, cond_true, cond_false, Bool.cond_true, reduceCtorEq, Option.map_some, Option.map_none, forall_const, ne_eq, implies_true, Nat.reduceAdd, Nat.reduceLeDiff, Nat.reduceLT, Nat.beq, Option.isNone_none, beq_self_eq_true, bne_self_eq_false, Int.reduceBEq, Int.reduceBNe, Int.reduceLT, Int.reduceLE, Int.reduceGT, Int.reduceGE, Int.reduceEq, Int.reduceNe, Int.reduceToNat, List.take_zero, List.drop_zero, List.all_cons, List.all_nil, List.append_nil, List.length_append, List.length_set, List.append_assoc, List.drop_nil, List.take_nil, hget_new, z1'] <;> try simp -dsimp only [if_conj])
    exact bad (.inr (.inl ⟨z1.1, .inl z1.2⟩))
  have z1' : (R.w || decide (R.ab < 4294967296)) = true := by
    cases hw : R.w
    · have : R.ab < 4294967296 := by simp [hw] at z1; omega
      simp [this]
    · rfl
  (simp +contextual -dsimp only [R13, evA, evB, ↓a_on_t, ↓a_on_f, ↓a_on_und, ↓a_cond_b, ↓reduceIte, Go.Ab.part, List.getD_cons_zero, List.getD_cons_succ, List.set_cons_zero, List.set_cons_succ, List.length_cons, List.length_nil, List.cons_append, List.nil_append, cond_true, cond_false, Bool.cond_true, reduceCtorEq, Option.map_some, Option.map_none, forall_const, ne_eq, implies_true, Nat.reduceAdd, Nat.reduceLeDiff, Nat.reduceLT, Nat.beq, Option.isNone_none, beq_self_eq_true, bne_self_eq_false, Int.reduceBEq, Int.reduceBNe, Int.reduceLT, Int.reduceLE, Int.reduceGT, Int.reduceGE, Int.reduceEq, Int.reduceNe, Int.reduceToNat, List.take_zero, List.drop_zero, List.all_cons, List.all_nil, List.append_nil, List.length_append, List.length_set, List.append_assoc, List.drop_nil, List.take_nil, hget_new, z1'] <;> try simp -dsimp only [if_conj])
  refine fits_ok ?_
  by_cases z2 : R.w = false ∧ 4294967296 ≤ R.ty
  · have z2' : (R.w || decide (R.ty < 4294967296)) = false := by simp [z2.1]; omega
    (simp +contextual -dsimp only [R13, evA, evB, ↓a_on_t, ↓a_on_f, ↓a_on_und, ↓a_cond_b, ↓reduceIte, Go.Ab.part, List.getD_cons_zero, List.getD_cons_succ, List.set_cons_zero, List.set_cons_succ, List.length_cons, List.length_nil, List.cons_append, List.nil_append, cond_true, cond_false, Bool.cond_true, reduceCtorEq, Option.map_some, Option.map_none, forall_const, ne_eq, implies_true, Nat.reduceAdd, Nat.reduceLeDiff, Nat.reduceLT, Nat.beq, Option.isNone_none, beq_self_eq_true, bne_self_eq_false, Int.reduceBEq, Int.reduceBNe, Int.reduceLT, Int.reduceLE, Int.reduceGT, Int.reduceGE, Int.reduceEq, Int.reduceNe, Int.reduceToNat, List.take_zero, List.drop_zero, List.all_cons, List.all_nil, List.append_nil, List.length_append, List.length_set, List.append_assoc, List.drop_nil, List.take_nil, hget_new, z2'] <;> try simp -dsimp only [if_conj])
    exact bad (.inr (.inl ⟨z2.1, .inr z2.2⟩))
  have z2' : (R.w || decide (R.ty < 4294967296)) = true := by
    cases hw : R.w
    · have : R.ty < 4294967296 := by simp [hw] at z2; omega
      simp [this]
    · rfl
  by_cases z3 : R.kind ≠ 2 ∧ R.sig ≠ 0
  · have a1 : (R.kind != 2) = true := by simp [z3.1]
    have a2 : (((R.sig : Nat) : Int) != 0) = true := by simp; exact z3.2
    (simp +contextual -dsimp only [R13, evA, evB, ↓a_on_t, ↓a_on_f, ↓a_on_und, ↓a_cond_b, ↓reduceIte, Go.Ab.part, List.getD_cons_zero, List.getD_cons_succ, List.set_cons_zero, List.set_cons_succ, List.length_cons, List.length_nil, List.cons_append, List.nil_append, cond_true, cond_false, Bool.cond_true, reduceCtorEq, Option.map_some, Option.map_none, forall_const, ne_eq, implies_true, Nat.reduceAdd, Nat.reduceLeDiff, Nat.reduceLT, Nat.beq, Option.isNone_none, beq_self_eq_true, bne_self_eq_false, Int.reduceBEq, Int.reduceBNe, Int.reduceLT, Int.reduceLE, Int.reduceGT, Int.reduceGE, Int.reduceEq, Int.reduceNe, Int.reduceToNat, List.take_zero, List.drop_zero, List.all_cons, List.all_nil, List.append_nil, List.length_append, List.length_set, List.append_assoc, List.drop_nil, List.take_nil, hget_new, z2', a1, a2] <;> try simp -dsimp only [if_conj])
    exact bad (.inr (.inr ⟨z3.1, .inl z3.2⟩))
  by_cases z4 : R.kind ≠ 2 ∧ R.ty ≠ 0
  · have a1 : (R.kind != 2) = true := by simp [z4.1]
    have a2 : (((R.sig : Nat) : Int) != 0) = false := by simp; omega
    have a3 : (((R.ty : Nat) : Int) != 0) = true := by simp; exact z4.2
    (simp +contextual -dsimp only [R13, evA, evB, ↓a_on_t, ↓a_on_f, ↓a_on_und, ↓a_cond_b, ↓reduceIte, Go.Ab.part, List.getD_cons_zero, List.getD_cons_succ, List.set_cons_zero, List.set_cons_succ, List.length_cons, List.length_nil, List.cons_append, List.nil_append, cond_true, cond_false, Bool.cond_true, reduceCtorEq, Option.map_some, Option.map_none, forall_const, ne_eq, implies_true, Nat.reduceAdd, Nat.reduceLeDiff, Nat.reduceLT, Nat.beq, Option.isNone_none, beq_self_eq_true, bne_self_eq_false, Int.reduceBEq, Int.reduceBNe, Int.reduceLT, Int.reduceLE, Int.reduceGT, Int.reduceGE, Int.reduceEq, Int.reduceNe, Int.reduceToNat, List.take_zero, List.drop_zero, List.all_cons, List.all_nil, List.append_nil, List.length_append, List.length_set, List.append_assoc, List.drop_nil, List.take_nil, hget_new, z2', a1, a2, a3] <;> try simp -dsimp only [if_conj])
    exact bad (.inr (.inr ⟨z4.1, .inr z4.2⟩))
  have good : ¬ uBad R := by
    rintro (h | ⟨h, h' | h'⟩ | ⟨h, h' | h'⟩)
    · exact z0 h
    · exact z1 ⟨h, h'⟩
    · exact z2 ⟨h, h'⟩
    · exact z3 ⟨h, h'⟩
    · exact z4 ⟨h, h'⟩
  have eu : uPut R m = (lenB (uBody R m).length R.w ++ uBody R m, 0) := if_neg good
  rw [eu] at hK
  have hk : R.kind = 1 ∨ R.kind = 2 ∨ R.kind = 3 := by
    unfold uSize at z0
    by_cases h2 : R.kind = 2
    · exact .inr (.inl h2)
    · rw [if_neg h2] at z0
      by_cases h1 : R.kind = 1 ∨ R.kind = 3
      · omega
      · rw [if_neg h1] at z0; exact absurd rfl z0
  have gb : (h ++ [AO.o 1 [I R.kind, Bo R.w, U R.ab, U R.sig, U R.ty, U R.off, U R.first, U R.fin]]).getD h.length .dead = .o 1 [I R.kind, Bo R.w, U R.ab, U R.sig, U R.ty, U R.off, U R.first, U R.fin] := hget_new
  by_cases k2 : R.kind = 2
  · have a1 : (R.kind != 2) = false := by simp [k2]
    (simp +contextual -dsimp only [evA, evB, ↓a_on_t, ↓a_on_f, ↓a_on_und, ↓a_cond_b, ↓reduceIte, Go.Ab.part, List.getD_cons_zero, List.getD_cons_succ, List.set_cons_zero, List.set_cons_succ, List.length_cons, List.length_nil, List.cons_append, List.nil_append, cond_true, cond_false, Bool.cond_true, reduceCtorEq, Option.map_some, Option.map_none, forall_const, ne_eq, implies_true, Nat.reduceAdd, Nat.reduceLeDiff, Nat.reduceLT, Nat.beq, Option.isNone_none, beq_self_eq_true, bne_self_eq_false, Int.reduceBEq, Int.reduceBNe, Int.reduceLT, Int.reduceLE, Int.reduceGT, Int.reduceGE, Int.reduceEq, Int.reduceNe, Int.reduceToNat, List.take_zero, List.drop_zero, List.all_cons, List.all_nil, List.append_nil, List.length_append, List.length_set, List.append_assoc, List.drop_nil, List.take_nil, hget_new, z2', a1, w13_8, w13_9, w13_10, w13_11, w13_5] <;> try simp -dsimp only [if_conj])
    refine Off_ok ?_
    (simp +contextual -dsimp only [evA, evB, ↓a_on_t, ↓a_on_f, ↓a_on_und, ↓a_cond_b, ↓reduceIte, Go.Ab.part, List.getD_cons_zero, List.getD_cons_succ, List.set_cons_zero, List.set_cons_succ, List.length_cons, List.length_nil, List.cons_append, List.nil_append, cond_true, cond_false, Bool.cond_true, reduceCtorEq, Option.map_some, Option.map_none, forall_const, ne_eq, implies_true, Nat.reduceAdd, Nat.reduceLeDiff, Nat.reduceLT, Nat.beq, Option.isNone_none, beq_self_eq_true, bne_self_eq_false, Int.reduceBEq, Int.reduceBNe, Int.reduceLT, Int.reduceLE, Int.reduceGT, Int.reduceGE, Int.reduceEq, Int.reduceNe, Int.reduceToNat, List.take_zero, List.drop_zero, List.all_cons, List.all_nil, List.append_nil, List.length_append, List.length_set, List.append_assoc, List.drop_nil, List.take_nil] <;> try simp -dsimp only [if_conj])
    refine Put15_t hk hm kk (Nat.le_refl _) gb (im.keeps kk) hK _ ?_
    rfl
  · have a1 : (R.kind != 2) = true := by simp [k2]
    have a2 : (((R.sig : Nat) : Int) != 0) = false := by simp; omega
    have a3 : (((R.ty : Nat) : Int) != 0) = false := by simp; omega
    (simp +contextual -dsimp only [evA, evB, ↓a_on_t, ↓a_on_f, ↓a_on_und, ↓a_cond_b, ↓reduceIte, Go.Ab.part, List.getD_cons_zero, List.getD_cons_succ, List.set_cons_zero, List.set_cons_succ, List.length_cons, List.length_nil, List.cons_append, List.nil_append, cond_true, cond_false, Bool.cond_true, reduceCtorEq, Option.map_some, Option.map_none, forall_const, ne_eq, implies_true, Nat.reduceAdd, Nat.reduceLeDiff, Nat.reduceLT, Nat.beq, Option.isNone_none, beq_self_eq_true, bne_self_eq_false, Int.reduceBEq, Int.reduceBNe, Int.reduceLT, Int.reduceLE, Int.reduceGT, Int.reduceGE, Int.reduceEq, Int.reduceNe, Int.reduceToNat, List.take_zero, List.drop_zero, List.all_cons, List.all_nil, List.append_nil, List.length_append, List.length_set, List.append_assoc, List.drop_nil, List.take_nil, hget_new, z2', a1, a2, a3, w13_9, w13_10, w13_11, w13_5] <;> try simp -dsimp only [if_conj])
    refine Off_ok ?_
    (simp +contextual -dsimp only [evA, evB, ↓a_on_t, ↓a_on_f, ↓a_on_und, ↓a_cond_b, ↓reduceIte, Go.Ab.part, List.getD_cons_zero, List.getD_cons_succ, List.set_cons_zero, List.set_cons_succ, List.length_cons, List.length_nil, List.cons_append, List.nil_append, cond_true, cond_false, Bool.cond_true, reduceCtorEq, Option.map_some, Option.map_none, forall_const, ne_eq, implies_true, Nat.reduceAdd, Nat.reduceLeDiff, Nat.reduceLT, Nat.beq, Option.isNone_none, beq_self_eq_true, bne_self_eq_false, Int.reduceBEq, Int.reduceBNe, Int.reduceLT, Int.reduceLE, Int.reduceGT, Int.reduceGE, Int.reduceEq, Int.reduceNe, Int.reduceToNat, List.take_zero, List.drop_zero, List.all_cons, List.all_nil, List.append_nil, List.length_append, List.length_set, List.append_assoc, List.drop_nil, List.take_nil] <;> try simp -dsimp only [if_conj])
    refine Put15_t hk hm kk (Nat.le_refl _) gb (im.keeps kk) hK _ ?_
    rfl
end Go.Proofs.YtmjjfchahkdceaaDoor
