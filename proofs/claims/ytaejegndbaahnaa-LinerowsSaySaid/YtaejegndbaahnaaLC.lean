import Derived.Test.YtaejegndbaahnaaLB
set_option linter.unusedVariables false
set_option linter.unusedSimpArgs false
set_option maxRecDepth 100000
set_option maxHeartbeats 1000000
namespace Go.Proofs.Ytaejegndbaahnaa
open Go.Ab
variable {h : Heap} {K : Kt}
theorem row_build (x : Rw) : setAt (AV.v (.int .u64 0) :: .v (.int .i64 0) :: .v (.int .i64 0) :: .v (.int .i64 0) :: .v (.bool false) :: .v (.bool false) :: .v (.bool false) :: .v (.bool false) :: .v (.bool false) :: .v (.int .u64 0) :: .v (.int .u64 0) :: []) 0 x.row = x.row := rfl
theorem take_drop_succ {l : List Rw} {a n : Nat} (h : n < l.length) (ha : a ≤ n) : (l.drop a).take (n + 1 - a) = (l.drop a).take (n - a) ++ [l.getD n default] := by
  rw [show n + 1 - a = (n - a) + 1 by omega, take_snoc (by simp; omega), List.getD_eq_getElem?_getD, List.getD_eq_getElem?_getD, List.getElem?_drop, show a + (n - a) = n by omega]
theorem rows_take : ∀ (l : List Rw) (n : Nat), (rws l).take (n * 11) = rws (l.take n)
  | [], n => by simp [rws, rows]
  | x :: l, 0 => by simp [rws, rows]
  | x :: l, n + 1 => by
    rw [show rws (x :: l) = x.row ++ rws l from rows_cons _ _, List.take_append, show x.row.take ((n + 1) * 11) = x.row from List.take_of_length_le (by rw [Rw.row_len]; omega), Rw.row_len, show (n + 1) * 11 - 11 = n * 11 by omega, rows_take l n]
    exact (rows_cons _ _).symm
theorem rws_cut {l : List Rw} {a k : Nat} : ((rws l).drop (a * 11)).take (k * 11) = rws ((l.drop a).take k) := by
  rw [show (rws l).drop (a * 11) = rws (l.drop a) from rows_drop Rw.row_len l a]
  exact rows_take _ _
/-- rows that are data, or in memory -/
def IsZ {α : Type} (f : α → List AV) (k : Nat) (l : List α) (r : AV) (h : Heap) : Prop := r = .z (rows f l) l.length ∨ ∃ id, r = .s id 0 l.length ∧ h.getD id .dead = .o k (rows f l)
theorem IsZ.keeps {α : Type} {f : α → List AV} {k : Nat} {l : List α} {r : AV} {h h' : Heap} (i : IsZ f k l r h) (K : Keeps h h') : IsZ f k l r h' := by
  rcases i with h1 | ⟨id, h1, h2⟩
  · exact .inl h1
  · exact .inr ⟨id, h1, K.at h2 (by simp)⟩
theorem IsZ.len {α : Type} {f : α → List AV} {k : Nat} {l : List α} {r : AV} {h : Heap} (i : IsZ f k l r h) (hh : Heap) (K : Kt) : a_len r hh K = K.K (I l.length) hh := by
  rcases i with rfl | ⟨id, rfl, _⟩ <;> rfl
/-- a row of them -/
theorem IsZ.row {α : Type} [Inhabited α] {f : α → List AV} {k : Nat} (hk : ∀ x, (f x).length = k) (k0 : 0 < k) {l : List α} {r : AV} {h : Heap} (i : IsZ f k l r h) {n : Nat} (hn : n < l.length) :
    ∃ p : Nat → AV, (∀ hh K, a_ia k r (I n) hh K = K.K (p 0) hh) ∧ (∀ j hh K, a_fa j (p 0) hh K = K.K (p j) hh) ∧ (∀ L K, a_load k true (p 0) (h ++ L) K = K.K (.g (f (l.getD n default))) (h ++ L)) ∧
      (∀ j L K, j < k → a_load 1 false (p j) (h ++ L) K = K.K ((f (l.getD n default)).getD j .bad) (h ++ L)) := by
  have e0 : (0 : Int) ≤ n := by omega
  have e1 : (n : Int) < l.length := by omega
  have hl := rows_len hk l
  have hm : n * k + k ≤ (rows f l).length := by rw [hl, ← Nat.succ_mul]; exact Nat.mul_le_mul_right _ hn
  have hr := rows_row hk hn
  rcases i with rfl | ⟨id, rfl, g⟩
  · refine ⟨fun j => .q (rows f l) (n * k + j), fun hh K => ?_, fun j hh K => ?_, fun L K => ?_, fun j L K hj => ?_⟩
    · show ((0 ≤ (n : Int) ∧ (n : Int) < (l.length : Int) ∧ (n : Int).toNat * k < (rows f l).length) ∧ K.K (.q (rows f l) ((n : Int).toNat * k)) hh) = _
      rw [show ((n : Int)).toNat = n from rfl]
      simp only [eq_iff_iff]; exact ⟨fun h => h.2, fun h => ⟨⟨e0, e1, by omega⟩, h⟩⟩
    · simp [a_fa]
    · show ((0 < k ∧ n * k + 0 + k ≤ (rows f l).length) ∧ K.K (Ab.part k true (rows f l) (n * k + 0)) (h ++ L)) = _
      rw [show Ab.part k true (rows f l) (n * k + 0) = .g (((rows f l).drop (n * k)).take k) from rfl, hr]
      simp only [eq_iff_iff]; exact ⟨fun h => h.2, fun h => ⟨⟨k0, by omega⟩, h⟩⟩
    · show ((0 < 1 ∧ n * k + j + 1 ≤ (rows f l).length) ∧ K.K (Ab.part 1 false (rows f l) (n * k + j)) (h ++ L)) = _
      rw [show Ab.part 1 false (rows f l) (n * k + j) = (rows f l).getD (n * k + j) .bad from rfl, rows_at hk hn hj]
      simp only [eq_iff_iff]; exact ⟨fun h => h.2, fun h => ⟨⟨by omega, by omega⟩, h⟩⟩
  · have gL : ∀ L, (h ++ L).getD id .dead = .o k (rows f l) := fun L => hget_app g (by simp)
    refine ⟨fun j => .p id (n * k + j), fun hh K => ?_, fun j hh K => ?_, fun L K => ?_, fun j L K hj => ?_⟩
    · show ((0 ≤ (n : Int) ∧ (n : Int) < (l.length : Int)) ∧ K.K (.p id (0 + (n : Int).toNat * k)) hh) = _
      rw [show ((n : Int)).toNat = n from rfl, Nat.zero_add]
      simp only [eq_iff_iff]; exact ⟨fun h => h.2, fun h => ⟨⟨e0, e1⟩, h⟩⟩
    · simp [a_fa]
    · show a_ldo k true (n * k + 0) ((h ++ L).getD id .dead) (h ++ L) K = _
      rw [gL]
      show ((0 < k ∧ n * k + 0 + k ≤ (rows f l).length) ∧ K.K (Ab.part k true (rows f l) (n * k + 0)) (h ++ L)) = _
      rw [show Ab.part k true (rows f l) (n * k + 0) = .g (((rows f l).drop (n * k)).take k) from rfl, hr]
      simp only [eq_iff_iff]; exact ⟨fun h => h.2, fun h => ⟨⟨k0, by omega⟩, h⟩⟩
    · show a_ldo 1 false (n * k + j) ((h ++ L).getD id .dead) (h ++ L) K = _
      rw [gL]
      show ((0 < 1 ∧ n * k + j + 1 ≤ (rows f l).length) ∧ K.K (Ab.part 1 false (rows f l) (n * k + j)) (h ++ L)) = _
      rw [show Ab.part 1 false (rows f l) (n * k + j) = (rows f l).getD (n * k + j) .bad from rfl, rows_at hk hn hj]
      simp only [eq_iff_iff]; exact ⟨fun h => h.2, fun h => ⟨⟨by omega, by omega⟩, h⟩⟩
/-- a part of them -/
theorem IsZ.cut {α : Type} {f : α → List AV} {k : Nat} (hk : ∀ x, (f x).length = k) {l : List α} {r : AV} {h : Heap} (i : IsZ f k l r h) {a n : Nat} (ha : a ≤ n) (hn : n ≤ l.length) :
    ∃ q, (∀ L K, a_slice k r (some (I a)) (some (I n)) none (h ++ L) K = K.K q (h ++ L)) ∧ (∀ L, srcCells k q (h ++ L) = some (n - a, ((rows f l).drop (a * k)).take ((n - a) * k))) ∧ (∀ j, h.length ≤ j → otherId j q) := by
  have e1 : bOk (some (I n)) l.length := by show 0 ≤ (n : Int) ∧ (n : Int) ≤ l.length; omega
  have e2 : bOk (some (I a)) n := by show 0 ≤ (a : Int) ∧ (a : Int) ≤ n; omega
  have v1 : bVal (some (I n)) l.length = n := rfl
  have v2 : ∀ d, bVal (some (I a)) d = a := fun _ => rfl
  have hl := rows_len hk l
  have hm : n * k ≤ (rows f l).length := by rw [hl]; exact Nat.mul_le_mul_right _ hn
  have hs : a * k + (n - a) * k = n * k := by rw [← Nat.add_mul]; congr 1; omega
  rcases i with rfl | ⟨id, rfl, g⟩
  · refine ⟨.z (((rows f l).drop (a * k)).take ((n - a) * k)) (n - a), fun L K => ?_, fun L => ?_, fun _ _ => trivial⟩
    · show ((((none : Option AV) = none ∨ none = some (I n)) ∧ bOk (some (I n)) l.length ∧ bOk (some (I a)) (bVal (some (I n)) l.length)) ∧ K.K (.z (((rows f l).drop (bVal (some (I a)) 0 * k)).take ((bVal (some (I n)) l.length - bVal (some (I a)) 0) * k)) (bVal (some (I n)) l.length - bVal (some (I a)) 0)) (h ++ L)) = _
      rw [v1, v2]
      simp only [eq_iff_iff]; exact ⟨fun h => h.2, fun h => ⟨⟨.inl trivial, e1, e2⟩, h⟩⟩
    · show some (n - a, (((rows f l).drop (a * k)).take ((n - a) * k)).take ((n - a) * k)) = _
      rw [List.take_take, Nat.min_self]
  · have gL : ∀ L, (h ++ L).getD id .dead = .o k (rows f l) := fun L => hget_app g (by simp)
    refine ⟨.s id (0 + a * k) (n - a), fun L K => ?_, fun L => ?_, fun j hj => by have := hlt g (by simp); show id ≠ j; omega⟩
    · show a_slo k id 0 l.length (some (I a)) (some (I n)) ((h ++ L).getD id .dead) (h ++ L) K = _
      rw [gL]
      show ((k = k ∧ bOk (some (I n)) l.length ∧ bOk (some (I a)) (bVal (some (I n)) l.length)) ∧ K.K (.s id (0 + bVal (some (I a)) 0 * k) (bVal (some (I n)) l.length - bVal (some (I a)) 0)) (h ++ L)) = _
      rw [v1, v2]
      simp only [eq_iff_iff]; exact ⟨fun h => h.2, fun h => ⟨⟨trivial, e1, e2⟩, h⟩⟩
    · show srcObj (0 + a * k) (n - a) k ((h ++ L).getD id .dead) = _
      rw [gL, Nat.zero_add]; rfl
theorem Seqs_ok {l : List Rw} {r : AV} (hl : l.length ≤ 30000) (iz : IsZ Rw.row 11 l r h) (hK : ∀ h' r', Keeps h h' → IsR sRow 1 (seqs l) r' h' → K.K r' h') : ACall X 25 [r] h K := by
  have hbig : (30000000 : Nat) ≤ bigRoom := by decide
  have hll := rws_len l
  have e11 : ∀ x : Rw, List.take 11 x.row = x.row := fun _ => rfl
  have rall : ∀ x : Rw, x.row.all AV.one = true := fun _ => rfl
  refine acall_weak_post ?_
  apply i25
  have hlen : ∀ h K, a_len r h K = K.K (I l.length) h := fun h K => by rcases iz with rfl | ⟨id, rfl, _⟩ <;> rfl
  (simp +contextual -dsimp only [R25, evA, evB, ↓a_on_t, ↓a_on_f, ↓a_on_und, ↓a_cond_b, ↓reduceIte, Go.Ab.part, List.getD_cons_zero, List.getD_cons_succ, List.set_cons_zero, List.set_cons_succ, List.length_cons, List.length_nil, List.cons_append, List.nil_append, cond_true, cond_false, Bool.cond_true, reduceCtorEq, Option.map_some, Option.map_none, forall_const, ne_eq, implies_true, Nat.reduceAdd, Nat.reduceLeDiff, Nat.reduceLT, Nat.beq, Option.isNone_none, beq_self_eq_true, bne_self_eq_false, Int.reduceBEq, Int.reduceBNe, Int.reduceLT, Int.reduceLE, Int.reduceGT, Int.reduceGE, Int.reduceEq, Int.reduceNe, Int.reduceToNat, List.take_zero, List.drop_zero, List.all_cons, List.all_nil, List.append_nil, List.length_append, List.length_set, List.append_assoc, List.drop_nil, List.take_nil, hlen] <;> try simp -dsimp only [if_conj])
  have W1 := weak_nils (X := X) (n := h.length) (h := h) (sz := 1) (tm := (r :: .bad :: .bad :: .v (.slice none 0 0) :: I 0 :: .bad :: .bad :: r :: I l.length :: I 0 :: .bad :: .bad :: .bad :: .bad :: .bad :: .bad :: .bad :: .bad :: .bad :: .bad :: .bad :: .bad :: .bad :: .bad :: .bad :: .bad :: .bad :: .bad :: .bad :: .bad :: .bad :: .bad :: .bad :: .bad :: .bad :: .bad :: .bad :: [])) (tm' := (r :: .bad :: .bad :: .s h.length 0 0 :: I 0 :: .bad :: .bad :: r :: I l.length :: I 0 :: .bad :: .bad :: .bad :: .bad :: .bad :: .bad :: .bad :: .bad :: .bad :: .bad :: .bad :: .bad :: .bad :: .bad :: .bad :: .bad :: .bad :: .bad :: .bad :: .bad :: .bad :: .bad :: .bad :: .bad :: .bad :: .bad :: .bad :: [])) (Nat.le_refl _) (by simp [NilOk])
  refine aloop (fun m st => ∃ n h1 ido out a, m + n = l.length ∧ Keeps h h1 ∧ h.length ≤ ido ∧ h1.getD ido .dead = .o 1 (sqs out) ∧ a ≤ n ∧ seqs l = out ++ seqGo ((l.drop a).take (n - a)) (l.drop n) ∧ out.length ≤ n ∧ (n = l.length → a = n) ∧
      st = ((r :: sl st.1 1 :: sl st.1 2 :: .s ido 0 out.length :: I a :: sl st.1 5 :: sl st.1 6 :: r :: I l.length :: I n :: sl st.1 10 :: sl st.1 11 :: sl st.1 12 :: sl st.1 13 :: sl st.1 14 :: sl st.1 15 :: sl st.1 16 :: sl st.1 17 :: sl st.1 18 :: sl st.1 19 :: sl st.1 20 :: sl st.1 21 :: sl st.1 22 :: sl st.1 23 :: sl st.1 24 :: sl st.1 25 :: sl st.1 26 :: sl st.1 27 :: sl st.1 28 :: sl st.1 29 :: sl st.1 30 :: sl st.1 31 :: sl st.1 32 :: sl st.1 33 :: sl st.1 34 :: sl st.1 35 :: sl st.1 36 :: []), h1)) l.length
    ((r :: .bad :: .bad :: .s h.length 0 0 :: I 0 :: .bad :: .bad :: r :: I l.length :: I 0 :: .bad :: .bad :: .bad :: .bad :: .bad :: .bad :: .bad :: .bad :: .bad :: .bad :: .bad :: .bad :: .bad :: .bad :: .bad :: .bad :: .bad :: .bad :: .bad :: .bad :: .bad :: .bad :: .bad :: .bad :: .bad :: .bad :: .bad :: []), h ++ [.o 1 []]) (Nat.le_refl _) (Weak.trans (weak_slots (Nat.le_refl _) (by simp [SeeL, See])) W1 (Nat.le_refl _))
    ⟨0, _, h.length, [], 0, by omega, Keeps.adds Adds.mk, Nat.le_refl _, hget_new, by omega, by simp, by simp, by simp, rfl⟩ ?_
  rintro m st ⟨n, h1, ido, out, a, hm, k1, ho, go, han, hs, hol, hend, hst⟩
  rw [hst]
  have lo := hlt go (by simp)
  have kl := k1.len
  have iz1 := iz.keeps k1
  by_cases hz : n < l.length
  · have hz' : decide ((n : Int) < l.length) = true := by simp; omega
    have hn1 : IntKind.i64.wrap ((n : Int) + 1) = ((n + 1 : Nat) : Int) := by rw [wrap_i64 (by omega) (by omega)]; rfl
    have tr := rw_row hz
    have tds := take_drop_succ hz han
    rw [seqGo_drop hz, ← tds] at hs
    generalize hxl : l.getD n default = x at *
    have g2 : ∀ o, (h1 ++ [o]).getD h1.length .dead = o := fun o => hget_new
    obtain ⟨p, q1, q2, q3, q4⟩ := iz1.row Rw.row_len (by decide) hz
    rw [hxl] at q3
    have q3' : ∀ K, a_load 11 true (p 0) h1 K = K.K (.g x.row) h1 := fun K => by have := q3 [] K; rwa [List.append_nil] at this
    obtain ⟨q, c1, c2, c3⟩ := iz1.cut Rw.row_len (a := a) (n := n + 1) (by omega) (by omega)
    rw [show ((rows Rw.row l).drop (a * 11)).take ((n + 1 - a) * 11) = rws ((l.drop a).take (n + 1 - a)) from rws_cut] at c2
    have hsl : ((l.drop a).take (n + 1 - a)).length = n + 1 - a := by simp; omega
    generalize hS : (l.drop a).take (n + 1 - a) = S at *
    have cutted : x.en = true ∨ n + 1 = l.length → seqs l = (out ++ [S]) ++ seqGo ((l.drop (n + 1)).take (n + 1 - (n + 1))) (l.drop (n + 1)) := fun hc => by
      rw [hs, Nat.sub_self, List.take_zero]
      by_cases he : x.en = true
      · rw [if_pos he]; simp
      · have : n + 1 = l.length := hc.resolve_left he
        rw [if_neg he, List.drop_of_length_le (by omega)]
        have hne : S ≠ [] := fun e => by rw [e] at hsl; simp at hsl; omega
        rw [show seqGo (S) [] = [S] from if_neg hne]; simp [seqGo]
    have go3 : ∀ o L, (h1 ++ o :: L).getD ido .dead = .o 1 (sqs out) := fun o L => hget_app go (by simp)
    have g3 : ∀ o o', (h1 ++ [o, o']).getD (h1.length + 1) .dead = o' := fun o o' => hget_new1
    have oq : otherId (h1.length + 1) q := c3 _ (by omega)
    have hS11 := rws_len S
    by_cases hc : x.en = true ∨ n + 1 = l.length
    · have hcut := cutted hc
      cases he : x.en
      case' false =>
        have hl' : (((n + 1 : Nat) : Int) == (l.length : Int)) = true := by simp [he] at hc; simp; omega
        (simp +contextual -dsimp only [R25, evA, evB, ↓a_on_t, ↓a_on_f, ↓a_on_und, ↓a_cond_b, ↓reduceIte, Go.Ab.part, List.getD_cons_zero, List.getD_cons_succ, List.set_cons_zero, List.set_cons_succ, List.length_cons, List.length_nil, List.cons_append, List.nil_append, cond_true, cond_false, Bool.cond_true, reduceCtorEq, Option.map_some, Option.map_none, forall_const, ne_eq, implies_true, Nat.reduceAdd, Nat.reduceLeDiff, Nat.reduceLT, Nat.beq, Option.isNone_none, beq_self_eq_true, bne_self_eq_false, Int.reduceBEq, Int.reduceBNe, Int.reduceLT, Int.reduceLE, Int.reduceGT, Int.reduceGE, Int.reduceEq, Int.reduceNe, Int.reduceToNat, List.take_zero, List.drop_zero, List.all_cons, List.all_nil, List.append_nil, List.length_append, List.length_set, List.append_assoc, List.drop_nil, List.take_nil, hz', q1, q2, q3', Rw.row, fill, setAt, g2, hset_new, he, hn1, hl', hlen, List.append_assoc, c1, c2, g3, go3] <;> try simp -dsimp only [if_conj])
      case' true =>
        (simp +contextual -dsimp only [R25, evA, evB, ↓a_on_t, ↓a_on_f, ↓a_on_und, ↓a_cond_b, ↓reduceIte, Go.Ab.part, List.getD_cons_zero, List.getD_cons_succ, List.set_cons_zero, List.set_cons_succ, List.length_cons, List.length_nil, List.cons_append, List.nil_append, cond_true, cond_false, Bool.cond_true, reduceCtorEq, Option.map_some, Option.map_none, forall_const, ne_eq, implies_true, Nat.reduceAdd, Nat.reduceLeDiff, Nat.reduceLT, Nat.beq, Option.isNone_none, beq_self_eq_true, bne_self_eq_false, Int.reduceBEq, Int.reduceBNe, Int.reduceLT, Int.reduceLE, Int.reduceGT, Int.reduceGE, Int.reduceEq, Int.reduceNe, Int.reduceToNat, List.take_zero, List.drop_zero, List.all_cons, List.all_nil, List.append_nil, List.length_append, List.length_set, List.append_assoc, List.drop_nil, List.take_nil, hz', q1, q2, q3', Rw.row, fill, setAt, g2, hset_new, he, hn1, hlen, List.append_assoc, c1, c2, g3, go3] <;> try simp -dsimp only [if_conj])
      all_goals
        refine ⟨⟨by omega, by omega, oq⟩, ?_⟩
        generalize (U x.addr :: I x.file :: I x.line :: I x.col :: Bo x.st :: Bo x.bl :: Bo x.pr :: Bo x.ep :: _ :: U x.isa :: U x.disc :: ([] : List AV)) = R
        rw [show ∀ u v, (h1 ++ [AO.o 1 R, AO.o 11 []]).set (h1.length + 1) .dead ++ [u, v] = ((h1 ++ [AO.o 1 R, AO.o 11 []]).set (h1.length + 1) .dead ++ [u]) ++ [v] by intro u v; simp]
        have kp : Keeps h ((h1 ++ [AO.o 1 R, AO.o 11 []]).set (h1.length + 1) .dead ++ [AO.o 11 (rws S)]) := (k1.trans (Keeps.adds Adds.mk)).push (by omega)
        have go4 : ((h1 ++ [AO.o 1 R, AO.o 11 []]).set (h1.length + 1) .dead ++ [AO.o 11 (rws S)]).getD ido .dead = .o 1 (sqs out) := hget_app (by rw [hget_set_ne (by omega)]; exact hget_app go (by simp)) (by simp)
        have gn4 : ((h1 ++ [AO.o 1 R, AO.o 11 []]).set (h1.length + 1) .dead ++ [AO.o 11 (rws S)]).getD (h1.length + 2) .dead = .o 11 (rws S) := by
          rw [show h1.length + 2 = ((h1 ++ [AO.o 1 R, AO.o 11 []]).set (h1.length + 1) .dead).length by simp]; exact hget_new
        have hH : ((h1 ++ [AO.o 1 R, AO.o 11 []]).set (h1.length + 1) .dead ++ [AO.o 11 (rws S)]).length = h1.length + 2 + 1 := by simp
        generalize (h1 ++ [AO.o 1 R, AO.o 11 []]).set (h1.length + 1) .dead ++ [AO.o 11 (rws S)] = H2 at *
        rw [← hsl, ← hH]
        have go5 : ∀ o, (H2 ++ [o]).getD ido .dead = .o 1 (sqs out) := fun o => hget_app go4 (by simp)
        have et : ∀ x : AV, List.take 1 [x] = [x] := fun _ => rfl
        have eO : (sqs out).take out.length = sqs out := List.take_of_length_le (by rw [sqs_len]; exact Nat.le_refl _)
        have hol2 := sqs_len out
        (simp +contextual -dsimp only [R25, evA, evB, ↓a_on_t, ↓a_on_f, ↓a_on_und, ↓a_cond_b, ↓reduceIte, Go.Ab.part, List.getD_cons_zero, List.getD_cons_succ, List.set_cons_zero, List.set_cons_succ, List.length_cons, List.length_nil, List.cons_append, List.nil_append, cond_true, cond_false, Bool.cond_true, reduceCtorEq, Option.map_some, Option.map_none, forall_const, ne_eq, implies_true, Nat.reduceAdd, Nat.reduceLeDiff, Nat.reduceLT, Nat.beq, Option.isNone_none, beq_self_eq_true, bne_self_eq_false, Int.reduceBEq, Int.reduceBNe, Int.reduceLT, Int.reduceLE, Int.reduceGT, Int.reduceGE, Int.reduceEq, Int.reduceNe, Int.reduceToNat, List.take_zero, List.drop_zero, List.all_cons, List.all_nil, List.append_nil, List.length_append, List.length_set, List.append_assoc, List.drop_nil, List.take_nil, go5, hget_new, et, eO, hn1] <;> try simp -dsimp only [if_conj])
        refine ⟨⟨by omega, by omega, by omega⟩, ?_⟩
        have hi2 : h.length ≤ h1.length + 2 := by omega
        have hfr : ∀ g : Nat → Option (Nat × List AV), (∀ j, j ≠ h1.length + 2 → g j = none) → frz g r = r := fun g hg => by
          rcases iz with rfl | ⟨id, rfl, gz⟩
          · simp [frz, frzs_flat (flats_rws l)]
          · have := hlt gz (by simp); simp [frz, frzS, hg id (by omega)]
        obtain ⟨h7, W, g7, l7, k7⟩ := seq_in (l0 := h) (tm := (r :: .bad :: .bad :: .s (H2.length + 1) 0 (out.length + 1) :: I (n + 1 : Nat) :: .bad :: .bad :: r :: I l.length :: I (n + 1 : Nat) :: .bad :: .bad :: .bad :: .bad :: .bad :: .bad :: .bad :: .bad :: .bad :: .bad :: .bad :: .bad :: .bad :: .bad :: .bad :: .bad :: .bad :: .bad :: .bad :: .bad :: .bad :: .bad :: .bad :: .bad :: .bad :: .bad :: .bad :: [])) go4 gn4 (by omega) kp ho hi2
          (fun g hg => by simp only [frzs, frz, hfr g hg, frzS, hg (H2.length + 1) (by omega)])
        exact ⟨m - 1, _, by omega, Weak.trans (weak_slots (by simp; omega) (by simp [SeeL, See])) W (Nat.le_refl _), n + 1, _, H2.length + 1, out ++ [S], n + 1, by omega, k7, by omega, g7, by omega, hcut, by simp; omega, fun e => e, by rw [List.length_append]; rfl⟩
    · have he : x.en = false := by cases hx : x.en <;> simp_all
      have hl' : (((n + 1 : Nat) : Int) == (l.length : Int)) = false := by simp; omega
      rw [if_neg (by simp [he])] at hs
      (simp +contextual -dsimp only [R25, evA, evB, ↓a_on_t, ↓a_on_f, ↓a_on_und, ↓a_cond_b, ↓reduceIte, Go.Ab.part, List.getD_cons_zero, List.getD_cons_succ, List.set_cons_zero, List.set_cons_succ, List.length_cons, List.length_nil, List.cons_append, List.nil_append, cond_true, cond_false, Bool.cond_true, reduceCtorEq, Option.map_some, Option.map_none, forall_const, ne_eq, implies_true, Nat.reduceAdd, Nat.reduceLeDiff, Nat.reduceLT, Nat.beq, Option.isNone_none, beq_self_eq_true, bne_self_eq_false, Int.reduceBEq, Int.reduceBNe, Int.reduceLT, Int.reduceLE, Int.reduceGT, Int.reduceGE, Int.reduceEq, Int.reduceNe, Int.reduceToNat, List.take_zero, List.drop_zero, List.all_cons, List.all_nil, List.append_nil, List.length_append, List.length_set, List.append_assoc, List.drop_nil, List.take_nil, hz', q1, q2, q3', Rw.row, fill, setAt, g2, hset_new, he, hn1, hl', hlen] <;> try simp -dsimp only [if_conj])
      exact ⟨m - 1, _, by omega, Weak.refl _ (by simp; omega), n + 1, _, ido, out, a, by omega, k1.trans (Keeps.adds Adds.mk), ho, hget_app go (by simp), by omega, by rw [hS]; exact hs, by omega, fun e => absurd e (by omega), rfl⟩
  · have hz' : decide ((n : Int) < l.length) = false := by simp; omega
    have hne : n = l.length := by omega
    rw [hend hne, hne, List.drop_of_length_le (by omega), Nat.sub_self, List.take_zero] at hs
    rw [show seqGo [] [] = [] from rfl, List.append_nil] at hs
    (simp +contextual -dsimp only [R25, evA, evB, ↓a_on_t, ↓a_on_f, ↓a_on_und, ↓a_cond_b, ↓reduceIte, Go.Ab.part, List.getD_cons_zero, List.getD_cons_succ, List.set_cons_zero, List.set_cons_succ, List.length_cons, List.length_nil, List.cons_append, List.nil_append, cond_true, cond_false, Bool.cond_true, reduceCtorEq, Option.map_some, Option.map_none, forall_const, ne_eq, implies_true, Nat.reduceAdd, Nat.reduceLeDiff, Nat.reduceLT, Nat.beq, Option.isNone_none, beq_self_eq_true, bne_self_eq_false, Int.reduceBEq, Int.reduceBNe, Int.reduceLT, Int.reduceLE, Int.reduceGT, Int.reduceGE, Int.reduceEq, Int.reduceNe, Int.reduceToNat, List.take_zero, List.drop_zero, List.all_cons, List.all_nil, List.append_nil, List.length_append, List.length_set, List.append_assoc, List.drop_nil, List.take_nil, hz'] <;> try simp -dsimp only [if_conj])
    exact ⟨_, h1, Weak.refl _ kl, hK _ _ k1 (.inr ⟨ido, by rw [hs], by rw [go, hs]⟩)⟩
end Go.Proofs.Ytaejegndbaahnaa
