import Derived.Test.YtlfplmcidfflfaaCC
set_option linter.unusedVariables false
set_option linter.unusedSimpArgs false
set_option maxRecDepth 100000
namespace Go.Proofs.Ytlfplmcidfflfaa
open Go.Ab
variable {h : Heap} {K : Kt}

/-- parts, each but the last one with its highest bit -/
def enc : List Nat → List UInt8
  | [] => []
  | [x] => [UInt8.ofNat x]
  | x :: y :: r => UInt8.ofNat (x + 128) :: enc (y :: r)
def hi7 (xs : List Nat) : List UInt8 := xs.map fun x => UInt8.ofNat (x + 128)
theorem enc_len : ∀ xs : List Nat, (enc xs).length = xs.length
  | [] => rfl
  | [x] => rfl
  | x :: y :: r => by rw [enc, List.length_cons, enc_len (y :: r)]; rfl
theorem hi7_len (xs : List Nat) : (hi7 xs).length = xs.length := by simp [hi7]
theorem hi7_snoc (l : List Nat) (x : Nat) : hi7 (l ++ [x]) = hi7 l ++ [UInt8.ofNat (x + 128)] := by unfold hi7; rw [List.map_append]; rfl
theorem hi7_last : ∀ (xs : List Nat), xs ≠ [] → (hi7 xs).set (xs.length - 1) (UInt8.ofNat (xs.getLastD 0)) = enc xs
  | [], h => absurd rfl h
  | [x], _ => rfl
  | x :: y :: r, _ => by
    have := hi7_last (y :: r) (by simp)
    rw [enc, ← this]
    simp [hi7]
theorem hi7_get : ∀ (xs : List Nat), xs ≠ [] → (hi7 xs).getD (xs.length - 1) 0 = UInt8.ofNat (xs.getLastD 0 + 128)
  | [], h => absurd rfl h
  | [x], _ => rfl
  | x :: y :: r, _ => by
    have := hi7_get (y :: r) (by simp)
    have e : (hi7 (x :: y :: r)).getD ((x :: y :: r).length - 1) 0 = (hi7 (y :: r)).getD ((y :: r).length - 1) 0 := by
      show (UInt8.ofNat (x + 128) :: hi7 (y :: r)).getD ((y :: r).length) 0 = _
      rw [show (y :: r).length = ((y :: r).length - 1) + 1 from rfl, List.getD_cons_succ]; rfl
    rw [e, this]; rfl
theorem or128 : ∀ x : Nat, x < 128 → abits .or .u8 (x : Int) 128 = ((x + 128 : Nat) : Int) := by
  intro x hx
  have e : ((BitVec.ofInt 8 (x : Int)) ||| (BitVec.ofInt 8 128)).toNat = x + 128 := by
    rw [BitVec.toNat_or, BitVec.ofInt_natCast, BitVec.toNat_ofNat, show (BitVec.ofInt 8 128).toNat = 2 ^ 7 from rfl, Nat.mod_eq_of_lt (by omega)]
    have := Nat.two_pow_add_eq_or_of_lt (i := 7) (b := x) (by omega) 1
    rw [Nat.mul_one] at this
    rw [Nat.or_comm, ← this]; omega
  show IntKind.u8.wrap (((BitVec.ofInt 8 (x : Int)) ||| (BitVec.ofInt 8 128)).toNat : Int) = _
  rw [e, wrap_u8_eq]; omega
theorem last127 : ∀ x : Nat, x < 128 → abits .and .u8 ((x + 128 : Nat) : Int) 127 = ((x : Nat) : Int) := by
  intro x hx
  have e : ((BitVec.ofInt 8 ((x + 128 : Nat) : Int)) &&& (BitVec.ofInt 8 127)).toNat = x := by
    rw [BitVec.toNat_and, BitVec.ofInt_natCast, BitVec.toNat_ofNat, show (BitVec.ofInt 8 127).toNat = 2 ^ 7 - 1 from rfl, Nat.and_two_pow_sub_one_eq_mod]
    omega
  show IntKind.u8.wrap (((BitVec.ofInt 8 ((x + 128 : Nat) : Int)) &&& (BitVec.ofInt 8 127)).toNat : Int) = _
  rw [e, wrap_u8_eq]; omega
theorem put_ok {a r : List UInt8} {xs : List Nat} {id nid gf : Nat} {c0 : AO} {fnd : Func} (hid : h.getD id .dead = .o 1 (byt (a ++ r))) (hn : h.getD nid .dead = c0) (hnl : nid < h.length) (hne : nid ≠ id) (hx0 : xs ≠ []) (hx : ∀ x ∈ xs, x < 128) (hxl : xs.length ≤ 10)
    (ha : a.length + 10 ≤ bigRoom) (hS : Seq7 gf nid xs c0) (hf : X.P.funcs[gf]? = some fnd) (hb : fnd.body.isNone = false) (hnm : (fnd.name == "runtime.NumGoroutine") = false)
    (hK : ∀ h1 id1, h1.getD id1 .dead = .o 1 (byt (a ++ enc xs)) → (∀ j, j < h.length → j ≠ id → j ≠ nid → h1.getD j .dead = h.getD j .dead) → (∃ r', h1.getD id .dead = .o 1 (byt (a ++ r'))) → h.length ≤ h1.length → (id1 = id ∨ h.length ≤ id1) →
      K.K (.w id1 0 (a.length + xs.length)) h1) : ACall X 26 [.w id 0 a.length, .f (.func gf) [] [.p nid 0]] h K := by
  have hil := hlt hid (by simp)
  apply i26
  (simp +contextual -dsimp only [R26, evA, evB, ↓a_on_t, ↓a_on_f, ↓a_on_und, ↓a_cond_b, ↓reduceIte, Go.Ab.part, List.getD_cons_zero, List.getD_cons_succ, List.set_cons_zero, List.set_cons_succ, List.length_cons, List.length_nil, List.cons_append, List.nil_append, cond_true, cond_false, Bool.cond_true, reduceCtorEq, Option.map_some, Option.map_none, forall_const, ne_eq, implies_true, Nat.reduceAdd, Nat.reduceLeDiff, Nat.reduceLT, Nat.beq, Option.isNone_none, beq_self_eq_true, bne_self_eq_false, Int.reduceBEq, Int.reduceBNe, Int.reduceLT, Int.reduceLE, Int.reduceGT, Int.reduceGE, Int.reduceEq, Int.reduceNe, Int.reduceToNat, List.take_zero, List.drop_zero, List.all_cons, List.all_nil, List.append_nil, List.length_append, List.length_set, List.append_assoc, List.drop_nil, List.take_nil, hget_new, hset_new] <;> try simp -dsimp only [if_conj])
  have hn1 : h.length ≤ (h ++ [AO.o 1 [.w id 0 a.length]]).length := by simp
  refine ⟨rfl, ?_⟩
  refine arange (lb := [.p nid 0]) (gf := gf) hn1 rfl hf hb hnm fun fn l D => ?_
  have hlen : (h ++ [AO.o 1 [.w id 0 a.length]]).length = h.length + 1 := by simp
  rw [hlen]
  generalize htm : ([AV.w id 0 a.length, AV.f (.func gf) [] [AV.p nid 0], AV.p h.length 0, AV.bad, AV.v (.slice none 0 0), AV.v (.int .i64 a.length), AV.bad, AV.w id 0 a.length, AV.v (.int .i64 a.length), AV.f (.func gf) [] [AV.p nid 0], AV.bad, AV.bad, AV.bad, AV.bad, AV.bad, AV.bad, AV.bad, AV.bad, AV.bad, AV.bad, AV.bad, AV.bad, AV.bad, AV.bad, AV.bad, AV.bad, AV.bad, AV.bad, AV.bad] : List AV) = tm
  obtain ⟨rec, hrec⟩ : ∃ rec, rec = AO.k l (recF fn 10 c26_9 c26_10 D) tm := ⟨_, rfl⟩
  let J : Nat → Heap → Prop := fun k H => ∃ bid, H.getD h.length .dead = .o 1 [.w bid 0 (a.length + k)] ∧ (∃ rr, H.getD bid .dead = .o 1 (byt (a ++ hi7 (xs.take k) ++ rr)) ∧ (0 < k → rr = [])) ∧ (∃ r', H.getD id .dead = .o 1 (byt (a ++ r'))) ∧
    H.getD (h.length + 1) .dead = rec ∧ (∀ j, j < h.length → j ≠ id → j ≠ nid → H.getD j .dead = h.getD j .dead) ∧ h.length + 2 ≤ H.length ∧ (bid = id ∨ h.length + 2 ≤ bid)
  refine hS l J _ _ ?_ ?_ ?_ ?_ ?_ ?_
  · refine ⟨id, hget_app hget_new (by simp), ⟨r, ?_, fun h => absurd h (by omega)⟩, ⟨r, ?_⟩, ?_, fun j hj _ _ => ?_, by simp, .inl rfl⟩
    · rw [List.append_assoc, show a ++ hi7 (xs.take 0) ++ r = a ++ r by simp [hi7]]; exact hget_app hid (by simp)
    · rw [List.append_assoc]; exact hget_app hid (by simp)
    · rw [hrec, show h.length + 1 = (h ++ [AO.o 1 [AV.w id 0 a.length]]).length by simp]; exact hget_new
    · rw [List.append_assoc]; exact Adds.mk.at hj
  · rw [List.append_assoc]; exact (Adds.mk.at hnl).trans hn
  · rintro k H ⟨bid, _, _, _, _, _, q, _⟩
    simpa using q
  · rintro k H ⟨bid, q1, ⟨rr, q2, q2r⟩, ⟨r', q3⟩, q4, q5, q6, q7⟩ hk
    have hxk : xs.getD k 0 < 128 := by
      rw [List.getD_eq_getElem?_getD, List.getElem?_eq_getElem hk]; exact hx _ (List.getElem_mem hk)
    have htk : hi7 (xs.take (k + 1)) = hi7 (xs.take k) ++ [UInt8.ofNat (xs.getD k 0 + 128)] := by
      rw [List.take_add_one, List.getElem?_eq_getElem hk, List.getD_eq_getElem?_getD, List.getElem?_eq_getElem hk, Option.toList_some, hi7_snoc]; rfl
    generalize xs.getD k 0 = x at *
    have e1 := or128 x hxk
    have hb8 : (B8 ((x + 128 : Nat) : Int)) = .v (.int .u8 ((UInt8.ofNat (x + 128)).toNat : Int)) := by
      rw [UInt8.toNat_ofNat_of_lt' (by simp [UInt8.size]; omega)]
    have hal : (hi7 (xs.take k)).length = k := by rw [hi7_len, List.length_take]; omega
    have hbne : bid ≠ h.length + 1 := by omega
    have hbl := hlt q2 (by simp)
    refine ayield (id := h.length + 1) (by rw [q4, hrec]) (by kernel_rfl) (by kernel_rfl) ?_
    rw [← htm]
    have s1 : (H.set (h.length + 1) .dead).getD h.length .dead = .o 1 [.w bid 0 (a.length + k)] := (hget_set_ne (by omega)).trans q1
    have s2 : (H.set (h.length + 1) .dead).getD bid .dead = .o 1 (byt (a ++ hi7 (xs.take k) ++ rr)) := (hget_set_ne (Ne.symm hbne)).trans q2
    have hGl : (H.set (h.length + 1) .dead).length = H.length := by simp
    have hrd : (H.set (h.length + 1) .dead).getD (h.length + 1) .dead = .dead := hget_set (by omega)
    have hoth : ∀ j, j ≠ h.length + 1 → (H.set (h.length + 1) .dead).getD j .dead = H.getD j .dead := fun j hj => hget_set_ne (Ne.symm hj)
    rw [← hGl]
    generalize H.set (h.length + 1) .dead = G at *
    have s3 : (G ++ [AO.o 1 [AV.v (.int .u8 ((x + 128 : Nat) : Int))]]).getD bid .dead = .o 1 (byt (a ++ hi7 (xs.take k) ++ rr)) := hget_app s2 (by simp)
    have s4 : (G ++ [AO.o 1 [AV.v (.int .u8 ((x + 128 : Nat) : Int))]]).getD G.length .dead = .o 1 [AV.v (.int .u8 ((x + 128 : Nat) : Int))] := hget_new
    (simp +contextual -dsimp only [R26, evA, evB, ↓a_on_t, ↓a_on_f, ↓a_on_und, ↓a_cond_b, ↓reduceIte, Go.Ab.part, List.getD_cons_zero, List.getD_cons_succ, List.set_cons_zero, List.set_cons_succ, List.length_cons, List.length_nil, List.cons_append, List.nil_append, cond_true, cond_false, Bool.cond_true, reduceCtorEq, Option.map_some, Option.map_none, forall_const, ne_eq, implies_true, Nat.reduceAdd, Nat.reduceLeDiff, Nat.reduceLT, Nat.beq, Option.isNone_none, beq_self_eq_true, bne_self_eq_false, Int.reduceBEq, Int.reduceBNe, Int.reduceLT, Int.reduceLE, Int.reduceGT, Int.reduceGE, Int.reduceEq, Int.reduceNe, Int.reduceToNat, List.take_zero, List.drop_zero, List.all_cons, List.all_nil, List.append_nil, List.length_append, List.length_set, List.append_assoc, List.drop_nil, List.take_nil, onlyN.eq_1, s1, e1, s3, s4] <;> try simp -dsimp only [if_conj])
    have hl2 : (a ++ hi7 (xs.take k)).length = a.length + k := by rw [List.length_append, hal]
    have et : List.take 1 [AV.v (.int .u8 ((x + 128 : Nat) : Int))] = [AV.v (.int .u8 ((x + 128 : Nat) : Int))] := rfl
    refine ⟨⟨by omega, by omega, rfl⟩, fun id' off' h' hap => ?_⟩
    obtain ⟨rfl, g⟩ := apk_b (a := a ++ hi7 (xs.take k)) (r := rr) (m := [UInt8.ofNat (x + 128)]) hap (by rw [List.append_assoc]) (by rw [et]; exact congrArg (fun z => [z]) hb8) hl2.symm (by rw [← List.append_assoc]; exact s3)
    have hG1 : (G ++ [AO.o 1 [AV.v (.int .u8 ((x + 128 : Nat) : Int))]]).length = G.length + 1 := by simp
    have g1 := g.get
    have gk : ∀ j, j < G.length → j ≠ bid → h'.getD j .dead = G.getD j .dead := fun j hj hjb => (g.keep j (by omega) hjb).trans (Adds.mk.at hj)
    have gl : G.length + 1 ≤ h'.length := by have := g.len; omega
    have gis : id' = bid ∨ G.length + 1 ≤ id' := by have := g.is; omega
    have gold : (∃ r'', h'.getD id .dead = .o 1 (byt (a ++ r''))) := by
      by_cases hib : id = bid
      · subst hib
        rcases g.old with e | e
        · exact ⟨hi7 (xs.take k) ++ rr, by rw [e, s3, List.append_assoc]⟩
        · exact ⟨hi7 (xs.take k) ++ [UInt8.ofNat (x + 128)], by rw [e, List.append_assoc]⟩
      · exact ⟨r', (gk id (by omega) hib).trans ((hoth id (by omega)).trans q3)⟩
    have c1 : h'.getD h.length .dead = .o 1 [.w bid 0 (a.length + k)] := (gk _ (by omega) (by omega)).trans s1
    clear hap g
    (simp +contextual -dsimp only [R26, evA, evB, ↓a_on_t, ↓a_on_f, ↓a_on_und, ↓a_cond_b, ↓reduceIte, Go.Ab.part, List.getD_cons_zero, List.getD_cons_succ, List.set_cons_zero, List.set_cons_succ, List.length_cons, List.length_nil, List.cons_append, List.nil_append, cond_true, cond_false, Bool.cond_true, reduceCtorEq, Option.map_some, Option.map_none, forall_const, ne_eq, implies_true, Nat.reduceAdd, Nat.reduceLeDiff, Nat.reduceLT, Nat.beq, Option.isNone_none, beq_self_eq_true, bne_self_eq_false, Int.reduceBEq, Int.reduceBNe, Int.reduceLT, Int.reduceLE, Int.reduceGT, Int.reduceGE, Int.reduceEq, Int.reduceNe, Int.reduceToNat, List.take_zero, List.drop_zero, List.all_cons, List.all_nil, List.append_nil, List.length_append, List.length_set, List.append_assoc, List.drop_nil, List.take_nil, onlyN.eq_1, c1] <;> try simp -dsimp only [if_conj])
    refine ⟨rfl, ?_, ?_⟩
    · rw [hget_set_ne (by omega)]; exact (gk _ (by omega) (by omega)).trans hrd
    · have gg : ∀ j, j ≠ h.length → j ≠ h.length + 1 → ((h'.set h.length (.o 1 [.w id' 0 (a.length + k + 1)])).set (h.length + 1) rec).getD j .dead = h'.getD j .dead := fun j h1 h2 => by
        rw [hget_set_ne (by omega), hget_set_ne (by omega)]
      rw [htm, ← hrec]
      refine ⟨⟨id', ?_, ⟨[], ?_, fun _ => rfl⟩, ?_, ?_, fun j hj hj1 hj2 => ?_, ?_, ?_⟩, ?_⟩
      · rw [hget_set_ne (by omega)]; exact hget_set (by omega)
      · rw [gg _ (by omega) (by omega), g1, htk, List.append_nil, List.append_assoc]
      · obtain ⟨r'', e⟩ := gold
        exact ⟨r'', by rw [gg _ (by omega) (by omega)]; exact e⟩
      · exact hget_set (by rw [List.length_set]; omega)
      · rw [gg _ (by omega) (by omega), gk _ (by omega) (by omega), hoth _ (by omega)]; exact q5 j hj hj1 hj2
      · simp only [List.length_set]; omega
      · omega
      · rw [gg _ (by omega) (by omega), gk _ (by omega) (by omega), hoth _ (by omega)]
  · rintro k H o ⟨bid, q1, ⟨rr, q2, q2r⟩, ⟨r', q3⟩, q4, q5, q6, q7⟩
    have gg : ∀ j, j ≠ nid → (H.set nid o).getD j .dead = H.getD j .dead := fun j hj => hget_set_ne (Ne.symm hj)
    refine ⟨bid, (gg _ (by omega)).trans q1, ⟨rr, (gg _ (by omega)).trans q2, q2r⟩, ⟨r', (gg _ (by omega)).trans q3⟩, (gg _ (by omega)).trans q4, fun j hj hj1 hj2 => (gg _ hj2).trans (q5 j hj hj1 hj2), by rw [List.length_set]; exact q6, q7⟩
  · rintro H ⟨bid, q1, ⟨rr, q2, q2r⟩, ⟨r', q3⟩, q4, q5, q6, q7⟩
    refine ⟨by rw [q4, hrec], ?_⟩
    rw [← htm]
    rw [List.take_length] at q2
    have hxl0 : 0 < xs.length := by cases xs with | nil => exact absurd rfl hx0 | cons _ _ => simp
    have hrr := q2r hxl0
    subst hrr
    rw [List.append_nil] at q2
    have hbl := hlt q2 (by simp)
    have gg : ∀ j, j ≠ h.length + 1 → (H.set (h.length + 1) .dead).getD j .dead = H.getD j .dead := fun j hj => hget_set_ne (Ne.symm hj)
    have hGl : (H.set (h.length + 1) .dead).length = H.length := by simp
    have g1 := (gg _ (by omega)).trans q1
    have g2 := (gg _ (by omega)).trans q2
    have g3 := (gg _ (by omega)).trans q3
    have g5 : ∀ j, j < h.length → j ≠ id → j ≠ nid → (H.set (h.length + 1) .dead).getD j .dead = h.getD j .dead := fun j hj h1 h2 => (gg _ (by omega)).trans (q5 j hj h1 h2)
    rw [← hGl] at q6 hbl
    generalize H.set (h.length + 1) .dead = G at *
    have hbr : bigRoom = 140737488355328 := rfl
    have d1 : decide (((a.length + xs.length : Nat) : Int) > (a.length : Int)) = true := by simp; omega
    have d2 : IntKind.i64.wrap (((a.length + xs.length : Nat) : Int) - 1) = ((a.length + xs.length - 1 : Nat) : Int) := by rw [wrap_i64 (by omega) (by omega)]; omega
    have hlast : xs.getLastD 0 < 128 := by
      cases xs with
      | nil => exact absurd rfl hx0
      | cons x r => rw [List.getLastD_cons]; exact hx _ (by rw [List.getLastD_eq_getLast?]; cases r with
        | nil => simp
        | cons y r => simp [List.getLast?_eq_some_getLast])
    have hlen2 : (a ++ hi7 xs).length = a.length + xs.length := by rw [List.length_append, hi7_len]
    have hg : (byt (a ++ hi7 xs)).getD (a.length + xs.length - 1) .bad = .v (.int .u8 ((xs.getLastD 0 + 128 : Nat) : Int)) := by
      rw [byt_getD (by omega), List.getD_eq_getElem?_getD, List.getElem?_append_right (by omega), show a.length + xs.length - 1 - a.length = xs.length - 1 by omega, ← List.getD_eq_getElem?_getD, hi7_get xs hx0, UInt8.toNat_ofNat_of_lt' (by rw [show UInt8.size = 256 from rfl]; omega)]
    have hs : (byt (a ++ hi7 xs)).set (a.length + xs.length - 1) (.v (.int .u8 ((xs.getLastD 0 : Nat) : Int))) = byt (a ++ enc xs) := by
      have e : ((xs.getLastD 0 : Nat) : Int) = ((UInt8.ofNat (xs.getLastD 0)).toNat : Int) := by rw [UInt8.toNat_ofNat_of_lt' (by rw [show UInt8.size = 256 from rfl]; omega)]
      rw [e, byt_set, List.set_append_right _ _ (by omega), show a.length + xs.length - 1 - a.length = xs.length - 1 by omega, hi7_last xs hx0]
    have e127 := last127 _ hlast
    have hbyl : (byt (a ++ hi7 xs)).length = a.length + xs.length := by rw [byt_length, hlen2]
    have g6 : ∀ o, (G.set bid o).getD h.length .dead = .o 1 [.w bid 0 (a.length + xs.length)] := fun o => (hget_set_ne (by omega)).trans g1
    (simp +contextual -dsimp only [R26, evA, evB, ↓a_on_t, ↓a_on_f, ↓a_on_und, ↓a_cond_b, ↓reduceIte, Go.Ab.part, List.getD_cons_zero, List.getD_cons_succ, List.set_cons_zero, List.set_cons_succ, List.length_cons, List.length_nil, List.cons_append, List.nil_append, cond_true, cond_false, Bool.cond_true, reduceCtorEq, Option.map_some, Option.map_none, forall_const, ne_eq, implies_true, Nat.reduceAdd, Nat.reduceLeDiff, Nat.reduceLT, Nat.beq, Option.isNone_none, beq_self_eq_true, bne_self_eq_false, Int.reduceBEq, Int.reduceBNe, Int.reduceLT, Int.reduceLE, Int.reduceGT, Int.reduceGE, Int.reduceEq, Int.reduceNe, Int.reduceToNat, List.take_zero, List.drop_zero, List.all_cons, List.all_nil, List.append_nil, List.length_append, List.length_set, List.append_assoc, List.drop_nil, List.take_nil, g1, g2, d1, d2, hg, e127, hs, hbyl, g6] <;> try simp -dsimp only [if_conj])
    refine ⟨by omega, by omega, by omega, by omega, hK _ bid (hget_set hbl) (fun j hj h1 h2 => ?_) ?_ (by rw [List.length_set]; omega) (by omega)⟩
    · rw [hget_set_ne (by omega)]; exact g5 j hj h1 h2
    · by_cases hib : id = bid
      · subst hib; exact ⟨enc xs, hget_set hbl⟩
      · exact ⟨r', (hget_set_ne (Ne.symm hib)).trans g3⟩
end Go.Proofs.Ytlfplmcidfflfaa
