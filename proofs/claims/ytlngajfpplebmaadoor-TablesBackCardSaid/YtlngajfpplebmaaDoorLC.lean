import Derived.Test.YtlngajfpplebmaaDoorLB
set_option linter.unusedVariables false
set_option linter.unusedSimpArgs false
set_option maxRecDepth 100000
set_option maxHeartbeats 2000000
namespace Go.Proofs.YtlngajfpplebmaaDoor
open Go.Ab
variable {h : Heap} {K : Kt}
def itRow (x : Bool × List Nat) : List AV := [Bo x.1, .z (nums x.2) x.2.length]
theorem itRow_len (x : Bool × List Nat) : (itRow x).length = 2 := rfl
theorem secPut_snoc {a : Bool} {l : List (Bool × List Nat)} {n : Nat} (h : n < l.length) : secPut a (l.take n) ++ tabPut a (l.getD n default) = secPut a (l.take (n + 1)) := by
  rw [take_snoc h]; simp [secPut]
theorem tabPut_len {a : Bool} {x : Bool × List Nat} (h : x.2.length ≤ 200) : (tabPut a x).length ≤ 1616 := by
  obtain ⟨h1, h2⟩ := body_len (a := a) (w := x.1) h
  rw [tabPut, List.length_append, lenB_pos]; split <;> omega
theorem secPut_len {a : Bool} : ∀ l : List (Bool × List Nat), (∀ x ∈ l, okT a x) → (secPut a l).length ≤ 1616 * l.length
  | [], _ => by simp [secPut]
  | x :: l, h => by
    have h1 := tabPut_len (a := a) (h x (List.mem_cons_self ..)).1
    have h2 := secPut_len l fun y hy => h y (List.mem_cons_of_mem _ hy)
    rw [show secPut a (x :: l) = tabPut a x ++ secPut a l from rfl, List.length_append, List.length_cons]; omega
/-- what stands at a table's base -/
theorem sec_drop {a : Bool} {l : List (Bool × List Nat)} {i : Nat} (h : i < l.length) : ∃ (b : Nat) (R : List UInt8), (tabOf a 0 l).getD i default = ⟨(l.getD i default).1, b, (l.getD i default).2⟩ ∧ b ≤ (secPut a l).length ∧
    (secPut a l).drop b = (l.getD i default).2.flatMap (leB (tabN a (l.getD i default).1)) ++ R := by
  obtain ⟨A, R, h1, h2⟩ := tabOf_at (a := a) l 0 i h
  generalize l.getD i default = x at *
  refine ⟨_, R, h2, ?_, ?_⟩
  · rw [h1, List.length_append, List.length_append, tabPut, List.length_append, tabBody_len, hdOf_len]; omega
  · rw [h1, tabPut, tabBody]
    generalize hL : lenB (hdOf a ++ x.2.flatMap (leB (tabN a x.1))).length x.1 = L at *
    have : A ++ (L ++ (hdOf a ++ x.2.flatMap (leB (tabN a x.1))) ++ R) = (A ++ L ++ hdOf a) ++ (x.2.flatMap (leB (tabN a x.1)) ++ R) := by simp
    rw [this, show 0 + A.length + L.length + 4 = (A ++ L ++ hdOf a).length by rw [List.length_append, List.length_append, hdOf_len]; omega]
    exact List.drop_left
theorem frame_eq {n : Nat} (st : St) (h : st.1.length = n) : st = ((List.range n).map (sl st.1), st.2) := by
  have key : ∀ (l : List AV), l = (List.range l.length).map (sl l) := fun l => by
    induction l with
    | nil => rfl
    | cons a l ih =>
      rw [List.length_cons, List.range_succ_eq_map, List.map_cons, List.map_map]
      conv => lhs; rw [ih]
      rfl
  obtain ⟨tm, hp⟩ := st
  subst h
  rw [← key tm]
theorem tabOf_items {a : Bool} : ∀ (l : List (Bool × List Nat)) (off : Nat), (∀ x ∈ l, okT a x) → ∀ t ∈ tabOf a off l, t.items.length ≤ 300000
  | x :: l, off, h, t, ht => by
    rcases List.mem_cons.1 ht with rfl | ht
    · have := (h x (List.mem_cons_self ..)).1; show x.2.length ≤ _; omega
    · exact tabOf_items l _ (fun y hy => h y (List.mem_cons_of_mem _ hy)) t ht
theorem tback_tail {l : List (Bool × List Nat)} {a : Bool} {ids : Nat} {Q : Qt} {h0 : Heap} {r : AV} (hx : ∀ x ∈ l, ∀ y ∈ x.2, y < 18446744073709551616) (ht : l.length ≤ 60) (hok : ∀ x ∈ l, okT a x) (g0 : h0.getD ids .dead = .o 1 (byt (secPut a l))) (i0 : IsR Tab.row 3 (tabOf a 0 l) r h0)
    (hQ : ∀ st : St, st.1.length = 179 → Q (.exit 2) st) : ∀ st : St, st = ((.z (rows itRow l) l.length :: Bo a :: sl st.1 2 :: sl st.1 3 :: sl st.1 4 :: .s ids 0 (secPut a l).length :: sl st.1 6 :: sl st.1 7 :: sl st.1 8 :: sl st.1 9 :: r :: sl st.1 11 :: sl st.1 12 :: sl st.1 13 :: sl st.1 14 :: sl st.1 15 :: sl st.1 16 :: sl st.1 17 :: sl st.1 18 :: sl st.1 19 :: sl st.1 20 :: sl st.1 21 :: sl st.1 22 :: sl st.1 23 :: sl st.1 24 :: sl st.1 25 :: sl st.1 26 :: sl st.1 27 :: sl st.1 28 :: sl st.1 29 :: sl st.1 30 :: sl st.1 31 :: sl st.1 32 :: sl st.1 33 :: sl st.1 34 :: sl st.1 35 :: sl st.1 36 :: sl st.1 37 :: sl st.1 38 :: sl st.1 39 :: sl st.1 40 :: sl st.1 41 :: sl st.1 42 :: sl st.1 43 :: sl st.1 44 :: sl st.1 45 :: sl st.1 46 :: sl st.1 47 :: sl st.1 48 :: sl st.1 49 :: sl st.1 50 :: sl st.1 51 :: sl st.1 52 :: sl st.1 53 :: sl st.1 54 :: sl st.1 55 :: sl st.1 56 :: sl st.1 57 :: sl st.1 58 :: sl st.1 59 :: sl st.1 60 :: sl st.1 61 :: sl st.1 62 :: sl st.1 63 :: sl st.1 64 :: sl st.1 65 :: sl st.1 66 :: sl st.1 67 :: sl st.1 68 :: sl st.1 69 :: sl st.1 70 :: sl st.1 71 :: sl st.1 72 :: sl st.1 73 :: sl st.1 74 :: sl st.1 75 :: sl st.1 76 :: sl st.1 77 :: sl st.1 78 :: sl st.1 79 :: sl st.1 80 :: sl st.1 81 :: sl st.1 82 :: sl st.1 83 :: sl st.1 84 :: sl st.1 85 :: sl st.1 86 :: sl st.1 87 :: sl st.1 88 :: sl st.1 89 :: sl st.1 90 :: sl st.1 91 :: sl st.1 92 :: sl st.1 93 :: r :: I l.length :: I 0 :: sl st.1 97 :: sl st.1 98 :: sl st.1 99 :: sl st.1 100 :: sl st.1 101 :: sl st.1 102 :: sl st.1 103 :: sl st.1 104 :: sl st.1 105 :: sl st.1 106 :: sl st.1 107 :: sl st.1 108 :: sl st.1 109 :: sl st.1 110 :: sl st.1 111 :: sl st.1 112 :: sl st.1 113 :: sl st.1 114 :: sl st.1 115 :: sl st.1 116 :: sl st.1 117 :: sl st.1 118 :: sl st.1 119 :: sl st.1 120 :: sl st.1 121 :: sl st.1 122 :: sl st.1 123 :: sl st.1 124 :: sl st.1 125 :: sl st.1 126 :: sl st.1 127 :: sl st.1 128 :: sl st.1 129 :: sl st.1 130 :: sl st.1 131 :: sl st.1 132 :: sl st.1 133 :: sl st.1 134 :: sl st.1 135 :: sl st.1 136 :: sl st.1 137 :: sl st.1 138 :: sl st.1 139 :: sl st.1 140 :: sl st.1 141 :: sl st.1 142 :: sl st.1 143 :: sl st.1 144 :: sl st.1 145 :: sl st.1 146 :: sl st.1 147 :: sl st.1 148 :: sl st.1 149 :: sl st.1 150 :: sl st.1 151 :: sl st.1 152 :: sl st.1 153 :: sl st.1 154 :: sl st.1 155 :: sl st.1 156 :: sl st.1 157 :: sl st.1 158 :: sl st.1 159 :: sl st.1 160 :: sl st.1 161 :: sl st.1 162 :: sl st.1 163 :: sl st.1 164 :: sl st.1 165 :: sl st.1 166 :: sl st.1 167 :: sl st.1 168 :: sl st.1 169 :: sl st.1 170 :: sl st.1 171 :: sl st.1 172 :: sl st.1 173 :: sl st.1 174 :: sl st.1 175 :: sl st.1 176 :: sl st.1 177 :: sl st.1 178 :: []), h0) → ALoop X 0 c5_82 Q st := by
  intro st hst
  have hbig : (30000000 : Nat) ≤ bigRoom := by decide
  have hS := secPut_len l hok
  have hrl := rows_len itRow_len l
  have hTl := tabOf_len (a := a) l 0
  rw [hst]
  refine aloop (fun m st => ∃ n h1, m + n = l.length ∧ Keeps h0 h1 ∧ st = ((.z (rows itRow l) l.length :: Bo a :: sl st.1 2 :: sl st.1 3 :: sl st.1 4 :: .s ids 0 (secPut a l).length :: sl st.1 6 :: sl st.1 7 :: sl st.1 8 :: sl st.1 9 :: r :: sl st.1 11 :: sl st.1 12 :: sl st.1 13 :: sl st.1 14 :: sl st.1 15 :: sl st.1 16 :: sl st.1 17 :: sl st.1 18 :: sl st.1 19 :: sl st.1 20 :: sl st.1 21 :: sl st.1 22 :: sl st.1 23 :: sl st.1 24 :: sl st.1 25 :: sl st.1 26 :: sl st.1 27 :: sl st.1 28 :: sl st.1 29 :: sl st.1 30 :: sl st.1 31 :: sl st.1 32 :: sl st.1 33 :: sl st.1 34 :: sl st.1 35 :: sl st.1 36 :: sl st.1 37 :: sl st.1 38 :: sl st.1 39 :: sl st.1 40 :: sl st.1 41 :: sl st.1 42 :: sl st.1 43 :: sl st.1 44 :: sl st.1 45 :: sl st.1 46 :: sl st.1 47 :: sl st.1 48 :: sl st.1 49 :: sl st.1 50 :: sl st.1 51 :: sl st.1 52 :: sl st.1 53 :: sl st.1 54 :: sl st.1 55 :: sl st.1 56 :: sl st.1 57 :: sl st.1 58 :: sl st.1 59 :: sl st.1 60 :: sl st.1 61 :: sl st.1 62 :: sl st.1 63 :: sl st.1 64 :: sl st.1 65 :: sl st.1 66 :: sl st.1 67 :: sl st.1 68 :: sl st.1 69 :: sl st.1 70 :: sl st.1 71 :: sl st.1 72 :: sl st.1 73 :: sl st.1 74 :: sl st.1 75 :: sl st.1 76 :: sl st.1 77 :: sl st.1 78 :: sl st.1 79 :: sl st.1 80 :: sl st.1 81 :: sl st.1 82 :: sl st.1 83 :: sl st.1 84 :: sl st.1 85 :: sl st.1 86 :: sl st.1 87 :: sl st.1 88 :: sl st.1 89 :: sl st.1 90 :: sl st.1 91 :: sl st.1 92 :: sl st.1 93 :: r :: I l.length :: I n :: sl st.1 97 :: sl st.1 98 :: sl st.1 99 :: sl st.1 100 :: sl st.1 101 :: sl st.1 102 :: sl st.1 103 :: sl st.1 104 :: sl st.1 105 :: sl st.1 106 :: sl st.1 107 :: sl st.1 108 :: sl st.1 109 :: sl st.1 110 :: sl st.1 111 :: sl st.1 112 :: sl st.1 113 :: sl st.1 114 :: sl st.1 115 :: sl st.1 116 :: sl st.1 117 :: sl st.1 118 :: sl st.1 119 :: sl st.1 120 :: sl st.1 121 :: sl st.1 122 :: sl st.1 123 :: sl st.1 124 :: sl st.1 125 :: sl st.1 126 :: sl st.1 127 :: sl st.1 128 :: sl st.1 129 :: sl st.1 130 :: sl st.1 131 :: sl st.1 132 :: sl st.1 133 :: sl st.1 134 :: sl st.1 135 :: sl st.1 136 :: sl st.1 137 :: sl st.1 138 :: sl st.1 139 :: sl st.1 140 :: sl st.1 141 :: sl st.1 142 :: sl st.1 143 :: sl st.1 144 :: sl st.1 145 :: sl st.1 146 :: sl st.1 147 :: sl st.1 148 :: sl st.1 149 :: sl st.1 150 :: sl st.1 151 :: sl st.1 152 :: sl st.1 153 :: sl st.1 154 :: sl st.1 155 :: sl st.1 156 :: sl st.1 157 :: sl st.1 158 :: sl st.1 159 :: sl st.1 160 :: sl st.1 161 :: sl st.1 162 :: sl st.1 163 :: sl st.1 164 :: sl st.1 165 :: sl st.1 166 :: sl st.1 167 :: sl st.1 168 :: sl st.1 169 :: sl st.1 170 :: sl st.1 171 :: sl st.1 172 :: sl st.1 173 :: sl st.1 174 :: sl st.1 175 :: sl st.1 176 :: sl st.1 177 :: sl st.1 178 :: []), h1)) l.length _ (Nat.zero_le _) (Weak.refl _ (Nat.zero_le _)) ⟨0, h0, by omega, Keeps.refl _, rfl⟩ ?_
  rintro m st ⟨n, h1, hm, k1, hst⟩
  rw [hst]
  by_cases hz : n < l.length
  · have hz' : decide ((n : Int) < l.length) = true := by simp; omega
    have hn1 : IntKind.i64.wrap ((n : Int) + 1) = ((n + 1 : Nat) : Int) := by rw [wrap_i64 (by omega) (by omega)]; rfl
    have i1 := i0.keeps k1
    have gs1 := k1.at g0 (by simp)
    rcases i0 with ⟨_, e⟩ | ⟨id, rfl, gT⟩
    · rw [e] at hTl; simp at hTl; omega
    · have gT1 : h1.getD id .dead = .o 3 (tabs (tabOf a 0 l)) := k1.at gT (by simp)
      have hTt := tabs_len (tabOf a 0 l)
      have tr := tab_row (l := tabOf a 0 l) (n := n) (by omega)
      obtain ⟨b, R, hT, hb1, hb2⟩ := sec_drop (a := a) hz
      have hfind : ∀ q, q < (l.getD n default).2.length → tabAt (tabOf a 0 l) b q = ((l.getD n default).2.getD q 0, true) := fun q hq => by
        have := tabOf_find (a := a) l 0 n hok hz hq
        rw [hT] at this; exact this
      rw [hT] at tr
      have c0 : (rows itRow l).getD (n * 2) .bad = Bo (l.getD n default).1 := rows_at (j := 0) itRow_len hz (by decide)
      have c1 : (rows itRow l).getD (n * 2 + 1) .bad = .z (nums (l.getD n default).2) (l.getD n default).2.length := rows_at (j := 1) itRow_len hz (by decide)
      have hmem : l.getD n default ∈ l := by rw [List.getD_eq_getElem?_getD, List.getElem?_eq_getElem hz]; exact List.getElem_mem hz
      have hxo := hok _ hmem
      have hitems : ∀ x ∈ tabOf a 0 l, x.items.length ≤ 300000 := tabOf_items l 0 hok
      generalize l.getD n default = x at *
      have hn48 := tabN_le a x.1
      have hwn : wid ((tabN a x.1 : Nat) : Int) = tabN a x.1 := wid_nat hn48
      have hsz : ((!a) = true ∧ (!x.1) = true ∧ tabN a x.1 = 4) ∨ (tabN a x.1 = 8 ∧ ((!a) = false ∨ ((!a) = true ∧ (!x.1) = false))) := by
        cases a <;> cases hx1 : x.1 <;> simp [tabN, lenW]
      have gT2 : ∀ L, (h1 ++ L).getD id .dead = .o 3 (tabs (tabOf a 0 l)) := fun L => hget_app gT1 (by simp)
      have hcond : ((!a) = true ∧ (!x.1) = true ∧ tabN a x.1 = 4) ∨ (tabN a x.1 = 8 ∧ (!a) = false) ∨ (tabN a x.1 = 8 ∧ (!a) = true ∧ (!x.1) = false) := by
        rcases hsz with h0 | ⟨h1, h2 | ⟨h2, h3⟩⟩
        · exact .inl h0
        · exact .inr (.inl ⟨h1, h2⟩)
        · exact .inr (.inr ⟨h1, h2, h3⟩)
      generalize hN : tabN a x.1 = N at *
      have hN8 : 0 < N := by rw [← hN]; exact tabN_pos a x.1
      rcases hcond with ⟨f1, f2, f3⟩ | ⟨f3, f1⟩ | ⟨f3, f1, f2⟩
      focus
        (simp +contextual -dsimp only [R5, evA, evB, ↓a_on_t, ↓a_on_f, ↓a_on_und, ↓a_cond_b, ↓reduceIte, Go.Ab.part, List.getD_cons_zero, List.getD_cons_succ, List.set_cons_zero, List.set_cons_succ, List.length_cons, List.length_nil, List.cons_append, List.nil_append, cond_true, cond_false, Bool.cond_true, reduceCtorEq, Option.map_some, Option.map_none, forall_const, ne_eq, implies_true, Nat.reduceAdd, Nat.reduceLeDiff, Nat.reduceLT, Nat.beq, Option.isNone_none, beq_self_eq_true, bne_self_eq_false, Int.reduceBEq, Int.reduceBNe, Int.reduceLT, Int.reduceLE, Int.reduceGT, Int.reduceGE, Int.reduceEq, Int.reduceNe, Int.reduceToNat, List.take_zero, List.drop_zero, List.all_cons, List.all_nil, List.append_nil, List.length_append, List.length_set, List.append_assoc, List.drop_nil, List.take_nil, hz', gT1, tr, Tab.row, hget_new, hset_new, setAt, f1, f2, c0, c1] <;> try simp -dsimp only [if_conj])
        rw [show (4 : Int) = (N : Int) by omega]
      rotate_left 1
      focus
        (simp +contextual -dsimp only [R5, evA, evB, ↓a_on_t, ↓a_on_f, ↓a_on_und, ↓a_cond_b, ↓reduceIte, Go.Ab.part, List.getD_cons_zero, List.getD_cons_succ, List.set_cons_zero, List.set_cons_succ, List.length_cons, List.length_nil, List.cons_append, List.nil_append, cond_true, cond_false, Bool.cond_true, reduceCtorEq, Option.map_some, Option.map_none, forall_const, ne_eq, implies_true, Nat.reduceAdd, Nat.reduceLeDiff, Nat.reduceLT, Nat.beq, Option.isNone_none, beq_self_eq_true, bne_self_eq_false, Int.reduceBEq, Int.reduceBNe, Int.reduceLT, Int.reduceLE, Int.reduceGT, Int.reduceGE, Int.reduceEq, Int.reduceNe, Int.reduceToNat, List.take_zero, List.drop_zero, List.all_cons, List.all_nil, List.append_nil, List.length_append, List.length_set, List.append_assoc, List.drop_nil, List.take_nil, hz', gT1, tr, Tab.row, hget_new, hset_new, setAt, f1, c0, c1] <;> try simp -dsimp only [if_conj])
        rw [show (8 : Int) = (N : Int) by omega]
      rotate_left 1
      focus
        (simp +contextual -dsimp only [R5, evA, evB, ↓a_on_t, ↓a_on_f, ↓a_on_und, ↓a_cond_b, ↓reduceIte, Go.Ab.part, List.getD_cons_zero, List.getD_cons_succ, List.set_cons_zero, List.set_cons_succ, List.length_cons, List.length_nil, List.cons_append, List.nil_append, cond_true, cond_false, Bool.cond_true, reduceCtorEq, Option.map_some, Option.map_none, forall_const, ne_eq, implies_true, Nat.reduceAdd, Nat.reduceLeDiff, Nat.reduceLT, Nat.beq, Option.isNone_none, beq_self_eq_true, bne_self_eq_false, Int.reduceBEq, Int.reduceBNe, Int.reduceLT, Int.reduceLE, Int.reduceGT, Int.reduceGE, Int.reduceEq, Int.reduceNe, Int.reduceToNat, List.take_zero, List.drop_zero, List.all_cons, List.all_nil, List.append_nil, List.length_append, List.length_set, List.append_assoc, List.drop_nil, List.take_nil, hz', gT1, tr, Tab.row, hget_new, hset_new, setAt, f1, f2, c0, c1] <;> try simp -dsimp only [if_conj])
        rw [show (8 : Int) = (N : Int) by omega]
      rotate_left 1
      all_goals
        refine ⟨⟨by omega, by omega⟩, by omega, ⟨by omega, by omega, by omega⟩, by omega, ⟨by omega, by omega, by omega⟩, by omega, ?_⟩
        have gsH : ∀ o L, (h1 ++ [o] ++ L).getD ids .dead = .o 1 (byt (secPut a l)) := fun o L => hget_app (hget_app gs1 (by simp)) (by simp)
        have lids := hlt gs1 (by simp)
        refine New_ok (l := secPut a l) (fun r => (IsB.s (gsH _ _)).src) (by simp [otherId]; omega) (by omega) ?_
        (simp +contextual -dsimp only [R5, evA, evB, ↓a_on_t, ↓a_on_f, ↓a_on_und, ↓a_cond_b, ↓reduceIte, Go.Ab.part, List.getD_cons_zero, List.getD_cons_succ, List.set_cons_zero, List.set_cons_succ, List.length_cons, List.length_nil, List.cons_append, List.nil_append, cond_true, cond_false, Bool.cond_true, reduceCtorEq, Option.map_some, Option.map_none, forall_const, ne_eq, implies_true, Nat.reduceAdd, Nat.reduceLeDiff, Nat.reduceLT, Nat.beq, Option.isNone_none, beq_self_eq_true, bne_self_eq_false, Int.reduceBEq, Int.reduceBNe, Int.reduceLT, Int.reduceLE, Int.reduceGT, Int.reduceGE, Int.reduceEq, Int.reduceNe, Int.reduceToNat, List.take_zero, List.drop_zero, List.all_cons, List.all_nil, List.append_nil, List.length_append, List.length_set, List.append_assoc, List.drop_nil, List.take_nil, hget_new] <;> try simp -dsimp only [if_conj])
        have hS64 : (secPut a l).length ≤ 300000 := by omega
        have gcur : ∀ o p q c, (h1 ++ [o, p, q, c]).getD (h1.length + 1 + 2) .dead = c := fun o p q c => by rw [Nat.add_assoc]; exact hgets h1 3 rfl
        have hi0 : (⟨secPut a l, 0, 0⟩ : Cur).inv := Cur.mki (Nat.zero_le _) (by omega)
        refine Seek_ok (n := b) (gcur _ _ _ _) hi0 (by omega) ?_
        have hsk : (⟨secPut a l, 0, 0⟩ : Cur).seek b = ⟨secPut a l, b, 0⟩ := by unfold Cur.seek; rw [if_pos rfl, if_pos hb1]
        rw [hsk]
        (simp +contextual -dsimp only [R5, evA, evB, ↓a_on_t, ↓a_on_f, ↓a_on_und, ↓a_cond_b, ↓reduceIte, Go.Ab.part, List.getD_cons_zero, List.getD_cons_succ, List.set_cons_zero, List.set_cons_succ, List.length_cons, List.length_nil, List.cons_append, List.nil_append, cond_true, cond_false, Bool.cond_true, reduceCtorEq, Option.map_some, Option.map_none, forall_const, ne_eq, implies_true, Nat.reduceAdd, Nat.reduceLeDiff, Nat.reduceLT, Nat.beq, Option.isNone_none, beq_self_eq_true, bne_self_eq_false, Int.reduceBEq, Int.reduceBNe, Int.reduceLT, Int.reduceLE, Int.reduceGT, Int.reduceGE, Int.reduceEq, Int.reduceNe, Int.reduceToNat, List.take_zero, List.drop_zero, List.all_cons, List.all_nil, List.append_nil, List.length_append, List.length_set, List.append_assoc, List.drop_nil, List.take_nil, c1] <;> try simp -dsimp only [if_conj])
        refine ⟨⟨by omega, by omega, by omega⟩, by omega, ?_⟩
        refine aloop (fun m2 st => ∃ q h5, m2 + q = x.2.length ∧ Keeps h1 h5 ∧ h5.getD h1.length .dead = .o 1 [Bo x.1, U b, .z (nums x.2) x.2.length] ∧ h5.getD (h1.length + 1 + 2) .dead = cur ⟨secPut a l, b + q * N, 0⟩ ∧
            st = ((.z (rows itRow l) l.length :: Bo a :: sl st.1 2 :: sl st.1 3 :: sl st.1 4 :: .s ids 0 (secPut a l).length :: sl st.1 6 :: sl st.1 7 :: sl st.1 8 :: sl st.1 9 :: .s id 0 (tabOf a 0 l).length :: sl st.1 11 :: sl st.1 12 :: .p h1.length 0 :: I N :: .p (h1.length + 1 + 2) 0 :: sl st.1 16 :: sl st.1 17 :: sl st.1 18 :: sl st.1 19 :: sl st.1 20 :: sl st.1 21 :: sl st.1 22 :: sl st.1 23 :: sl st.1 24 :: sl st.1 25 :: sl st.1 26 :: sl st.1 27 :: sl st.1 28 :: sl st.1 29 :: sl st.1 30 :: sl st.1 31 :: sl st.1 32 :: sl st.1 33 :: sl st.1 34 :: sl st.1 35 :: sl st.1 36 :: sl st.1 37 :: sl st.1 38 :: sl st.1 39 :: sl st.1 40 :: sl st.1 41 :: sl st.1 42 :: sl st.1 43 :: sl st.1 44 :: sl st.1 45 :: sl st.1 46 :: sl st.1 47 :: sl st.1 48 :: sl st.1 49 :: sl st.1 50 :: sl st.1 51 :: sl st.1 52 :: sl st.1 53 :: sl st.1 54 :: sl st.1 55 :: sl st.1 56 :: sl st.1 57 :: sl st.1 58 :: sl st.1 59 :: sl st.1 60 :: sl st.1 61 :: sl st.1 62 :: sl st.1 63 :: sl st.1 64 :: sl st.1 65 :: sl st.1 66 :: sl st.1 67 :: sl st.1 68 :: sl st.1 69 :: sl st.1 70 :: sl st.1 71 :: sl st.1 72 :: sl st.1 73 :: sl st.1 74 :: sl st.1 75 :: sl st.1 76 :: sl st.1 77 :: sl st.1 78 :: sl st.1 79 :: sl st.1 80 :: sl st.1 81 :: sl st.1 82 :: sl st.1 83 :: sl st.1 84 :: sl st.1 85 :: sl st.1 86 :: sl st.1 87 :: sl st.1 88 :: sl st.1 89 :: sl st.1 90 :: sl st.1 91 :: sl st.1 92 :: sl st.1 93 :: .s id 0 (tabOf a 0 l).length :: I l.length :: I n :: sl st.1 97 :: sl st.1 98 :: sl st.1 99 :: sl st.1 100 :: sl st.1 101 :: sl st.1 102 :: sl st.1 103 :: sl st.1 104 :: sl st.1 105 :: sl st.1 106 :: sl st.1 107 :: sl st.1 108 :: sl st.1 109 :: sl st.1 110 :: sl st.1 111 :: sl st.1 112 :: sl st.1 113 :: sl st.1 114 :: sl st.1 115 :: sl st.1 116 :: sl st.1 117 :: sl st.1 118 :: sl st.1 119 :: sl st.1 120 :: sl st.1 121 :: sl st.1 122 :: sl st.1 123 :: sl st.1 124 :: sl st.1 125 :: sl st.1 126 :: sl st.1 127 :: sl st.1 128 :: sl st.1 129 :: sl st.1 130 :: sl st.1 131 :: sl st.1 132 :: sl st.1 133 :: sl st.1 134 :: sl st.1 135 :: sl st.1 136 :: sl st.1 137 :: .z (nums x.2) x.2.length :: I x.2.length :: I q :: sl st.1 141 :: sl st.1 142 :: sl st.1 143 :: sl st.1 144 :: sl st.1 145 :: sl st.1 146 :: sl st.1 147 :: sl st.1 148 :: sl st.1 149 :: sl st.1 150 :: sl st.1 151 :: sl st.1 152 :: sl st.1 153 :: sl st.1 154 :: sl st.1 155 :: sl st.1 156 :: sl st.1 157 :: sl st.1 158 :: sl st.1 159 :: sl st.1 160 :: sl st.1 161 :: sl st.1 162 :: sl st.1 163 :: sl st.1 164 :: sl st.1 165 :: sl st.1 166 :: sl st.1 167 :: sl st.1 168 :: sl st.1 169 :: sl st.1 170 :: sl st.1 171 :: sl st.1 172 :: sl st.1 173 :: sl st.1 174 :: sl st.1 175 :: sl st.1 176 :: sl st.1 177 :: sl st.1 178 :: []), h5)) x.2.length
          _ (Nat.zero_le _) (Weak.refl _ (Nat.zero_le _)) ⟨0, _, by omega, ?_, ?_, ?_, rfl⟩ ?_
        · exact Keeps.set' (Keeps.adds Adds.mk) (by omega)
        · rw [hget_set_ne (by omega)]; exact hget_new
        · rw [Nat.zero_mul, Nat.add_zero]; exact hget_set (by simp)
        rintro m2 st2 ⟨q, h5, hmq, k5, gt5, gc5, hst2⟩
        rw [hst2]
        by_cases hz2 : q < x.2.length
        · have hz2' : decide ((q : Int) < x.2.length) = true := by simp; omega
          have hq64 : IntKind.u64.wrap (q : Int) = (q : Int) := wrap_u64 (by omega) (by have := hxo.1; omega)
          have hq1 : IntKind.i64.wrap ((q : Int) + 1) = ((q + 1 : Nat) : Int) := by rw [wrap_i64 (by omega) (by have := hxo.1; omega)]; rfl
          have i5 := i1.keeps k5
          have hqN : (q + 1) * N ≤ x.2.length * N := Nat.mul_le_mul_right _ (by omega)
          rw [Nat.succ_mul] at hqN
          have hfl : ∀ l : List Nat, (l.flatMap (leB N)).length = l.length * N := fun l => by
            induction l with
            | nil => simp
            | cons y l ih => rw [List.flatMap_cons, List.length_append, leB_length, ih, List.length_cons, Nat.succ_mul]; omega
          have hlen := congrArg List.length hb2
          rw [List.length_drop, List.length_append, hfl] at hlen
          have hiq : (⟨secPut a l, b + q * N, 0⟩ : Cur).inv := Cur.mki (by show b + q * N ≤ (secPut a l).length; omega) (by show (secPut a l).length < _; omega)
          have hnum : le (((secPut a l).drop (b + q * N)).take N) = x.2.getD q 0 := by
            rw [← List.drop_drop, hb2, ← hN]
            rw [← hN] at hb2
            exact num_at hxo.2 hz2
          (simp +contextual -dsimp only [R5, evA, evB, ↓a_on_t, ↓a_on_f, ↓a_on_und, ↓a_cond_b, ↓reduceIte, Go.Ab.part, List.getD_cons_zero, List.getD_cons_succ, List.set_cons_zero, List.set_cons_succ, List.length_cons, List.length_nil, List.cons_append, List.nil_append, cond_true, cond_false, Bool.cond_true, reduceCtorEq, Option.map_some, Option.map_none, forall_const, ne_eq, implies_true, Nat.reduceAdd, Nat.reduceLeDiff, Nat.reduceLT, Nat.beq, Option.isNone_none, beq_self_eq_true, bne_self_eq_false, Int.reduceBEq, Int.reduceBNe, Int.reduceLT, Int.reduceLE, Int.reduceGT, Int.reduceGE, Int.reduceEq, Int.reduceNe, Int.reduceToNat, List.take_zero, List.drop_zero, List.all_cons, List.all_nil, List.append_nil, List.length_append, List.length_set, List.append_assoc, List.drop_nil, List.take_nil, hz2', nums_at hz2, gt5, hq64] <;> try simp -dsimp only [if_conj])
          refine ⟨⟨by omega, by omega, by rw [nums_len]; omega⟩, by rw [nums_len]; omega, ?_⟩
          refine tAt_ok (b := b) (i := q) (by rw [hTl]; omega) hitems i5 fun h6 k6 => ?_
          rw [hfind q hz2]
          have gt6 := k6.at gt5 (by simp)
          have gc6 := k6.at gc5 (cur_ne _)
          (simp +contextual -dsimp only [R5, evA, evB, ↓a_on_t, ↓a_on_f, ↓a_on_und, ↓a_cond_b, ↓reduceIte, Go.Ab.part, List.getD_cons_zero, List.getD_cons_succ, List.set_cons_zero, List.set_cons_succ, List.length_cons, List.length_nil, List.cons_append, List.nil_append, cond_true, cond_false, Bool.cond_true, reduceCtorEq, Option.map_some, Option.map_none, forall_const, ne_eq, implies_true, Nat.reduceAdd, Nat.reduceLeDiff, Nat.reduceLT, Nat.beq, Option.isNone_none, beq_self_eq_true, bne_self_eq_false, Int.reduceBEq, Int.reduceBNe, Int.reduceLT, Int.reduceLE, Int.reduceGT, Int.reduceGE, Int.reduceEq, Int.reduceNe, Int.reduceToNat, List.take_zero, List.drop_zero, List.all_cons, List.all_nil, List.append_nil, List.length_append, List.length_set, List.append_assoc, List.drop_nil, List.take_nil, gt6, nums_at hz2] <;> try simp -dsimp only [if_conj])
          refine ⟨⟨by omega, by omega, by rw [nums_len]; omega⟩, by rw [nums_len]; omega, ?_⟩
          refine Uint_ok gc6 hiq ?_
          rw [hwn, Cur.skips (by omega), Cur.gots (by omega), hnum]
          (simp +contextual -dsimp only [R5, evA, evB, ↓a_on_t, ↓a_on_f, ↓a_on_und, ↓a_cond_b, ↓reduceIte, Go.Ab.part, List.getD_cons_zero, List.getD_cons_succ, List.set_cons_zero, List.set_cons_succ, List.length_cons, List.length_nil, List.cons_append, List.nil_append, cond_true, cond_false, Bool.cond_true, reduceCtorEq, Option.map_some, Option.map_none, forall_const, ne_eq, implies_true, Nat.reduceAdd, Nat.reduceLeDiff, Nat.reduceLT, Nat.beq, Option.isNone_none, beq_self_eq_true, bne_self_eq_false, Int.reduceBEq, Int.reduceBNe, Int.reduceLT, Int.reduceLE, Int.reduceGT, Int.reduceGE, Int.reduceEq, Int.reduceNe, Int.reduceToNat, List.take_zero, List.drop_zero, List.all_cons, List.all_nil, List.append_nil, List.length_append, List.length_set, List.append_assoc, List.drop_nil, List.take_nil, hq1] <;> try simp -dsimp only [if_conj])
          exact ⟨m2 - 1, _, by omega, Weak.refl _ (Nat.zero_le _), q + 1, _, by omega, Keeps.set' (k5.trans k6) (by omega), by rw [hget_set_ne (by omega)]; exact gt6, by rw [hget_set (hlt gc6 (cur_ne _)), Nat.succ_mul, Nat.add_assoc], rfl⟩
        · have hz2' : decide ((q : Int) < x.2.length) = false := by simp; omega
          (simp +contextual -dsimp only [R5, evA, evB, ↓a_on_t, ↓a_on_f, ↓a_on_und, ↓a_cond_b, ↓reduceIte, Go.Ab.part, List.getD_cons_zero, List.getD_cons_succ, List.set_cons_zero, List.set_cons_succ, List.length_cons, List.length_nil, List.cons_append, List.nil_append, cond_true, cond_false, Bool.cond_true, reduceCtorEq, Option.map_some, Option.map_none, forall_const, ne_eq, implies_true, Nat.reduceAdd, Nat.reduceLeDiff, Nat.reduceLT, Nat.beq, Option.isNone_none, beq_self_eq_true, bne_self_eq_false, Int.reduceBEq, Int.reduceBNe, Int.reduceLT, Int.reduceLE, Int.reduceGT, Int.reduceGE, Int.reduceEq, Int.reduceNe, Int.reduceToNat, List.take_zero, List.drop_zero, List.all_cons, List.all_nil, List.append_nil, List.length_append, List.length_set, List.append_assoc, List.drop_nil, List.take_nil, hz2', hn1] <;> try simp -dsimp only [if_conj])
          exact ⟨m - 1, _, by omega, Weak.refl _ (Nat.zero_le _), n + 1, _, by omega, k1.trans k5, rfl⟩
  · have hz' : decide ((n : Int) < l.length) = false := by simp; omega
    (simp +contextual -dsimp only [R5, evA, evB, ↓a_on_t, ↓a_on_f, ↓a_on_und, ↓a_cond_b, ↓reduceIte, Go.Ab.part, List.getD_cons_zero, List.getD_cons_succ, List.set_cons_zero, List.set_cons_succ, List.length_cons, List.length_nil, List.cons_append, List.nil_append, cond_true, cond_false, Bool.cond_true, reduceCtorEq, Option.map_some, Option.map_none, forall_const, ne_eq, implies_true, Nat.reduceAdd, Nat.reduceLeDiff, Nat.reduceLT, Nat.beq, Option.isNone_none, beq_self_eq_true, bne_self_eq_false, Int.reduceBEq, Int.reduceBNe, Int.reduceLT, Int.reduceLE, Int.reduceGT, Int.reduceGE, Int.reduceEq, Int.reduceNe, Int.reduceToNat, List.take_zero, List.drop_zero, List.all_cons, List.all_nil, List.append_nil, List.length_append, List.length_set, List.append_assoc, List.drop_nil, List.take_nil, hz'] <;> try simp -dsimp only [if_conj])
    exact hQ (_, h1) rfl
end Go.Proofs.YtlngajfpplebmaaDoor
