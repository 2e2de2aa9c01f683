import Derived.Test.YtlfplmcidfflfaaCK
set_option linter.unusedVariables false
set_option linter.unusedSimpArgs false
set_option maxRecDepth 100000
namespace Go.Proofs.Ytlfplmcidfflfaa
open Go.Ab
variable {h : Heap} {K : Kt}

theorem vl_up : ∀ (k n : Nat), n < 128 ^ (k + 1) → vl (up k n) = n
  | 0, n, h => by have : n < 128 := by simpa using h
                  show n % 128 + 128 * 0 = n; omega
  | k + 1, n, h => by
    have hu : up (k + 1) n = if n < 128 then [n] else n % 128 :: up k (n / 128) := rfl
    rw [hu]
    by_cases c : n < 128
    · rw [if_pos c]; simp [vl]
    · rw [if_neg c, vl, vl_up k (n / 128) (by rw [Nat.pow_succ] at h; omega)]; omega
theorem up_short : ∀ (k n s : Nat), n < 128 ^ s → 1 ≤ s → (up k n).length ≤ s
  | 0, n, s, _, hs => by show 1 ≤ s; exact hs
  | k + 1, n, s, h, hs => by
    have hu : up (k + 1) n = if n < 128 then [n] else n % 128 :: up k (n / 128) := rfl
    rw [hu]
    by_cases c : n < 128
    · rw [if_pos c]; exact hs
    · rw [if_neg c, List.length_cons]
      obtain ⟨t, rfl⟩ : ∃ t, s = t + 1 := ⟨s - 1, by omega⟩
      have ht : 1 ≤ t := by
        rcases Nat.eq_zero_or_pos t with h0 | h0
        · subst h0; simp at h; omega
        · exact h0
      have := up_short k (n / 128) t (by rw [Nat.pow_succ] at h; omega) ht
      omega
theorem vl_wd {n s : Nat} (hn : n < 18446744073709551616) (hs : (up 9 n).length ≤ s) : vl (wd s n) = n := by
  have h10 : n < 128 ^ (9 + 1) := by omega
  rw [← (up_wd 9 n s h10 hs).1, vl_append, vl_zeros, vl_up 9 n h10]; rfl
theorem vs_sp : ∀ (k : Nat) (n : Int), -(64 * 128 ^ k : Int) ≤ n → n < 64 * 128 ^ k → vs (sp k n) = n
  | 0, n, h1, h2 => by
    have hx : ((n % 128).toNat : Int) = n % 128 := by omega
    show vs [(n % 128).toNat] = n
    rw [vs_one]; unfold tp
    rw [show [(n % 128).toNat].getLastD 0 = (n % 128).toNat from rfl]
    simp at h1 h2
    split <;> omega
  | k + 1, n, h1, h2 => by
    have hu : sp (k + 1) n = if (n / 128 = 0 ∧ n % 128 < 64) ∨ (n / 128 = -1 ∧ n % 128 ≥ 64) then [(n % 128).toNat] else (n % 128).toNat :: sp k (n / 128) := rfl
    have hx : ((n % 128).toNat : Int) = n % 128 := by omega
    rw [hu]
    by_cases c : (n / 128 = 0 ∧ n % 128 < 64) ∨ (n / 128 = -1 ∧ n % 128 ≥ 64)
    · rw [if_pos c, vs_one]; unfold tp
      rw [show [(n % 128).toNat].getLastD 0 = (n % 128).toNat from rfl]
      split <;> omega
    · rw [if_neg c, vs_cons (sp_prop k _).1, vs_sp k (n / 128) (by rw [Int.pow_succ] at h1; omega) (by rw [Int.pow_succ] at h2; omega)]
      omega
theorem sp_short : ∀ (k : Nat) (n : Int) (s : Nat), -(64 * 128 ^ s : Int) ≤ n → n < 64 * 128 ^ s → (sp k n).length ≤ s + 1
  | 0, n, s, _, _ => by show 1 ≤ s + 1; omega
  | k + 1, n, s, h1, h2 => by
    have hu : sp (k + 1) n = if (n / 128 = 0 ∧ n % 128 < 64) ∨ (n / 128 = -1 ∧ n % 128 ≥ 64) then [(n % 128).toNat] else (n % 128).toNat :: sp k (n / 128) := rfl
    rw [hu]
    by_cases c : (n / 128 = 0 ∧ n % 128 < 64) ∨ (n / 128 = -1 ∧ n % 128 ≥ 64)
    · rw [if_pos c]; simp
    · rw [if_neg c, List.length_cons]
      cases s with
      | zero => simp at h1 h2; omega
      | succ s =>
        have := sp_short k (n / 128) s (by rw [Int.pow_succ] at h1; omega) (by rw [Int.pow_succ] at h2; omega)
        omega
theorem top9 {l : List Nat} (hl : l.length ≤ 10) : l.getD 9 0 * 9223372036854775808 ≤ vl l := by
  by_cases h : l.length = 10
  · have e := take_last (l := l) (i := 9) (by omega)
    have e2 : vl l = vl (l.take 9) + 128 ^ 9 * l.getD 9 0 := by
      conv => lhs; rw [e]
      rw [vl_append, List.length_take, Nat.min_eq_left (by omega)]; simp [vl]
    have h9 : (128 : Nat) ^ 9 = 9223372036854775808 := by decide
    rw [e2, h9]; omega
  · have : l.getD 9 0 = 0 := by rw [List.getD_eq_getElem?_getD, List.getElem?_eq_none (by omega)]; rfl
    rw [this, Nat.zero_mul]; exact Nat.zero_le _
/-- where the bytes are read from -/
theorem rd_enc : ∀ (xs : List Nat) (k : Nat) (a t b : List UInt8), xs ≠ [] → xs.length ≤ k → (∀ x ∈ xs, x < 128) → b = a ++ enc xs ++ t → rd k ⟨b, a.length, 0⟩ = (some xs, ⟨b, a.length + xs.length, 0⟩)
  | [], _, _, _, _, h, _, _, _ => absurd rfl h
  | [x], k, a, t, b, _, hk, hx, hb => by
    obtain ⟨k, rfl⟩ : ∃ j, k = j + 1 := ⟨k - 1, by simp at hk; omega⟩
    have hx := hx x (by simp)
    have hl : a.length + 1 ≤ b.length := by rw [hb]; simp [enc]
    have hg : b.getD a.length 0 = UInt8.ofNat x := by rw [hb, List.getD_eq_getElem?_getD]; simp [enc]
    have e1 := Cur.skips (b := b) (p := a.length) (n := 1) hl
    have e2 : le ((⟨b, a.length, 0⟩ : Cur).got 1) = x := by
      rw [Cur.got1 (by omega), le_one, hg, UInt8.toNat_ofNat_of_lt' (by rw [show UInt8.size = 256 from rfl]; omega)]
    rw [rd_end (by rw [e1]) (by rw [e2]; exact hx), e1, e2, Nat.mod_eq_of_lt hx]; rfl
  | x :: y :: r, k, a, t, b, _, hk, hx, hb => by
    obtain ⟨k, rfl⟩ : ∃ j, k = j + 1 := ⟨k - 1, by simp at hk; omega⟩
    have hx0 := hx x (by simp)
    have hl : a.length + 1 ≤ b.length := by rw [hb]; simp [enc]
    have hg : b.getD a.length 0 = UInt8.ofNat (x + 128) := by rw [hb, List.getD_eq_getElem?_getD]; simp [enc]
    have e1 := Cur.skips (b := b) (p := a.length) (n := 1) hl
    have e2 : le ((⟨b, a.length, 0⟩ : Cur).got 1) = x + 128 := by
      rw [Cur.got1 (by omega), le_one, hg, UInt8.toNat_ofNat_of_lt' (by rw [show UInt8.size = 256 from rfl]; omega)]
    have hr := rd_enc (y :: r) k (a ++ [UInt8.ofNat (x + 128)]) t b (by simp) (by simp at hk ⊢; omega) (fun z hz => hx z (List.mem_cons_of_mem _ hz)) (by rw [hb, enc]; simp)
    rw [rd_more (by rw [e1]) (by rw [e2]; omega), e1, e2]
    rw [List.length_append, List.length_singleton] at hr
    rw [hr]
    have : (x + 128) % 128 = x := by omega
    rw [this]
    show (some (x :: y :: r), _) = (some (x :: y :: r), _)
    rw [List.length_cons, List.length_cons, List.length_cons]
    congr 2; omega
theorem uR_of {c d : Cur} {l : List Nat} (hr : rd 10 c = (some l, d)) (hv : vl l < 18446744073709551616) : uR c = (vl l, d) := by
  have := top9 (rd_prop 10 c l d hr).1
  unfold uR; rw [hr]; exact if_neg (by omega)
theorem sR_of {c d : Cur} {l : List Nat} (hr : rd 10 c = (some l, d)) (h1 : -9223372036854775808 ≤ vs l) (h2 : vs l < 9223372036854775808) : sR c = (vs l, d) := by
  obtain ⟨p1, p2, p3, p4⟩ := rd_prop 10 c l d hr
  unfold sR; rw [hr]
  refine if_neg fun hb => ?_
  have hd := vs_drop (l := l) (k := 0) (by omega)
  have hg := getD_lt p3 0
  have hl1 : (l.drop 1).length = 9 := by simp; omega
  have h9 := vs_nine (mem_drop' p3 1) hl1
  have hla := last_drop (l := l) (k := 1) (by omega)
  rw [hb.1] at hla
  rw [List.drop_zero, Nat.zero_add] at hd
  rw [hla] at h9
  rcases h9.1 (by omega) with h | h
  · exact hb.2.1 h
  · exact hb.2.2 h
theorem rd_none : ∀ (k : Nat) (c d : Cur), rd k c = (none, d) → d.e ≠ 0
  | 0, c, d, h => by
    have : d = c.fail 11 := by rw [rd] at h; cases h; rfl
    rw [this]; unfold Cur.fail; split <;> simp_all
  | k + 1, c, d, h => by
    by_cases h1 : (c.skip 1).e ≠ 0
    · rw [rd_bad h1] at h; cases h; exact h1
    · have h1 : (c.skip 1).e = 0 := by simpa using h1
      by_cases h2 : le (c.got 1) < 128
      · rw [rd_end h1 h2] at h; cases h
      · rw [rd_more h1 h2] at h
        cases hr : rd k (c.skip 1) with
        | mk a d' =>
          rw [hr] at h
          cases a with
          | none => cases h; exact rd_none k _ _ hr
          | some l => cases h
theorem rd_at : ∀ (k : Nat) (c d : Cur) (l : List Nat), rd k c = (some l, d) → d.p = c.p + l.length
  | 0, c, d, l, h => by rw [rd] at h; cases h
  | k + 1, c, d, l, h => by
    by_cases h1 : (c.skip 1).e ≠ 0
    · rw [rd_bad h1] at h; cases h
    · have h1 : (c.skip 1).e = 0 := by simpa using h1
      have hp : (c.skip 1).p = c.p + 1 := by
        unfold Cur.skip at h1 ⊢
        split at h1
        · split at h1
          · rename_i a b; rw [if_pos a, if_pos b]
          · simp at h1
        · contradiction
      by_cases h2 : le (c.got 1) < 128
      · rw [rd_end h1 h2] at h; cases h; exact hp
      · rw [rd_more h1 h2] at h
        cases hr : rd k (c.skip 1) with
        | mk a d' =>
          rw [hr] at h
          cases a with
          | none => cases h
          | some l' =>
            cases h
            have := rd_at k _ _ _ hr
            rw [this, hp, List.length_append, List.length_singleton]; omega
/-- a number read in few bytes needs no more -/
theorem uR_short {c : Cur} (h0 : (uR c).2.e = 0) : (up 9 (uR c).1).length + c.p ≤ (uR c).2.p ∧ (uR c).1 < 18446744073709551616 := by
  unfold uR at h0 ⊢
  cases hr : rd 10 c with
  | mk a d =>
    rw [hr] at h0
    cases a with
    | none => exact absurd h0 (rd_none _ _ _ hr)
    | some l =>
      obtain ⟨p1, p2, p3, p4⟩ := rd_prop 10 c l d hr
      by_cases hb : 1 < l.getD 9 0
      · have h0 : (if 1 < l.getD 9 0 then ((0 : Nat), d.fail 11) else (vl l, d)).2.e = 0 := h0
        rw [if_pos hb] at h0
        unfold Cur.fail at h0; rw [if_pos p4] at h0; simp at h0
      · show (up 9 (if 1 < l.getD 9 0 then ((0 : Nat), d.fail 11) else (vl l, d)).1).length + c.p ≤ (if 1 < l.getD 9 0 then ((0 : Nat), d.fail 11) else (vl l, d)).2.p ∧ (if 1 < l.getD 9 0 then ((0 : Nat), d.fail 11) else (vl l, d)).1 < 18446744073709551616
        rw [if_neg hb]
        have := rd_at _ _ _ _ hr
        have h2 := up_short 9 (vl l) l.length (vl_lt p3) p2
        exact ⟨by show (up 9 (vl l)).length + c.p ≤ d.p; omega, vl_small p1 p3 (by omega)⟩
theorem vs_range {l : List Nat} (p1 : l.length ≤ 10) (p2 : 1 ≤ l.length) (p3 : ∀ x ∈ l, x < 128) (hb : ¬ (l.length = 10 ∧ l.getD 9 0 ≠ 0 ∧ l.getD 9 0 ≠ 127)) : -9223372036854775808 ≤ vs l ∧ vs l < 9223372036854775808 := by
  by_cases h1 : l.length = 1
  · have hne : l ≠ [] := by intro h; rw [h] at h1; simp at h1
    have := vs_eight p3 hne (by omega)
    omega
  · have hd := vs_drop (l := l) (k := 0) (by omega)
    rw [List.drop_zero, Nat.zero_add] at hd
    have hg := getD_lt p3 0
    have hl1 : (l.drop 1).length = l.length - 1 := by simp
    have hnk : l.drop 1 ≠ [] := by intro h; rw [h] at hl1; simp at hl1; omega
    have hr : -72057594037927936 ≤ vs (l.drop 1) ∧ vs (l.drop 1) ≤ 72057594037927935 := by
      by_cases h10 : l.length = 10
      · have hla : (l.drop 1).getLastD 0 = l.getD 9 0 := by rw [last_drop (by omega), h10]
        refine (vs_nine (mem_drop' p3 1) (by omega)).2 ?_
        rw [hla]
        omega
      · exact vs_eight (mem_drop' p3 1) hnk (by omega)
    omega
theorem sR_short {c : Cur} (h0 : (sR c).2.e = 0) : (sp 9 (sR c).1).length + c.p ≤ (sR c).2.p ∧ -9223372036854775808 ≤ (sR c).1 ∧ (sR c).1 < 9223372036854775808 := by
  unfold sR at h0 ⊢
  cases hr : rd 10 c with
  | mk a d =>
    rw [hr] at h0
    cases a with
    | none => exact absurd h0 (rd_none _ _ _ hr)
    | some l =>
      obtain ⟨p1, p2, p3, p4⟩ := rd_prop 10 c l d hr
      by_cases hb : l.length = 10 ∧ l.getD 9 0 ≠ 0 ∧ l.getD 9 0 ≠ 127
      · have h0 : (if l.length = 10 ∧ l.getD 9 0 ≠ 0 ∧ l.getD 9 0 ≠ 127 then ((0 : Int), d.fail 11) else (vs l, d)).2.e = 0 := h0
        rw [if_pos hb] at h0
        unfold Cur.fail at h0; rw [if_pos p4] at h0; simp at h0
      · have e : (if l.length = 10 ∧ l.getD 9 0 ≠ 0 ∧ l.getD 9 0 ≠ 127 then ((0 : Int), d.fail 11) else (vs l, d)) = (vs l, d) := if_neg hb
        show (sp 9 (if l.length = 10 ∧ l.getD 9 0 ≠ 0 ∧ l.getD 9 0 ≠ 127 then ((0 : Int), d.fail 11) else (vs l, d)).1).length + c.p ≤ (if l.length = 10 ∧ l.getD 9 0 ≠ 0 ∧ l.getD 9 0 ≠ 127 then ((0 : Int), d.fail 11) else (vs l, d)).2.p ∧ _ ≤ (if l.length = 10 ∧ l.getD 9 0 ≠ 0 ∧ l.getD 9 0 ≠ 127 then ((0 : Int), d.fail 11) else (vs l, d)).1 ∧ (if l.length = 10 ∧ l.getD 9 0 ≠ 0 ∧ l.getD 9 0 ≠ 127 then ((0 : Int), d.fail 11) else (vs l, d)).1 < _
        rw [e]
        have hne : l ≠ [] := by intro h; rw [h] at p2; simp at p2
        obtain ⟨t1, t2⟩ := vs_tp p3 hne
        obtain ⟨t3, t4⟩ := tp_range p3 hne
        have e0 : (0 : Int) ≤ 128 ^ (l.length - 1) := Int.pow_nonneg (by decide)
        have := rd_at _ _ _ _ hr
        have h2 : (sp 9 (vs l)).length ≤ l.length - 1 + 1 := by
          refine sp_short 9 (vs l) (l.length - 1) ?_ ?_
          all_goals
            generalize (128 : Int) ^ (l.length - 1) = P at *
            have m1 : 0 ≤ (tp l + 64) * P := Int.mul_nonneg (by omega) e0
            have m2 : 0 ≤ (63 - tp l) * P := Int.mul_nonneg (by omega) e0
            rw [Int.add_mul] at m1 t2
            rw [Int.sub_mul] at m2
            omega
        exact ⟨by show (sp 9 (vs l)).length + c.p ≤ d.p; omega, vs_range p1 p2 p3 hb⟩
end Go.Proofs.Ytlfplmcidfflfaa
