import Derived.Test.YtlngajfpplebmaaDoorLA
set_option linter.unusedVariables false
set_option linter.unusedSimpArgs false
set_option maxRecDepth 100000
namespace Go.Proofs.YtlngajfpplebmaaDoor
open Go.Ab
/-! A cursor on bytes with others ahead. -/
def sh (A : List UInt8) (c : Cur) : Cur := ⟨A ++ c.b, A.length + c.p, c.e⟩
theorem sh_got (A : List UInt8) (c : Cur) (n : Nat) : (sh A c).got n = c.got n := by
  unfold Cur.got sh
  simp only [List.length_append, List.drop_append]
  rw [List.drop_of_length_le (show A.length ≤ A.length + c.p by omega), List.nil_append, Nat.add_sub_cancel_left, show A.length + c.b.length - (A.length + c.p) = c.b.length - c.p by omega]
theorem sh_skip (A : List UInt8) (c : Cur) (n : Nat) : (sh A c).skip n = sh A (c.skip n) := by
  unfold Cur.skip sh
  simp only [List.length_append]
  rw [show A.length + c.b.length - (A.length + c.p) = c.b.length - c.p by omega]
  split
  · split
    · simp [Nat.add_assoc]
    · rfl
  · rfl
theorem sh_fail (A : List UInt8) (c : Cur) (n : Int) : (sh A c).fail n = sh A (c.fail n) := by
  unfold Cur.fail sh; simp only; split <;> rfl
theorem sh_e (A : List UInt8) (c : Cur) : (sh A c).e = c.e := rfl
theorem sh_tk (A : List UInt8) (c : Cur) : (sh A c).tk = (c.tk.1, c.tk.2.1, sh A c.tk.2.2) := by
  unfold Cur.tk
  rw [sh_skip, sh_got, sh_skip, sh_got, sh_fail, sh_e, sh_e]
  split
  · rfl
  · split
    · rfl
    · split <;> rfl
theorem sh_bd (A : List UInt8) (c : Cur) : (sh A c).bd = (c.bd.1, sh A c.bd.2.1, c.bd.2.2) := by
  unfold Cur.bd
  rw [sh_tk]
  simp only
  rw [sh_skip, sh_got, sh_e]
theorem le_leB_app {n x : Nat} {t : List UInt8} (h : x < 256 ^ n) : le ((leB n x ++ t).take n) = x := by
  rw [List.take_append_of_le_length (by rw [leB_length]; exact Nat.le_refl _), List.take_of_length_le (by rw [leB_length]; exact Nat.le_refl _), le_leB, Nat.mod_eq_of_lt h]
/-- numbers that were put are read -/
theorem numsAt_put {n : Nat} : ∀ (l : List Nat) (t : List UInt8), (∀ x ∈ l, x < 256 ^ n) → numsAt n (l.flatMap (leB n) ++ t) l.length = l
  | [], t, _ => rfl
  | x :: l, t, h => by
    have ih := numsAt_put l t fun y hy => h y (List.mem_cons_of_mem _ hy)
    unfold numsAt at ih ⊢
    rw [List.length_cons, List.range_succ_eq_map, List.map_cons, List.map_map, Nat.zero_mul, List.drop_zero, List.flatMap_cons, List.append_assoc, le_leB_app (h x (List.mem_cons_self ..))]
    congr 1
    conv => rhs; rw [← ih]
    refine List.map_congr_left fun i _ => ?_
    show le (((leB n x ++ (l.flatMap (leB n) ++ t)).drop ((i + 1) * n)).take n) = _
    rw [List.drop_append, leB_length, List.drop_of_length_le (by rw [leB_length, Nat.succ_mul]; omega), List.nil_append, Nat.succ_mul, Nat.add_sub_cancel]
/-- the number that stands k places on -/
theorem num_at {n k : Nat} {l : List Nat} {t : List UInt8} (h : ∀ x ∈ l, x < 256 ^ n) (hk : k < l.length) : le (((l.flatMap (leB n) ++ t).drop (k * n)).take n) = l.getD k 0 := by
  have := congrArg (fun m => m.getD k 0) (numsAt_put l t h)
  simp only [numsAt, List.getD_eq_getElem?_getD, List.getElem?_map, List.getElem?_range hk] at this
  rw [List.getD_eq_getElem?_getD]; exact this
abbrev hdOf (a : Bool) : List UInt8 := if a = true then hdA else hdS
/-- a table's bytes -/
def tabPut (a : Bool) (x : Bool × List Nat) : List UInt8 := lenB (tabBody (hdOf a) (tabN a x.1) x.2).length x.1 ++ tabBody (hdOf a) (tabN a x.1) x.2
def secPut (a : Bool) (l : List (Bool × List Nat)) : List UInt8 := l.flatMap (tabPut a)
/-- the tables of such a section, behind off bytes -/
def tabOf (a : Bool) : Nat → List (Bool × List Nat) → List Tab
  | _, [] => []
  | off, x :: l => ⟨x.1, off + (lenB (tabBody (hdOf a) (tabN a x.1) x.2).length x.1).length + 4, x.2⟩ :: tabOf a (off + (tabPut a x).length) l
def okT (a : Bool) (x : Bool × List Nat) : Prop := x.2.length ≤ 200 ∧ ∀ y ∈ x.2, y < 256 ^ tabN a x.1
theorem hdOf_len (a : Bool) : (hdOf a).length = 4 := by cases a <;> rfl
theorem body_len {a w : Bool} {l : List Nat} (h : l.length ≤ 200) : (tabBody (hdOf a) (tabN a w) l).length = 4 + l.length * tabN a w ∧ l.length * tabN a w ≤ 1600 := by
  rw [tabBody_len, hdOf_len]
  exact ⟨rfl, by have := Nat.mul_le_mul h (tabN_le a w); omega⟩
theorem tab_put {a : Bool} {x : Bool × List Nat} {A R : List UInt8} (hx : okT a x) : (⟨A ++ (tabPut a x ++ R), A.length, 0⟩ : Cur).tab a =
    (⟨x.1, A.length + (lenB (tabBody (hdOf a) (tabN a x.1) x.2).length x.1).length + 4, x.2⟩, 0, ⟨A ++ (tabPut a x ++ R), A.length + (tabPut a x).length, 0⟩) := by
  obtain ⟨hb1, hb2⟩ := body_len (a := a) (w := x.1) hx.1
  have hbd : (⟨A ++ (tabPut a x ++ R), A.length, 0⟩ : Cur).bd = (x.1, ⟨A ++ (tabPut a x ++ R), A.length + (tabPut a x).length, 0⟩, ⟨tabBody (hdOf a) (tabN a x.1) x.2, 0, 0⟩) := by
    have := sh_bd A ⟨tabPut a x ++ R, 0, 0⟩
    rw [bd_lenB (m := tabBody (hdOf a) (tabN a x.1) x.2) (t := R) (w := x.1) (by omega) (by rw [tabPut, List.append_assoc])] at this
    rw [show sh A ⟨tabPut a x ++ R, 0, 0⟩ = ⟨A ++ (tabPut a x ++ R), A.length, 0⟩ from rfl] at this
    rw [this]
    simp [sh, tabPut]
  have hB : tabBody (hdOf a) (tabN a x.1) x.2 = [5, 0] ++ ([UInt8.ofNat (tabHead a), 0] ++ x.2.flatMap (leB (tabN a x.1))) := by cases a <;> rfl
  generalize hBB : tabBody (hdOf a) (tabN a x.1) x.2 = B at *
  have s1 : (⟨B, 0, 0⟩ : Cur).skip 2 = ⟨B, 2, 0⟩ := Cur.skips (by omega)
  have s2 : (⟨B, 2, 0⟩ : Cur).skip 2 = ⟨B, 4, 0⟩ := Cur.skips (by omega)
  have g1 : (⟨B, 0, 0⟩ : Cur).got 2 = [5, 0] := by rw [Cur.gots (by omega), hB]; rfl
  have g2 : (⟨B, 2, 0⟩ : Cur).got 2 = [UInt8.ofNat (tabHead a), 0] := by rw [Cur.gots (by omega), hB]; rfl
  have hl : (⟨B, 4, 0⟩ : Cur).left = x.2.length * tabN a x.1 := by rw [left_at]; omega
  unfold Cur.tab
  rw [hbd]
  simp only
  rw [s1, s2, g1, g2, hl]
  rw [if_neg (by simp), if_neg (by cases a <;> simp [le, tabHead]), if_neg (by simp)]
  rw [Nat.mul_div_cancel _ (tabN_pos a x.1)]
  have hd4 : B.drop 4 = x.2.flatMap (leB (tabN a x.1)) ++ [] := by rw [hB]; simp
  rw [show (⟨B, 4, 0⟩ : Cur).b = B from rfl, show (⟨B, 4, 0⟩ : Cur).p = 4 from rfl, hd4, numsAt_put _ _ hx.2]
  have hpl : (tabPut a x).length = (lenB B.length x.1).length + B.length := by rw [tabPut, hBB, List.length_append]
  congr 2
  show A.length + (tabPut a x).length - _ = _
  omega
theorem tabPut_pos (a : Bool) (x : Bool × List Nat) : 0 < (tabPut a x).length := by
  rw [tabPut, List.length_append, tabBody_len, hdOf_len]; omega
theorem tabAll_put {a : Bool} : ∀ (l : List (Bool × List Nat)) (A : List UInt8) (acc : List Tab) (f : Nat), (∀ x ∈ l, okT a x) → acc.length + l.length ≤ 60 → l.length < f →
    tabAll a f ⟨A ++ secPut a l, A.length, 0⟩ acc = (acc ++ tabOf a A.length l, 0)
  | [], A, acc, f + 1, _, _, _ => by
    unfold tabAll
    rw [if_pos (by rw [left_at]; simp [secPut])]
    simp [tabOf]
  | x :: l, A, acc, f + 1, h, h60, hf => by
    have hp := tabPut_pos a x
    have hs : secPut a (x :: l) = tabPut a x ++ secPut a l := rfl
    simp only [List.length_cons] at h60 hf
    unfold tabAll
    rw [if_neg (by rw [left_at, hs]; simp only [List.length_append]; omega), hs, tab_put (h x (List.mem_cons_self ..))]
    simp only
    rw [if_neg (by simp), if_neg (by omega)]
    have := tabAll_put l (A ++ tabPut a x) (acc ++ [⟨x.1, A.length + (lenB (tabBody (hdOf a) (tabN a x.1) x.2).length x.1).length + 4, x.2⟩]) f (fun y hy => h y (List.mem_cons_of_mem _ hy)) (by simp; omega) (by omega)
    rw [List.append_assoc, List.length_append] at this
    rw [this, List.append_assoc]; rfl
  | _, _, _, 0, _, _, hf => absurd hf (by omega)
theorem tabR_put {a : Bool} {l : List (Bool × List Nat)} (h : ∀ x ∈ l, okT a x) (h60 : l.length ≤ 60) : tabR a (secPut a l) = (tabOf a 0 l, 0) := by
  have hlen : ∀ l : List (Bool × List Nat), l.length ≤ (secPut a l).length := fun l => by
    induction l with
    | nil => simp
    | cons x l ih =>
      have := tabPut_pos a x
      rw [show secPut a (x :: l) = tabPut a x ++ secPut a l from rfl, List.length_append, List.length_cons]; omega
  have := tabAll_put l [] [] ((secPut a l).length + 1) h (by simpa using h60) (by have := hlen l; omega)
  simpa using this
theorem tabOf_len {a : Bool} : ∀ (l : List (Bool × List Nat)) (off : Nat), (tabOf a off l).length = l.length
  | [], _ => rfl
  | x :: l, off => by simp [tabOf, tabOf_len l]
/-- where the i-th table is; it is found by its base -/
theorem tabOf_at {a : Bool} : ∀ (l : List (Bool × List Nat)) (off i : Nat), i < l.length → ∃ A R : List UInt8, secPut a l = A ++ (tabPut a (l.getD i default) ++ R) ∧
    (tabOf a off l).getD i default = ⟨(l.getD i default).1, off + A.length + (lenB (tabBody (hdOf a) (tabN a (l.getD i default).1) (l.getD i default).2).length (l.getD i default).1).length + 4, (l.getD i default).2⟩
  | x :: l, off, 0, _ => ⟨[], secPut a l, rfl, rfl⟩
  | x :: l, off, i + 1, h => by
    obtain ⟨A, R, h1, h2⟩ := tabOf_at l (off + (tabPut a x).length) i (by simpa using h)
    refine ⟨tabPut a x ++ A, R, ?_, ?_⟩
    · rw [show secPut a (x :: l) = tabPut a x ++ secPut a l from rfl, h1, List.append_assoc]; rfl
    · show (tabOf a (off + (tabPut a x).length) l).getD i default = _
      rw [h2, List.length_append, ← Nat.add_assoc]; rfl
theorem lenB_pos (n : Nat) (w : Bool) : (lenB n w).length = if w = true then 12 else 4 := lenB_len n w
theorem tabOf_base {a : Bool} : ∀ (l : List (Bool × List Nat)) (off : Nat) (t : Tab), t ∈ tabOf a off l → off + 8 ≤ t.base
  | x :: l, off, t, h => by
    rcases List.mem_cons.1 h with rfl | h
    · show off + 8 ≤ off + _ + 4
      rw [lenB_pos]; split <;> omega
    · have := tabOf_base l _ t h; omega
theorem tabOf_find {a : Bool} {q : Nat} : ∀ (l : List (Bool × List Nat)) (off i : Nat), (∀ x ∈ l, okT a x) → i < l.length → q < (l.getD i default).2.length → tabAt (tabOf a off l) ((tabOf a off l).getD i default).base q = ((l.getD i default).2.getD q 0, true)
  | x :: l, off, 0, _, _, hq => by
    have e1 : (off + (lenB (tabBody (hdOf a) (tabN a x.1) x.2).length x.1).length + 4 = off + (lenB (tabBody (hdOf a) (tabN a x.1) x.2).length x.1).length + 4) := rfl
    have e2 : q < x.2.length := hq
    exact (if_pos e1).trans (if_pos e2)
  | x :: l, off, i + 1, h, hi, hq => by
    have hi : i < l.length := by simpa using hi
    obtain ⟨hb1, hb2⟩ := body_len (a := a) (w := x.1) (h x (List.mem_cons_self ..)).1
    show (if _ = ((tabOf a (off + (tabPut a x).length) l).getD i default).base then _ else tabAt (tabOf a (off + (tabPut a x).length) l) ((tabOf a (off + (tabPut a x).length) l).getD i default).base q) = _
    have hm : (tabOf a (off + (tabPut a x).length) l).getD i default ∈ tabOf a (off + (tabPut a x).length) l := by
      rw [List.getD_eq_getElem?_getD, List.getElem?_eq_getElem (by rw [tabOf_len]; exact hi)]; exact List.getElem_mem _
    have hb := tabOf_base l _ _ hm
    have hpl : (tabPut a x).length = (lenB (tabBody (hdOf a) (tabN a x.1) x.2).length x.1).length + (tabBody (hdOf a) (tabN a x.1) x.2).length := by rw [tabPut, List.length_append]
    rw [if_neg (by show ¬ off + _ + 4 = _; omega)]
    exact tabOf_find l _ i (fun y hy => h y (List.mem_cons_of_mem _ hy)) hi hq
end Go.Proofs.YtlngajfpplebmaaDoor
