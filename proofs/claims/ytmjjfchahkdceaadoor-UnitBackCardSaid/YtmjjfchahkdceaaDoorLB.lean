import Derived.Test.YtmjjfchahkdceaaDoorLA
set_option linter.unusedVariables false
set_option linter.unusedSimpArgs false
set_option maxRecDepth 100000
set_option maxHeartbeats 1000000
namespace Go.Proofs.YtmjjfchahkdceaaDoor
open Go.Ab
variable {h : Heap} {K : Kt}
def sh (A : List UInt8) (c : Cur) : Cur := ⟨A ++ c.b, A.length + c.p, c.e⟩
theorem sh_got (A : List UInt8) (c : Cur) (n : Nat) : (sh A c).got n = c.got n := by
  unfold Cur.got sh
  simp only [List.length_append, List.drop_append]
  rw [List.drop_of_length_le (show A.length ≤ A.length + c.p by omega), List.nil_append, Nat.add_sub_cancel_left, show A.length + c.b.length - (A.length + c.p) = c.b.length - c.p by omega]
theorem sh_skip (A : List UInt8) (c : Cur) (n : Nat) : (sh A c).skip n = sh A (c.skip n) := by
  unfold Cur.skip sh
  simp only [List.length_append]
  rw [show A.length + c.b.length - (A.length + c.p) = c.b.length - c.p by omega]
  split
  · split
    · simp [Nat.add_assoc]
    · rfl
  · rfl
theorem sh_fail (A : List UInt8) (c : Cur) (n : Int) : (sh A c).fail n = sh A (c.fail n) := by
  unfold Cur.fail sh; simp only; split <;> rfl
theorem sh_e (A : List UInt8) (c : Cur) : (sh A c).e = c.e := rfl
theorem sh_tk (A : List UInt8) (c : Cur) : (sh A c).tk = (c.tk.1, c.tk.2.1, sh A c.tk.2.2) := by
  unfold Cur.tk
  rw [sh_skip, sh_got, sh_skip, sh_got, sh_fail, sh_e, sh_e]
  split
  · rfl
  · split
    · rfl
    · split <;> rfl
theorem sh_bd (A : List UInt8) (c : Cur) : (sh A c).bd = (c.bd.1, sh A c.bd.2.1, c.bd.2.2) := by
  unfold Cur.bd
  rw [sh_tk]
  simp only
  rw [sh_skip, sh_got, sh_e]
def okU (x : Hd × List UInt8) : Prop := ¬ uBad x.1 ∧ (x.1.ab < 18446744073709551616 ∧ x.1.sig < 18446744073709551616 ∧ x.1.ty < 18446744073709551616) ∧ x.2.length ≤ 3000
def uPutB (x : Hd × List UInt8) : List UInt8 := lenB (uBody x.1 x.2).length x.1.w ++ uBody x.1 x.2
def secU (l : List (Hd × List UInt8)) : List UInt8 := l.flatMap uPutB
def uHead (off : Nat) (x : Hd × List UInt8) : Hd := ⟨x.1.kind, x.1.w, x.1.ab, x.1.sig, x.1.ty, off, off + uSize x.1.kind x.1.w, off + (uPutB x).length⟩
def wantU : Nat → List (Hd × List UInt8) → List Hd
  | _, [] => []
  | off, x :: l => uHead off x :: wantU (off + (uPutB x).length) l
theorem uBad_kind {R : Hd} (h : ¬ uBad R) : R.kind = 1 ∨ R.kind = 2 ∨ R.kind = 3 := by
  have z0 : uSize R.kind R.w ≠ 0 := fun e => h (.inl e)
  unfold uSize at z0
  by_cases h2 : R.kind = 2
  · exact .inr (.inl h2)
  · rw [if_neg h2] at z0
    by_cases h1 : R.kind = 1 ∨ R.kind = 3
    · omega
    · rw [if_neg h1] at z0; exact absurd rfl z0
theorem uBody_len {R : Hd} {m : List UInt8} (h : ¬ uBad R) : (uBody R m).length = 4 + lenW R.w + (if R.kind = 2 then 8 + lenW R.w else 0) + m.length := by
  unfold uBody
  split <;> simp [leB_length] <;> omega
theorem uPutB_len {x : Hd × List UInt8} (h : ¬ uBad x.1) : (uPutB x).length = uSize x.1.kind x.1.w + x.2.length := by
  have hk := uBad_kind h
  rw [uPutB, List.length_append, uBody_len h, lenB_len]
  unfold uSize
  rcases hk with e | e | e <;> rw [e] <;> cases x.1.w <;> simp [lenW] <;> omega
theorem le_leB_eq {n x : Nat} (h : x < 256 ^ n) : le (leB n x) = x := by rw [le_leB, Nat.mod_eq_of_lt h]
theorem unit_put {x : Hd × List UInt8} {A R : List UInt8} (hx : okU x) : oneU ⟨A ++ (uPutB x ++ R), A.length, 0⟩ = (uHead A.length x, 0, ⟨A ++ (uPutB x ++ R), A.length + (uPutB x).length, 0⟩) := by
  obtain ⟨hb, ⟨b1, b2, b3⟩, b4⟩ := hx
  have hk := uBad_kind hb
  have hbl := uBody_len (m := x.2) hb
  have lw : lenW x.1.w ≤ 8 := by cases x.1.w <;> decide
  have hBl : (uBody x.1 x.2).length ≤ 4000 := by rw [hbl]; split <;> omega
  have hbd : (⟨A ++ (uPutB x ++ R), A.length, 0⟩ : Cur).bd = (x.1.w, ⟨A ++ (uPutB x ++ R), A.length + (uPutB x).length, 0⟩, ⟨uBody x.1 x.2, 0, 0⟩) := by
    have := sh_bd A ⟨uPutB x ++ R, 0, 0⟩
    rw [bd_lenB (m := uBody x.1 x.2) (t := R) (w := x.1.w) (by omega) (by rw [uPutB, List.append_assoc])] at this
    rw [show sh A ⟨uPutB x ++ R, 0, 0⟩ = ⟨A ++ (uPutB x ++ R), A.length, 0⟩ from rfl] at this
    rw [this]
    simp [sh, uPutB]
  have hab : x.1.ab < 256 ^ lenW x.1.w := by
    cases hw : x.1.w
    · exact Nat.lt_of_not_le fun e => hb (.inr (.inl ⟨hw, .inl e⟩))
    · exact b1
  have hty : x.1.ty < 256 ^ lenW x.1.w := by
    cases hw : x.1.w
    · exact Nat.lt_of_not_le fun e => hb (.inr (.inl ⟨hw, .inr e⟩))
    · exact b3
  have hrd : hdRead x.1.w ⟨uBody x.1 x.2, 0, 0⟩ = ⟨x.1.kind.toNat, x.1.ab, if x.1.kind = 2 then x.1.sig else 0, if x.1.kind = 2 then x.1.ty else 0, ⟨uBody x.1 x.2, (uBody x.1 x.2).length - x.2.length, 0⟩⟩ := by
    generalize hB : uBody x.1 x.2 = B at *
    obtain ⟨kb, hkb⟩ : ∃ kb, kb = UInt8.ofNat x.1.kind.toNat := ⟨_, rfl⟩
    obtain ⟨T, hT⟩ : ∃ T, T = (if x.1.kind = 2 then leB 8 x.1.sig ++ leB (lenW x.1.w) x.1.ty else []) ++ x.2 := ⟨_, rfl⟩
    have hB0 : B = [5, 0, kb, 8] ++ (leB (lenW x.1.w) x.1.ab ++ T) := by rw [← hB, hkb, hT]; simp [uBody]
    have hB4 : 4 ≤ B.length := by omega
    have s1 : (⟨B, 0, 0⟩ : Cur).skip 2 = ⟨B, 2, 0⟩ := Cur.skips (by omega)
    have s2 : (⟨B, 2, 0⟩ : Cur).skip 1 = ⟨B, 3, 0⟩ := Cur.skips (by omega)
    have s3 : (⟨B, 3, 0⟩ : Cur).skip 1 = ⟨B, 4, 0⟩ := Cur.skips (by omega)
    have g1 : (⟨B, 0, 0⟩ : Cur).got 2 = [5, 0] := by rw [Cur.gots (by omega), hB0]; rfl
    have g2 : (⟨B, 2, 0⟩ : Cur).got 1 = [kb] := by rw [Cur.gots (by omega), hB0]; rfl
    have g3 : (⟨B, 3, 0⟩ : Cur).got 1 = [8] := by rw [Cur.gots (by omega), hB0]; rfl
    have g4 : (⟨B, 4, 0⟩ : Cur).got (lenW x.1.w) = leB (lenW x.1.w) x.1.ab := got_mid hB0 rfl (leB_length _ _).symm
    have s4 : (⟨B, 4, 0⟩ : Cur).skip (lenW x.1.w) = ⟨B, 4 + lenW x.1.w, 0⟩ := skip_mid hB0 rfl (leB_length _ _).symm
    have ek : le [kb] = x.1.kind.toNat := by rw [hkb]; rcases hk with e | e | e <;> rw [e] <;> rfl
    have ez : (uSize (x.1.kind.toNat : Nat) x.1.w == 0) = false := by rcases hk with e | e | e <;> rw [e] <;> cases x.1.w <;> rfl
    unfold hdRead hdR2 hdR3
    rw [g1, s1, show (le [5, 0] != 5) = false from rfl, show failIf (⟨B, 2, 0⟩ : Cur) false = ⟨B, 2, 0⟩ from rfl, g2, s2, ek, ez, show failIf (⟨B, 3, 0⟩ : Cur) false = ⟨B, 3, 0⟩ from rfl, g3, s3, show (le [8] != 8) = false from rfl, show failIf (⟨B, 4, 0⟩ : Cur) false = ⟨B, 4, 0⟩ from rfl]
    unfold hdR4
    rw [g4, s4, le_leB_eq hab]
    by_cases k2 : x.1.kind = 2
    · rw [if_pos (by omega), if_pos k2, if_pos k2]
      have hB5 : B = ([5, 0, kb, 8] ++ leB (lenW x.1.w) x.1.ab) ++ (leB 8 x.1.sig ++ (leB (lenW x.1.w) x.1.ty ++ x.2)) := by rw [hB0, hT, if_pos k2]; simp
      have hB6 : B = ([5, 0, kb, 8] ++ leB (lenW x.1.w) x.1.ab ++ leB 8 x.1.sig) ++ (leB (lenW x.1.w) x.1.ty ++ x.2) := by rw [hB5]; simp
      have l5 : 4 + lenW x.1.w = ([5, 0, kb, 8] ++ leB (lenW x.1.w) x.1.ab).length := by simp [leB_length]; omega
      have l6 : 4 + lenW x.1.w + 8 = ([5, 0, kb, 8] ++ leB (lenW x.1.w) x.1.ab ++ leB 8 x.1.sig).length := by simp [leB_length]; omega
      have g5 : (⟨B, 4 + lenW x.1.w, 0⟩ : Cur).got 8 = leB 8 x.1.sig := got_mid hB5 l5 (leB_length _ _).symm
      have s5 : (⟨B, 4 + lenW x.1.w, 0⟩ : Cur).skip 8 = ⟨B, 4 + lenW x.1.w + 8, 0⟩ := skip_mid hB5 l5 (leB_length _ _).symm
      have g6 : (⟨B, 4 + lenW x.1.w + 8, 0⟩ : Cur).got (lenW x.1.w) = leB (lenW x.1.w) x.1.ty := got_mid hB6 l6 (leB_length _ _).symm
      have s6 : (⟨B, 4 + lenW x.1.w + 8, 0⟩ : Cur).skip (lenW x.1.w) = ⟨B, 4 + lenW x.1.w + 8 + lenW x.1.w, 0⟩ := skip_mid hB6 l6 (leB_length _ _).symm
      rw [g5, s5, g6, s6, le_leB_eq hty, le_leB_eq (n := 8) b2, show 4 + lenW x.1.w + 8 + lenW x.1.w = B.length - x.2.length by rw [hbl, if_pos k2]; omega]
    · rw [if_neg (by omega), if_neg k2, if_neg k2, show 4 + lenW x.1.w = B.length - x.2.length by rw [hbl, if_neg k2]; omega]
  unfold oneU
  rw [hbd]
  simp only
  rw [hrd, if_neg (by simp), if_neg (by simp)]
  simp only
  have e1 : ((x.1.kind.toNat : Nat) : Int) = x.1.kind := by omega
  have e2 : (if x.1.kind = 2 then x.1.sig else 0) = x.1.sig := by
    split
    · rfl
    · rename_i k2
      exact Classical.byContradiction fun e => hb (.inr (.inr ⟨k2, .inl fun e' => e e'.symm⟩))
  have e3 : (if x.1.kind = 2 then x.1.ty else 0) = x.1.ty := by
    split
    · rfl
    · rename_i k2
      exact Classical.byContradiction fun e => hb (.inr (.inr ⟨k2, .inr fun e' => e e'.symm⟩))
  rw [e1, e2, e3]; rfl
theorem uPutB_pos {x : Hd × List UInt8} (h : ¬ uBad x.1) : 12 ≤ (uPutB x).length ∧ 12 ≤ uSize x.1.kind x.1.w ∧ uSize x.1.kind x.1.w ≤ 40 := by
  have hk := uBad_kind h
  rw [uPutB_len h]
  unfold uSize
  rcases hk with e | e | e <;> rw [e] <;> cases x.1.w <;> simp [lenW] <;> omega
theorem unitAll_put : ∀ (l : List (Hd × List UInt8)) (A : List UInt8) (acc : List Hd) (f : Nat), (∀ x ∈ l, okU x) → acc.length + l.length ≤ 60 → l.length < f →
    unitAll f ⟨A ++ secU l, A.length, 0⟩ acc = (acc ++ wantU A.length l, 0)
  | [], A, acc, f + 1, _, _, _ => by
    unfold unitAll
    rw [if_pos (by rw [left_at]; simp [secU])]
    simp [wantU]
  | x :: l, A, acc, f + 1, h, h60, hf => by
    have hp := uPutB_pos (h x (List.mem_cons_self ..)).1
    have hs : secU (x :: l) = uPutB x ++ secU l := rfl
    simp only [List.length_cons] at h60 hf
    unfold unitAll
    rw [if_neg (by rw [left_at, hs]; simp only [List.length_append]; omega), hs, unit_put (h x (List.mem_cons_self ..))]
    simp only
    rw [if_neg (by simp), if_neg (by omega)]
    have := unitAll_put l (A ++ uPutB x) (acc ++ [uHead A.length x]) f (fun y hy => h y (List.mem_cons_of_mem _ hy)) (by simp; omega) (by omega)
    rw [List.append_assoc, List.length_append] at this
    rw [this, List.append_assoc]; rfl
  | _, _, _, 0, _, _, hf => absurd hf (by omega)
theorem secU_len : ∀ l : List (Hd × List UInt8), (∀ x ∈ l, okU x) → l.length ≤ (secU l).length ∧ (secU l).length ≤ 3100 * l.length
  | [], _ => by simp [secU]
  | x :: l, h => by
    obtain ⟨h1, h2⟩ := secU_len l fun y hy => h y (List.mem_cons_of_mem _ hy)
    have hx := h x (List.mem_cons_self ..)
    have hp := uPutB_pos hx.1
    have hq := uPutB_len hx.1
    have := hx.2.2
    rw [show secU (x :: l) = uPutB x ++ secU l from rfl, List.length_append, List.length_cons]; omega
theorem uR_put {l : List (Hd × List UInt8)} (h : ∀ x ∈ l, okU x) (h60 : l.length ≤ 60) : uR (secU l) = (wantU 0 l, 0) := by
  have := unitAll_put l [] [] ((secU l).length + 1) h (by simpa using h60) (by have := (secU_len l h).1; omega)
  simpa using this
theorem wantU_len : ∀ (l : List (Hd × List UInt8)) (off : Nat), (wantU off l).length = l.length
  | [], _ => rfl
  | x :: l, off => by simp [wantU, wantU_len l]
theorem secU_snoc {l : List (Hd × List UInt8)} {x : Hd × List UInt8} : secU (l ++ [x]) = secU l ++ uPutB x := by simp [secU]
theorem wantU_snoc : ∀ (l : List (Hd × List UInt8)) (x : Hd × List UInt8) (off : Nat), wantU off (l ++ [x]) = wantU off l ++ [uHead (off + (secU l).length) x]
  | [], x, off => by simp [wantU, secU]
  | y :: l, x, off => by
    show uHead off y :: wantU _ (l ++ [x]) = _
    rw [wantU_snoc l x, show secU (y :: l) = uPutB y ++ secU l from rfl, List.length_append, ← Nat.add_assoc]; rfl
theorem wantU_lo : ∀ (l : List (Hd × List UInt8)) (off n : Nat), n < l.length → off ≤ ((wantU off l).getD n default).first
  | x :: l, off, 0, _ => Nat.le_add_right _ _
  | x :: l, off, n + 1, h => by
    have := wantU_lo l (off + (uPutB x).length) n (by simpa using h)
    show off ≤ ((wantU (off + (uPutB x).length) l).getD n default).first
    omega
theorem wantU_at : ∀ (l : List (Hd × List UInt8)) (off n : Nat), n < l.length → ∃ o, (wantU off l).getD n default = uHead o (l.getD n default)
  | x :: l, off, 0, _ => ⟨off, rfl⟩
  | x :: l, off, n + 1, h => wantU_at l (off + (uPutB x).length) n (by simpa using h)
theorem wantU_fin : ∀ (l : List (Hd × List UInt8)) (off n : Nat), n < l.length → ((wantU off l).getD n default).fin ≤ off + (secU l).length
  | x :: l, off, 0, _ => by
    show off + (uPutB x).length ≤ off + (uPutB x ++ secU l).length
    rw [List.length_append]; omega
  | x :: l, off, n + 1, h => by
    have := wantU_fin l (off + (uPutB x).length) n (by simpa using h)
    show ((wantU (off + (uPutB x).length) l).getD n default).fin ≤ off + (uPutB x ++ secU l).length
    rw [List.length_append]; omega
theorem ofU_want : ∀ (l : List (Hd × List UInt8)) (off i n o : Nat), n < l.length → ((wantU off l).getD n default).first ≤ o → o < ((wantU off l).getD n default).fin → ofU i (wantU off l) o = ((i + n : Nat) : Int)
  | x :: l, off, i, 0, o, _, h1, h2 => by
    show (if (uHead off x).first ≤ o ∧ o < (uHead off x).fin then (i : Int) else _) = _
    rw [if_pos ⟨h1, h2⟩]; rfl
  | x :: l, off, i, n + 1, o, h, h1, h2 => by
    have hl := wantU_lo l (off + (uPutB x).length) n (by simpa using h)
    have h1 : ((wantU (off + (uPutB x).length) l).getD n default).first ≤ o := h1
    show (if (uHead off x).first ≤ o ∧ o < (uHead off x).fin then (i : Int) else ofU (i + 1) (wantU (off + (uPutB x).length) l) o) = _
    rw [if_neg (fun hh => by have : o < off + (uPutB x).length := hh.2; omega), ofU_want l _ (i + 1) n o (by simpa using h) h1 h2]
    rw [show i + 1 + n = i + (n + 1) by omega]
theorem ofU_ge : ∀ (l : List Hd) (i o : Nat), ofU i l o = -1 ∨ (i : Int) ≤ ofU i l o
  | [], _, _ => .inl rfl
  | x :: l, i, o => by
    show (if _ then (i : Int) else ofU (i + 1) l o) = -1 ∨ (i : Int) ≤ (if _ then (i : Int) else ofU (i + 1) l o)
    split
    · exact .inr (Int.le_refl _)
    · rcases ofU_ge l (i + 1) o with h | h
      · exact .inl h
      · exact .inr (by omega)
theorem ofU_in : ∀ (l : List Hd) (i n o : Nat), n < l.length → ofU i l o = ((i + n : Nat) : Int) → (l.getD n default).first ≤ o ∧ o < (l.getD n default).fin
  | x :: l, i, n, o, h, e => by
    have e' : (if x.first ≤ o ∧ o < x.fin then (i : Int) else ofU (i + 1) l o) = ((i + n : Nat) : Int) := e
    split at e'
    · rename_i hx
      have : n = 0 := by omega
      subst this; exact hx
    · cases n with
      | zero => rcases ofU_ge l (i + 1) o with h1 | h1 <;> omega
      | succ n => exact ofU_in l (i + 1) n o (by simpa using h) (by rw [e']; congr 1; omega)
theorem ofU_none : ∀ (l : List Hd) (i o : Nat), (∀ n, n < l.length → (l.getD n default).fin ≤ o) → ofU i l o = -1
  | [], _, _, _ => rfl
  | x :: l, i, o, h => by
    have h0 : x.fin ≤ o := h 0 (by simp)
    show (if x.first ≤ o ∧ o < x.fin then (i : Int) else ofU (i + 1) l o) = -1
    rw [if_neg (by omega)]
    exact ofU_none l _ o fun n hn => h (n + 1) (by simpa using hn)
end Go.Proofs.YtmjjfchahkdceaaDoor
