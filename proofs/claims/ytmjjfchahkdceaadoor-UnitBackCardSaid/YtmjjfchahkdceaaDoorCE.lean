import Derived.Test.YtmjjfchahkdceaaDoorCD
set_option linter.unusedVariables false
set_option linter.unusedSimpArgs false
set_option maxRecDepth 100000
set_option maxHeartbeats 1000000
namespace Go.Proofs.YtmjjfchahkdceaaDoor
open Go.Ab
variable {c : Cur} {h : Heap} {id : Nat} {K : Kt}
/-- a unit's head -/
structure Hd where
  kind : Int
  w : Bool
  ab : Nat
  sig : Nat
  ty : Nat
  off : Nat
  first : Nat
  fin : Nat
instance : Inhabited Hd := ⟨⟨0, false, 0, 0, 0, 0, 0, 0⟩⟩
def Hd.row (x : Hd) : List AV := [I x.kind, Bo x.w, U x.ab, U x.sig, U x.ty, U x.off, U x.first, U x.fin]
theorem Hd.row_len (x : Hd) : x.row.length = 8 := rfl
def oneU (c : Cur) : Hd × Int × Cur :=
  if c.bd.2.2.e ≠ 0 then (default, c.bd.2.2.e, c.bd.2.1)
  else if (hdRead c.bd.1 c.bd.2.2).c.e ≠ 0 then (default, (hdRead c.bd.1 c.bd.2.2).c.e, c.bd.2.1)
  else (⟨(hdRead c.bd.1 c.bd.2.2).kind, c.bd.1, (hdRead c.bd.1 c.bd.2.2).abbrev_, (hdRead c.bd.1 c.bd.2.2).sig, (hdRead c.bd.1 c.bd.2.2).type, c.p, c.p + uSize (hdRead c.bd.1 c.bd.2.2).kind c.bd.1, c.bd.2.1.p⟩, 0, c.bd.2.1)
def unitAll : Nat → Cur → List Hd → List Hd × Int
  | 0, _, acc => (acc, 0)
  | f + 1, c, acc => if c.left = 0 then (acc, 0) else if (oneU c).2.1 ≠ 0 then ([], (oneU c).2.1) else if 60 ≤ acc.length then ([], 3) else unitAll f (oneU c).2.2 (acc ++ [(oneU c).1])
theorem unitAll_more {m : Nat} {c : Cur} {acc : List Hd} (hz : ¬ c.left = 0) : unitAll (m + 1) c acc = (if (oneU c).2.1 ≠ 0 then ([], (oneU c).2.1) else if 60 ≤ acc.length then ([], 3) else unitAll m (oneU c).2.2 (acc ++ [(oneU c).1])) := by
  conv => lhs; unfold unitAll
  rw [if_neg hz]
/-- where there is a body it begins behind the length -/
theorem bd_at (hi : c.inv) (h : c.bd.2.2.e = 0) : c.bd.2.1.p = c.p + (if c.bd.1 = true then 12 else 4) + c.bd.2.2.b.length := by
  have h1 : (c.tk.2.2.skip c.tk.1).e = 0 := h
  obtain ⟨a1, a2, a3⟩ := skip_e0 h1
  have hg : c.bd.2.2.b.length = c.tk.1 := by
    show (c.tk.2.2.got c.tk.1).length = _
    unfold Cur.got
    rw [if_pos ⟨a1, a2⟩, List.length_take, List.length_drop]; omega
  have hp : c.bd.2.1.p = c.tk.2.2.p + c.tk.1 := by
    show (c.tk.2.2.skip c.tk.1).p = _
    rw [a3]
  have hw : c.bd.1 = c.tk.2.1 := by
    show (c.tk.2.1 && (c.tk.2.2.skip c.tk.1).e == 0) = _
    rw [h1]; simp
  rw [hp, hg, hw]
  have key : c.tk.2.2.p = c.p + (if c.tk.2.1 = true then 12 else 4) := by
    unfold Cur.tk at a1 ⊢
    split at a1
    · rename_i h2; exact absurd a1 h2
    · rename_i h2
      rw [if_neg h2]
      obtain ⟨b1, b2, b3⟩ := skip_e0 (c := c) (n := 4) (by simpa using h2)
      split at a1
      · rename_i h3
        rw [if_pos h3, b3]; rfl
      · rename_i h3
        rw [if_neg h3]
        split at a1
        · exact (fail_e a1 (by decide)).elim
        · rename_i h4
          rw [if_neg h4]
          obtain ⟨d1, d2, d3⟩ := skip_e0 a1
          show ((c.skip 4).skip 8).p = c.p + (if (((c.skip 4).skip 8).e == 0) = true then 12 else 4)
          rw [a1, d3, b3]; simp [Nat.add_assoc]
  rw [key]
theorem e_sticky {d : Cur} (h : d.e ≠ 0) (n : Nat) (b : Bool) : d.skip n = d ∧ d.got n = [] ∧ failIf d b = d := by
  refine ⟨by unfold Cur.skip; rw [if_neg h], by unfold Cur.got; rw [if_neg (fun h' => h h'.1)], ?_⟩
  unfold failIf; split
  · unfold Cur.fail; rw [if_neg h]
  · rfl
theorem hdR4_sticky {w : Bool} {k : Nat} {d : Cur} (h : d.e ≠ 0) : (hdR4 w k d).c = d := by
  unfold hdR4
  have s := fun n => (e_sticky h n false).1
  split
  · show ((d.skip _).skip _).skip _ = d
    rw [s, s, s]
  · exact s _
theorem hdR3_sticky {w : Bool} {k : Nat} {d : Cur} (h : d.e ≠ 0) : (hdR3 w k d).c = d := by
  unfold hdR3
  rw [(e_sticky h 1 false).1, (e_sticky h 0 _).2.2]; exact hdR4_sticky h
theorem hdR2_sticky {w : Bool} {d : Cur} (h : d.e ≠ 0) : (hdR2 w d).c = d := by
  unfold hdR2
  rw [(e_sticky h 1 false).1, (e_sticky h 0 _).2.2]; exact hdR3_sticky h
theorem failIf_42 {d : Cur} (h : d.e = 0) : (failIf d true).e = 42 := by
  show (d.fail 42).e = 42
  unfold Cur.fail; rw [if_pos h]
theorem failIf_no {d : Cur} {b : Bool} (h : ¬ (d.e = 0 ∧ b = true)) : failIf d b = d := by
  cases b
  · rfl
  · exact (e_sticky (fun e => h ⟨e, rfl⟩) 0 true).2.2
theorem uSize_zero {k : Nat} {w : Bool} : (uSize k w == 0) = decide (k < 1 ∨ k > 3) := by
  unfold uSize
  by_cases h2 : k = 2
  · subst h2; cases w <;> rfl
  · rw [if_neg (by omega)]
    by_cases h1 : k = 1 ∨ k = 3
    · rw [if_pos (by omega), decide_eq_false (by omega)]; cases w <;> rfl
    · rw [if_neg (by omega), decide_eq_true (by omega)]; rfl
/-- how far a head that is right was read -/
theorem hdR4_p {w : Bool} {k : Nat} {d : Cur} (h : (hdR4 w k d).c.e = 0) : (hdR4 w k d).c.p = d.p + lenW w + (if k = 2 then 8 + lenW w else 0) ∧ (hdR4 w k d).c.b = d.b ∧ d.e = 0 := by
  unfold hdR4 at h ⊢
  split
  · rename_i k2
    rw [if_pos k2] at h
    obtain ⟨a1, a2, a3⟩ := skip_e0 h
    obtain ⟨b1, b2, b3⟩ := skip_e0 a1
    obtain ⟨c1, c2, c3⟩ := skip_e0 b1
    refine ⟨?_, by show (((d.skip _).skip _).skip _).b = _; rw [skip_b, skip_b, skip_b], c1⟩
    show (((d.skip _).skip _).skip _).p = _
    rw [a3, b3, c3]; simp only; omega
  · rename_i k2
    rw [if_neg k2] at h
    obtain ⟨c1, c2, c3⟩ := skip_e0 h
    refine ⟨?_, skip_b _ _, c1⟩
    show (d.skip _).p = _
    rw [c3]; rfl
/-- where the entries begin -/
theorem first_at (hi : c.inv) (h : c.bd.2.2.e = 0) (h2 : (hdRead c.bd.1 c.bd.2.2).c.e = 0) : (hdRead c.bd.1 c.bd.2.2).c.left ≤ c.bd.2.1.p ∧ c.bd.2.1.p - (hdRead c.bd.1 c.bd.2.2).c.left = c.p + uSize (hdRead c.bd.1 c.bd.2.2).kind c.bd.1 := by
  have hb := bd_at hi h
  have hp0 : c.bd.2.2.p = 0 := rfl
  have hli := bd2_inv hi
  generalize c.bd.1 = w at *
  generalize c.bd.2.2 = d at *
  generalize c.bd.2.1.p = P at *
  unfold hdRead hdR2 hdR3 at h2 ⊢
  have n1 : ¬ ((d.skip 2).e = 0 ∧ (le (d.got 2) != 5) = true) := fun ⟨e1, e2⟩ => by
    rw [e2] at h2
    have q := failIf_42 e1
    generalize failIf (d.skip 2) true = x at *
    have sx := e_sticky (d := x) (by omega)
    rw [(sx 1 false).1, (sx 0 _).2.2, (sx 1 false).1, (sx 0 _).2.2, hdR4_sticky (by omega)] at h2; omega
  rw [failIf_no n1] at h2 ⊢
  generalize hk : le ((d.skip 2).got 1) = k at *
  have n2 : ¬ (((d.skip 2).skip 1).e = 0 ∧ (uSize k w == 0) = true) := fun ⟨e1, e2⟩ => by
    rw [e2] at h2
    have q := failIf_42 e1
    generalize failIf ((d.skip 2).skip 1) true = x at *
    have sx := e_sticky (d := x) (by omega)
    rw [(sx 1 false).1, (sx 0 _).2.2, hdR4_sticky (by omega)] at h2; omega
  rw [failIf_no n2] at h2 ⊢
  have n3 : ¬ ((((d.skip 2).skip 1).skip 1).e = 0 ∧ (le (((d.skip 2).skip 1).got 1) != 8) = true) := fun ⟨e1, e2⟩ => by
    rw [e2] at h2
    have q := failIf_42 e1
    rw [hdR4_sticky (by omega)] at h2; omega
  rw [failIf_no n3] at h2 ⊢
  obtain ⟨p1, p2, p3⟩ := hdR4_p h2
  obtain ⟨a1, a2, a3⟩ := skip_e0 p3
  obtain ⟨b1, b2, b3⟩ := skip_e0 a1
  obtain ⟨c1, c2, c3⟩ := skip_e0 b1
  have hkk : (hdR4 w k (((d.skip 2).skip 1).skip 1)).kind = k := by unfold hdR4; split <;> rfl
  have hpos : (((d.skip 2).skip 1).skip 1).p = 4 := by rw [a3, b3, c3]; simp only; omega
  have hbl : (((d.skip 2).skip 1).skip 1).b = d.b := by rw [skip_b, skip_b, skip_b]
  have hinv : (hdR4 w k (((d.skip 2).skip 1).skip 1)).c.inv := by
    have i1 := ((hli.skip 2).skip 1).skip 1
    unfold hdR4; split
    · exact ((i1.skip _).skip _).skip _
    · exact i1.skip _
  have hip := hinv.p
  have hl : (hdR4 w k (((d.skip 2).skip 1).skip 1)).c.left = d.b.length - (4 + lenW w + (if k = 2 then 8 + lenW w else 0)) := by
    unfold Cur.left; rw [if_pos h2, p1, p2, hpos, hbl]
  rw [p1, p2, hpos, hbl] at hip
  rw [hl, hkk]
  have hz : ¬ (k < 1 ∨ k > 3) := fun hz => n2 ⟨a1, by rw [uSize_zero]; exact decide_eq_true hz⟩
  unfold uSize
  have hcase : k = 2 ∨ k = 1 ∨ k = 3 := by omega
  rcases hcase with rfl | rfl | rfl <;> cases w <;> simp [lenW] at hip hb ⊢ <;> omega
end Go.Proofs.YtmjjfchahkdceaaDoor
