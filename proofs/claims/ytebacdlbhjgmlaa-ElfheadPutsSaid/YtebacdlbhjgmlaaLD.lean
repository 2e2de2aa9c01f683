import Derived.Test.YtebacdlbhjgmlaaLA
set_option linter.unusedVariables false
set_option linter.unusedSimpArgs false
namespace Go.Proofs.Ytebacdlbhjgmlaa
open Go.Ab
theorem arg_head {P : Program} {t i u : TypeId} {a : AV} (hr : isRowT P t = true) (hf : fieldsOf P t = [i, i, u, i, i]) (hi : P.underlying i = some (.int .i64)) (hu : P.underlying u = some (.int .u64)) (h : ShapeA P t a) :
    ∃ R : Hd, a = .g R.row ∧ R.fit := by
  obtain ⟨xs, h1, rfl⟩ := h
  obtain ⟨c1, d1, rfl, s1, h⟩ := (shape_fields hf (by simp) h1).inv
  obtain ⟨c2, d2, rfl, s2, h⟩ := h.inv
  obtain ⟨c3, d3, rfl, s3, h⟩ := h.inv
  obtain ⟨c4, d4, rfl, s4, h⟩ := h.inv
  obtain ⟨c5, d5, rfl, s5, h⟩ := h.inv
  have := h.inv0; subst this
  obtain ⟨k1, rfl, k2, k3⟩ := shape_i64 hi s1
  obtain ⟨l1, rfl, l2, l3⟩ := shape_i64 hi s2
  obtain ⟨m1, rfl, m2⟩ := shape_u64 hu s3
  obtain ⟨n1, rfl, n2, n3⟩ := shape_i64 hi s4
  obtain ⟨p1, rfl, p2, p3⟩ := shape_i64 hi s5
  rw [hr]
  exact ⟨⟨k1, l1, m1, n1, p1⟩, rfl, ⟨k2, k3⟩, ⟨l2, l3⟩, m2, ⟨n2, n3⟩, ⟨p2, p3⟩⟩
end Go.Proofs.Ytebacdlbhjgmlaa
