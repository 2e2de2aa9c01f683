import Derived.Test.YtaejegndbaahnaaLG
set_option linter.unusedVariables false
set_option linter.unusedSimpArgs false
set_option maxRecDepth 100000
set_option maxHeartbeats 1000000
namespace Go.Proofs.Ytaejegndbaahnaa
open Go.Ab
theorem arg_strs {t e : TypeId} {a : AV} (hu : X.P.underlying t = some (.slice e)) (he : X.P.underlying e = some .string) (h : ShapeA X.P t a) : ∃ l : List (List UInt8), a = .z (strs l) l.length ∧ (∀ s ∈ l, s.length ≤ maxLen) := by
  obtain ⟨l, h1, h2, _⟩ := arg_rows (f := fun s => [AV.v (.string (mkStr s))]) (R := fun s => s.length ≤ maxLen) hu (fun c hc => by obtain ⟨s, rfl, hs⟩ := shape_str he hc; exact ⟨s, rfl, hs⟩) h
  exact ⟨l, by rw [h1, flat_strs], h2⟩
theorem shape_rw {P : Program} {t i b u : TypeId} {xs : List AV} (hf : fieldsOf P t = (u :: i :: i :: i :: b :: b :: b :: b :: b :: u :: u :: [])) (hi : P.underlying i = some (.int .i64)) (hb : P.underlying b = some .bool) (hu : P.underlying u = some (.int .u64)) (h : Shape P t xs) :
    ∃ R : Rw, xs = R.row ∧ R.addr < 18446744073709551616 := by
  obtain ⟨c1, d1, rfl, s1, h⟩ := (shape_fields hf (by simp) h).inv
  obtain ⟨c2, d2, rfl, s2, h⟩ := h.inv
  obtain ⟨c3, d3, rfl, s3, h⟩ := h.inv
  obtain ⟨c4, d4, rfl, s4, h⟩ := h.inv
  obtain ⟨c5, d5, rfl, s5, h⟩ := h.inv
  obtain ⟨c6, d6, rfl, s6, h⟩ := h.inv
  obtain ⟨c7, d7, rfl, s7, h⟩ := h.inv
  obtain ⟨c8, d8, rfl, s8, h⟩ := h.inv
  obtain ⟨c9, d9, rfl, s9, h⟩ := h.inv
  obtain ⟨c10, d10, rfl, s10, h⟩ := h.inv
  obtain ⟨c11, d11, rfl, s11, h⟩ := h.inv
  have := h.inv0; subst this
  obtain ⟨a1, rfl, g1⟩ := shape_u64 hu s1
  obtain ⟨a2, rfl, _, _⟩ := shape_i64 hi s2
  obtain ⟨a3, rfl, _, _⟩ := shape_i64 hi s3
  obtain ⟨a4, rfl, _, _⟩ := shape_i64 hi s4
  obtain ⟨a5, rfl⟩ := shape_bool hb s5
  obtain ⟨a6, rfl⟩ := shape_bool hb s6
  obtain ⟨a7, rfl⟩ := shape_bool hb s7
  obtain ⟨a8, rfl⟩ := shape_bool hb s8
  obtain ⟨a9, rfl⟩ := shape_bool hb s9
  obtain ⟨a10, rfl, _⟩ := shape_u64 hu s10
  obtain ⟨a11, rfl, _⟩ := shape_u64 hu s11
  exact ⟨⟨a1, a2, a3, a4, a5, a6, a7, a8, a9, a10, a11⟩, rfl, g1⟩
theorem arg_rws {t e i b u : TypeId} {a : AV} (ht : X.P.underlying t = some (.slice e)) (hf : fieldsOf X.P e = (u :: i :: i :: i :: b :: b :: b :: b :: b :: u :: u :: [])) (hi : X.P.underlying i = some (.int .i64)) (hb : X.P.underlying b = some .bool) (hu : X.P.underlying u = some (.int .u64)) (h : ShapeA X.P t a) :
    ∃ l : List Rw, a = .z (rws l) l.length ∧ (∀ x ∈ l, x.addr < 18446744073709551616) ∧ l.length ≤ maxLen := by
  exact arg_rows (f := Rw.row) (R := fun x => x.addr < 18446744073709551616) ht (fun c hc => shape_rw hf hi hb hu hc) h
end Go.Proofs.Ytaejegndbaahnaa
