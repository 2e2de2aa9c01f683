import Derived.Test.YtlfplmcidfflfaaAbA
import Derived.ProofKit
import Derived.Carry
import Derived.SizedLaws
set_option linter.unusedVariables false
set_option linter.unusedSimpArgs false
namespace Go.Ab
open Go.RowKit Go.ChangeShapes Go.WideShapes

/-! ### From a law's contract to its row -/
section
variable {X : Ctx} {P : Program} {H : Type} {enc : TypeId × Value → H}

theorem below_of_ext {μ μ' : Mu} {Z' : Nat → Prop} {w w' : World} {n : Nat} {h' : Heap} (e : Ext (foot μ []) μ (fun b => b < w.heap.size) w n μ' Z' w' h') : Below w.heap.size w w' :=
  ⟨e.os, e.tape, e.output, e.size, fun k hk => e.block k hk (fun ⟨i, h1, _⟩ => h1 rfl)⟩

theorem trodAll_below (hl : laidOutB P = true) {W W' : World} (hB : Below W.heap.size W W') {sp : Nat → Bool} : ∀ {ts : List TypeId} {vs : List Value} {ds : List (DataW H)} {ps : List MemPlace},
    (∀ t ∈ ts, P.readableRec t = true ∧ t < P.types.size) → DataW.TrodAll enc P W 0 (fun _ => true) true ts vs ds ps → (∀ p ∈ ps, p.block < W.heap.size) → (∀ p ∈ ps, sp p.block = true) → DataW.TrodAll enc P W' 0 sp true ts vs ds ps
  | [], [], [], ps, _, h, _, _ => h
  | t :: ts, v :: vs, d :: ds, ps, ht, ⟨p, q, h1, h2, e⟩, hp, hs => by
    subst e
    obtain ⟨h3, h4⟩ := ht t (by simp)
    exact ⟨p, q, WideElems.Trod_stays hl h3 h4 h1 (fun x hx => hB.same (hp x (by simp [hx]))) (fun x hx => hs x (by simp [hx])),
      trodAll_below hl hB (fun t' ht' => ht t' (by simp [ht'])) h2 (fun x hx => hp x (by simp [hx])) (fun x hx => hs x (by simp [hx])), rfl⟩
  | [], _ :: _, _, _, _, h, _, _ => h.elim
  | [], [], _ :: _, _, _, h, _, _ => h.elim
  | _ :: _, [], _, _, _, h, _, _ => h.elim
  | _ :: _, _ :: _, [], _, _, h, _, _ => h.elim

theorem post_true {f : Func} {s : ChangeSpec} {fresh handsOn : Bool} {W W' : World} {args : Array Value} {ds gs : List (DataW H)} {before : List MemPlace} {tb : TypeId}
    (hl : laidOutB P = true) (hts : ∀ t ∈ f.params.toList, P.readableRec t = true ∧ t < P.types.size) (hrt : f.resultTypes = #[tb]) (hub : P.underlying tb = some .bool)
    (hs : s.fn H (ds ++ gs) = { results := [.lit (.bool true)], args := ds }) (hv : s.vars = []) (hW : DataW.Whole enc P f.params.toList s.vars false W args.toList ds gs before)
    (hB : Below W.heap.size W W') : s.post enc P f false fresh handsOn false W args (.bool true) W' := by
  have hlt := hW.lt
  have hW' := hW
  obtain ⟨p, q, h1, h2, e, h3, h4⟩ := hW'
  rw [hv] at h2
  have hq : q = [] ∧ gs = [] := by
    cases gs with
    | nil => exact ⟨h2, rfl⟩
    | cons _ _ => exact h2.elim
  obtain ⟨rfl, rfl⟩ := hq
  simp only [List.append_nil] at e
  subst e
  refine ⟨ds, [], before, [], before, [], hW, ?_, ?_, ?_, hB.frame _, fun h => by cases h⟩
  · rw [hs, hrt]
    exact trodAll_mk1 ⟨1, by simp [DataW.trod, hub, Value.cells]⟩
  · rw [hs]
    exact trodAll_below hl hB hts h1 hlt (fun x hx => by simpa using hlt x hx)
  · rw [hs, hv]
    rfl

/-- the package-level variables that the proof leans on hold what it says -/
def GlobIn (X : Ctx) (W : World) : Prop := ∀ g, X.glob g ≠ [] → ∃ us, RVs (fun _ => none) (fun b => b < W.heap.size) W us (X.glob g) ∧ ∀ (j : Nat) (u : Value), us[j]? = some u → g < W.heap.size ∧ W.cell? ⟨g, j, none⟩ = some u ∧ u.oneCell' = true
/-- the whole world as data -/
theorem HR.whole {W : World} (hg : GlobIn X W) : HR X (fun _ => none) (fun b => b < W.heap.size) W [] :=
  ⟨fun i => by rw [show ([] : Heap).getD i .dead = .dead from rfl]; trivial, fun i j b ⟨h1, _⟩ => absurd rfl h1, fun b hb => hb, fun _ _ => rfl, fun b ⟨i, h1, _⟩ => absurd rfl h1, hg⟩

theorem law_calls {f : FuncId} {W : World} {args : Array Value} {as : List AV} {R : World → Prop} (hg : GlobIn X W) (hb : ∃ fn, X.P.funcs[f]? = some fn ∧ fn.body.isNone = false ∧ (fn.name == "runtime.NumGoroutine") = false)
    (ha : RVs (fun _ => none) (fun b => b < W.heap.size) W args.toList as) (H : ACall X f as [] (.c (fun r _ => r = .v (.bool true)) ())) (hR : ∀ W', Below W.heap.size W W' → R W') :
    Calls X.P f args W fun e W' => ∃ v, e = .returned v ∧ v = .bool true ∧ R W' := by
  have h1 := H _ _ W args.toList (HR.whole hg) ha
  simp only [Array.toArray_toList] at h1
  obtain ⟨fn, h2, h3, h4⟩ := hb
  have h5 : (callFunc f args).run X.P W = .ok (.enter f args) W := by
    unfold callFunc
    simp only [Sem.run_bind, run_program, Result.andThen_ok, h2, h4, h3, Bool.false_eq_true, if_false, Sem.run_pure]
  rcases h1 with ⟨_, h1⟩ | ⟨v, w', h1, _⟩ | ⟨row, ar, w1, h1, _⟩
  · refine h1.mono ?_
    rintro e w' ⟨v, rfl, r, h', μ', Z', hr, _, hv, he⟩
    have hr : r = .v (.bool true) := hr
    subst hr
    cases hv
    exact ⟨_, rfl, rfl, hR w' (below_of_ext he)⟩
  · rw [h5] at h1; cases h1
  · rw [h5] at h1; cases h1
end
end Go.Ab

namespace Go.Ab

/-! ### What is handed in, as data -/
def contig (P : Program) : List Field → Nat → Nat → Bool
  | [], k, n => k == n
  | f :: r, k, n => f.offset == k && contig P r (k + P.cellsOf f.type) n
/-- plain data: numbers, truth values, texts, lists, structs, rows -/
def okT (P : Program) : Nat → TypeId → Bool
  | 0, _ => false
  | n + 1, t => match P.underlying t with
    | some .bool => true
    | some (.int _) => true
    | some .string => true
    | some (.slice e) => okT P n e && decide (0 < P.cellsOf e)
    | some (.array m e) => okT P n e && P.cellsOf t == m * P.cellsOf e
    | some (.struct fs) => contig P fs.toList 0 (P.cellsOf t) && fs.toList.all (fun f => okT P n f.type)
    | _ => false

inductive Shape (P : Program) : TypeId → List AV → Prop
  | bool {t : TypeId} {b : Bool} : P.underlying t = some .bool → Shape P t [.v (.bool b)]
  | int {t : TypeId} {k : IntKind} {n : Int} : P.underlying t = some (.int k) → (Lit.int k n).wf = true → Shape P t [.v (.int k n)]
  | str {t : TypeId} {s : ByteArray} : P.underlying t = some .string → s.size ≤ maxLen → Shape P t [.v (.string s)]
  | slice {t e : TypeId} {css : List (List AV)} : P.underlying t = some (.slice e) → (∀ c ∈ css, Shape P e c) → (∀ c ∈ css, c.length = P.cellsOf e) → css.length ≤ maxLen → Shape P t [.z css.flatten css.length]
  | arr {t e : TypeId} {n : Nat} {css : List (List AV)} : P.underlying t = some (.array n e) → css.length = n → (∀ c ∈ css, Shape P e c) → (∀ c ∈ css, c.length = P.cellsOf e) → Shape P t css.flatten
  | st {t : TypeId} {fs : Array Field} {css : List (List AV)} : P.underlying t = some (.struct fs) → css.length = fs.size → (∀ (i : Nat) (f : Field) (c : List AV), fs.toList[i]? = some f → css[i]? = some c → Shape P f.type c) →
      (∀ (i : Nat) (f : Field) (c : List AV), fs.toList[i]? = some f → css[i]? = some c → c.length = P.cellsOf f.type) → Shape P t css.flatten

theorem chunk_get {α : Type} {sz : Nat} (h0 : 0 < sz) : ∀ (L : List (List α)), (∀ c ∈ L, c.length = sz) → ∀ j, L.flatten[j]? = (L[j / sz]?).bind (fun c => c[j % sz]?)
  | [], _, j => by simp
  | c :: L, hL, j => by
    have hc := hL c (by simp)
    rw [List.flatten_cons]
    by_cases hj : j < sz
    · rw [List.getElem?_append_left (by omega), Nat.div_eq_of_lt hj, Nat.mod_eq_of_lt hj]; rfl
    · rw [List.getElem?_append_right (by omega), hc, chunk_get h0 L (fun c hc => hL c (by simp [hc])) (j - sz)]
      have e1 : j / sz = (j - sz) / sz + 1 := by
        rw [Nat.div_eq j sz, if_pos ⟨h0, by omega⟩]
      have e2 : j % sz = (j - sz) % sz := by rw [Nat.mod_eq_sub_mod (by omega)]
      rw [e1, e2, List.getElem?_cons_succ]

theorem flatten_len {α : Type} {sz : Nat} : ∀ (L : List (List α)), (∀ c ∈ L, c.length = sz) → L.flatten.length = L.length * sz
  | [], _ => by simp
  | c :: L, hL => by
    rw [List.flatten_cons, List.length_append, flatten_len L (fun c hc => hL c (by simp [hc])), hL c (by simp), List.length_cons, Nat.add_mul]; omega

theorem RVs.flatten {μ : Mu} {Z : Nat → Prop} {w : World} : ∀ {us : List (List Value)} {cs : List (List AV)}, us.length = cs.length → (∀ (i : Nat) (u : List Value) (c : List AV), us[i]? = some u → cs[i]? = some c → RVs μ Z w u c) → RVs μ Z w us.flatten cs.flatten
  | [], [], _, _ => .nil
  | u :: us, c :: cs, hl, h => by
    rw [List.flatten_cons, List.flatten_cons]
    exact (h 0 u c rfl rfl).append (RVs.flatten (by simpa using hl) (fun i u c hu hc => h (i + 1) u c (by simpa using hu) (by simpa using hc)))

theorem contig_flat {α : Type} {P : Program} {cs : List α} : ∀ (fs : List Field) (k : Nat), contig P fs k cs.length = true → k ≤ cs.length ∧ cs.drop k = (fs.map fun f => (cs.drop f.offset).take (P.cellsOf f.type)).flatten ∧ ∀ f ∈ fs, ((cs.drop f.offset).take (P.cellsOf f.type)).length = P.cellsOf f.type
  | [], k, h => by
    simp only [contig, beq_iff_eq] at h
    subst h; simp
  | f :: fs, k, h => by
    simp only [contig, Bool.and_eq_true, beq_iff_eq] at h
    obtain ⟨h1, h2⟩ := h
    obtain ⟨a, b, c⟩ := contig_flat fs _ h2
    refine ⟨by omega, ?_, ?_⟩
    · rw [List.map_cons, List.flatten_cons, ← b, h1, ← List.drop_drop]
      exact (List.take_append_drop _ _).symm
    · intro g hg
      rcases List.mem_cons.1 hg with rfl | hg
      · simp [h1]; omega
      · exact c g hg

/-- choose for each -/
theorem choose_list {α β : Type} {p : Nat → α → β → Prop} : ∀ (l : List α) (k : Nat), (∀ (i : Nat) (a : α), l[i]? = some a → ∃ b, p (k + i) a b) → ∃ r : List β, r.length = l.length ∧ ∀ (i : Nat) (a : α) (b : β), l[i]? = some a → r[i]? = some b → p (k + i) a b
  | [], k, _ => ⟨[], rfl, fun i a b h => by simp at h⟩
  | a :: l, k, h => by
    obtain ⟨b, hb⟩ := h 0 a rfl
    obtain ⟨r, h1, h2⟩ := choose_list (p := p) l (k + 1) (fun i a' ha => by
      have := h (i + 1) a' (by simpa using ha)
      rwa [show k + (i + 1) = k + 1 + i from by omega] at this)
    refine ⟨b :: r, by simp [h1], fun i a' b' ha hb' => ?_⟩
    cases i with
    | zero => simp at ha hb'; subst ha hb'; exact hb
    | succ i =>
      rw [show k + (i + 1) = k + 1 + i from by omega]
      exact h2 i a' b' (by simpa using ha) (by simpa using hb')

section
variable {P : Program} {H : Type} {enc : TypeId × Value → H} {W : World}

theorem addr_add (a : Addr) (m n : Nat) : (a.add m).add n = a.add (m + n) := by
  unfold Addr.add
  by_cases hm : m = 0 <;> by_cases hn : n = 0 <;> simp [hm, hn, Nat.add_assoc]
theorem cell_lt {a : Addr} {u : Value} (h : W.cell? a = some u) : a.block < W.heap.size := by
  unfold World.cell? at h
  cases hb : W.heap[a.block]? with
  | none => rw [hb] at h; cases h
  | some o => exact (Array.getElem?_eq_some_iff.1 hb).1

theorem trod_shape {base : Nat} {sp : Nat → Bool} {held : Bool} : ∀ (fuel n : Nat) (t : TypeId) (cs : List Value) (d : DataW H) (ps : List MemPlace), okT P n t = true → DataW.trod enc P W base sp held fuel t cs = some (d, ps) →
    ∃ as, RVs (fun _ => none) (fun b => b < W.heap.size) W cs as ∧ Shape P t as ∧ ∀ u ∈ cs, u.oneCell' = true := by
  intro fuel
  induction fuel with
  | zero => intro n t cs d ps _ h; simp [DataW.trod] at h
  | succ fuel ih =>
    intro n t cs d ps hok h
    cases n with
    | zero => cases hok
    | succ n =>
      simp only [okT] at hok
      simp only [DataW.trod] at h
      cases hu : P.underlying t with
      | none => rw [hu] at hok; cases hok
      | some ty =>
        rw [hu] at hok h
        cases ty with
        | bool =>
          split at h <;> first | (cases h; done) | skip
          all_goals first | (rename_i he _; cases he; done) | skip
          all_goals first | (rename_i he; cases he; done) | skip
          all_goals exact ⟨_, .cons (.v _) .nil, .bool hu, by simp [Value.oneCell']⟩
        | int k =>
          rcases cs with _ | ⟨c, _ | ⟨c2, cs⟩⟩
          · cases h
          · cases c <;> first | (cases h; done) | skip
            rename_i k' m
            simp only at h
            split at h
            · rename_i hk
              obtain ⟨rfl, hwf⟩ := hk
              exact ⟨_, .cons (.v _) .nil, .int hu hwf, by simp [Value.oneCell']⟩
            · cases h
          · cases c <;> cases h
        | string =>
          rcases cs with _ | ⟨c, _ | ⟨c2, cs⟩⟩
          · cases h
          · cases c <;> first | (cases h; done) | skip
            rename_i s
            simp only at h
            split at h
            · rename_i hk
              exact ⟨_, .cons (.v _) .nil, .str hu hk, by simp [Value.oneCell']⟩
            · cases h
          · cases c <;> cases h
        | slice e =>
          simp only [Bool.and_eq_true, decide_eq_true_eq] at hok
          obtain ⟨hoe, h0⟩ := hok
          rcases cs with _ | ⟨c, _ | ⟨c2, cs⟩⟩
          · cases h
          · cases c <;> first | (cases h; done) | skip
            rename_i A len cap
            cases A with
            | none =>
              cases len with
              | succ l => cases cap <;> cases h
              | zero =>
                cases cap with
                | succ l => cases h
                | zero =>
                  refine ⟨[.z [] 0], .cons (.z .nil (fun j u hu => by cases hu) (Nat.le_refl _)) .nil, ?_, by simp [Value.oneCell']⟩
                  have := Shape.slice (P := P) (css := []) hu (by simp) (by simp) (by simp)
                  simpa using this
            | some A =>
              simp only at h
              split at h
              · rename_i hb
                obtain ⟨hb1, hb2, hb3⟩ := hb
                cases hm : (List.range len).mapM (fun i => (W.cells? base (A.add (i * P.cellsOf e)) (P.cellsOf e)).bind (DataW.trod enc P W base sp held fuel e)) with
                | none => rw [hm] at h; cases h
                | some es =>
                  have hel : ∀ (i : Nat) (x : Nat), (List.range len)[i]? = some x → ∃ c : List Value × List AV, c.1.length = P.cellsOf e ∧ (∀ r, r < P.cellsOf e → W.cell? (A.add ((0 + i) * P.cellsOf e + r)) = c.1[r]?) ∧
                      RVs (fun _ => none) (fun b => b < W.heap.size) W c.1 c.2 ∧ Shape P e c.2 ∧ ∀ u ∈ c.1, u.oneCell' = true := by
                    intro i x hx
                    have h1 := mapM_some_get hm i x hx
                    have hxi : x = i := by
                      have := List.getElem?_eq_some_iff.1 hx
                      obtain ⟨_, e1⟩ := this
                      simpa using e1.symm
                    subst hxi
                    have hlt : x < es.length := by rw [mapM_some_length hm]; exact (List.getElem?_eq_some_iff.1 hx).1
                    rw [List.getElem?_eq_getElem hlt] at h1
                    cases hc : W.cells? base (A.add (x * P.cellsOf e)) (P.cellsOf e) with
                    | none => rw [hc] at h1; cases h1
                    | some ci =>
                      rw [hc] at h1
                      simp only [Option.bind_some] at h1
                      obtain ⟨as, g1, g2, g3⟩ := ih n e ci _ _ hoe h1
                      unfold World.cells? at hc
                      split at hc
                      · have hl := mapM_some_length hc
                        refine ⟨(ci, as), by simpa using hl, fun r hr => ?_, g1, g2, g3⟩
                        have := mapM_some_get hc r r (by simp [hr])
                        rw [← this, addr_add, Nat.zero_add]
                      · cases hc
                  obtain ⟨L, hL, hp⟩ := choose_list (p := fun i (_ : Nat) (c : List Value × List AV) => c.1.length = P.cellsOf e ∧ (∀ r, r < P.cellsOf e → W.cell? (A.add (i * P.cellsOf e + r)) = c.1[r]?) ∧
                      RVs (fun _ => none) (fun b => b < W.heap.size) W c.1 c.2 ∧ Shape P e c.2 ∧ ∀ u ∈ c.1, u.oneCell' = true) (List.range len) 0 hel
                  simp only [List.length_range] at hL
                  have hat : ∀ (i : Nat) (c : List Value × List AV), L[i]? = some c → c.1.length = P.cellsOf e ∧ (∀ r, r < P.cellsOf e → W.cell? (A.add (i * P.cellsOf e + r)) = c.1[r]?) ∧
                      RVs (fun _ => none) (fun b => b < W.heap.size) W c.1 c.2 ∧ Shape P e c.2 ∧ ∀ u ∈ c.1, u.oneCell' = true := by
                    intro i c hc
                    have hi : i < len := by rw [← hL]; exact (List.getElem?_eq_some_iff.1 hc).1
                    have := hp i i c (by simp [hi]) hc
                    rwa [Nat.zero_add] at this
                  have hin : ∀ c ∈ L, ∃ i, L[i]? = some c := fun c hc => List.mem_iff_getElem?.1 hc
                  have hl1 : ∀ c ∈ L.map (·.1), c.length = P.cellsOf e := by
                    intro c hc
                    obtain ⟨x, hx, rfl⟩ := List.mem_map.1 hc
                    obtain ⟨i, hi⟩ := hin x hx
                    exact (hat i x hi).1
                  have hl2 : ∀ c ∈ L.map (·.2), c.length = P.cellsOf e := by
                    intro c hc
                    obtain ⟨x, hx, rfl⟩ := List.mem_map.1 hc
                    obtain ⟨i, hi⟩ := hin x hx
                    obtain ⟨q1, _, q3, _⟩ := hat i x hi
                    rw [← q3.length]; exact q1
                  have hrs : RVs (fun _ => none) (fun b => b < W.heap.size) W (L.map (·.1)).flatten (L.map (·.2)).flatten := by
                    refine RVs.flatten (by simp) (fun i u c hu' hc => ?_)
                    simp only [List.getElem?_map, Option.map_eq_some_iff] at hu' hc
                    obtain ⟨x, hx, rfl⟩ := hu'
                    obtain ⟨y, hy, rfl⟩ := hc
                    rw [hx] at hy; cases hy
                    exact (hat i x hx).2.2.1
                  refine ⟨[.z (L.map (·.2)).flatten len], .cons (.z hrs (fun j u hu' => ?_) hb2) .nil, ?_, by simp [Value.oneCell']⟩
                  · rw [chunk_get h0 _ hl1 j] at hu'
                    cases hLx : L[j / P.cellsOf e]? with
                    | none => simp [List.getElem?_map, hLx] at hu'
                    | some x =>
                      simp only [List.getElem?_map, hLx, Option.map_some, Option.bind_some] at hu'
                      obtain ⟨q1, q2, q3, q4, q5⟩ := hat _ x hLx
                      have hc := q2 (j % P.cellsOf e) (Nat.mod_lt _ h0)
                      rw [hu', Nat.mul_comm, Nat.div_add_mod] at hc
                      refine ⟨A, rfl, ?_, hc, q5 u (List.mem_of_getElem? hu')⟩
                      have := cell_lt hc
                      rwa [add_block] at this
                  · have := Shape.slice (P := P) (css := L.map (·.2)) hu (fun c hc => by
                      obtain ⟨x, hx, rfl⟩ := List.mem_map.1 hc
                      obtain ⟨i, hi⟩ := hin x hx
                      exact (hat i x hi).2.2.2.1) hl2 (by simp [hL]; omega)
                    simpa [hL] using this
              · cases h
          · cases c <;> first | (cases h; done) | skip
            rename_i A len cap
            cases A <;> cases len <;> cases cap <;> cases h
        | struct fs =>
          simp only [Bool.and_eq_true, List.all_eq_true] at hok
          obtain ⟨hco, hall⟩ := hok
          have h : (if cs.length = P.cellsOf t then (fs.toList.mapM fun f => DataW.trod enc P W base sp held fuel f.type ((cs.drop f.offset).take (P.cellsOf f.type))).map fun xs => (DataW.agg (xs.map (·.1)), xs.flatMap (·.2)) else none) = some (d, ps) := by
            rcases cs with _ | ⟨c, _ | ⟨c2, cs⟩⟩ <;> first | exact h | (cases c <;> exact h)
          split at h
          · rename_i hlen
            rw [← hlen] at hco
            obtain ⟨-, hflat, hfl⟩ := contig_flat (cs := cs) fs.toList 0 hco
            cases hm : fs.toList.mapM (fun f => DataW.trod enc P W base sp held fuel f.type ((cs.drop f.offset).take (P.cellsOf f.type))) with
            | none => rw [hm] at h; cases h
            | some es =>
              obtain ⟨L, hL, hp⟩ := choose_list (p := fun _ (f : Field) (as : List AV) => RVs (fun _ => none) (fun b => b < W.heap.size) W ((cs.drop f.offset).take (P.cellsOf f.type)) as ∧ Shape P f.type as ∧ ∀ u ∈ (cs.drop f.offset).take (P.cellsOf f.type), u.oneCell' = true) fs.toList 0 (by
                intro i f hf
                have h1 := mapM_some_get hm i f hf
                have hlt : i < es.length := by rw [mapM_some_length hm]; exact (List.getElem?_eq_some_iff.1 hf).1
                rw [List.getElem?_eq_getElem hlt] at h1
                exact ih n f.type _ _ _ (hall f (List.mem_of_getElem? hf)) h1)
              rw [List.drop_zero] at hflat
              refine ⟨L.flatten, ?_, .st hu (by simpa using hL) (fun i f c hf hc => (hp i f c hf hc).2.1) (fun i f c hf hc => ?_), ?_⟩
              · have key : RVs (fun _ => none) (fun b => b < W.heap.size) W (fs.toList.map fun f => (cs.drop f.offset).take (P.cellsOf f.type)).flatten L.flatten := by
                  refine RVs.flatten (by simp [hL]) (fun i u c hu' hc => ?_)
                  simp only [List.getElem?_map, Option.map_eq_some_iff] at hu'
                  obtain ⟨f, hf, rfl⟩ := hu'
                  exact (hp i f c hf hc).1
                rw [← hflat] at key
                exact key
              · rw [← (hp i f c hf hc).1.length]
                exact hfl f (List.mem_of_getElem? hf)
              · intro u hu'
                have hu2 : u ∈ (fs.toList.map fun f => (cs.drop f.offset).take (P.cellsOf f.type)).flatten := by rw [← hflat]; exact hu'
                obtain ⟨l, hl, hul⟩ := List.mem_flatten.1 hu2
                obtain ⟨f, hf, rfl⟩ := List.mem_map.1 hl
                obtain ⟨i, hi⟩ := List.mem_iff_getElem?.1 hf
                have hil : i < L.length := by rw [hL]; exact (List.getElem?_eq_some_iff.1 hi).1
                exact (hp i f _ hi (List.getElem?_eq_getElem hil)).2.2 u hul
          · cases h
        | array m e =>
          simp only [Bool.and_eq_true, beq_iff_eq] at hok
          obtain ⟨hoe, hsz⟩ := hok
          have h : (if cs.length = P.cellsOf t then ((List.range m).mapM fun i => DataW.trod enc P W base sp held fuel e ((cs.drop (i * P.cellsOf e)).take (P.cellsOf e))).map fun xs => (DataW.agg (xs.map (·.1)), xs.flatMap (·.2)) else none) = some (d, ps) := by
            rcases cs with _ | ⟨c, _ | ⟨c2, cs⟩⟩ <;> first | exact h | (cases c <;> exact h)
          split at h
          · rename_i hlen
            rw [hsz] at hlen
            cases hm : (List.range m).mapM (fun i => DataW.trod enc P W base sp held fuel e ((cs.drop (i * P.cellsOf e)).take (P.cellsOf e))) with
            | none => rw [hm] at h; cases h
            | some es =>
              have hflat : ∀ (m k : Nat), cs.length = (k + m) * P.cellsOf e → cs.drop (k * P.cellsOf e) = ((List.range m).map fun i => (cs.drop ((k + i) * P.cellsOf e)).take (P.cellsOf e)).flatten ∧ ∀ i, i < m → ((cs.drop ((k + i) * P.cellsOf e)).take (P.cellsOf e)).length = P.cellsOf e := by
                intro m
                induction m with
                | zero => intro k hk; simp [hk]
                | succ m ihm =>
                  intro k hk
                  obtain ⟨a, b⟩ := ihm (k + 1) (by rw [hk]; congr 1; omega)
                  have hle : (k + 1) * P.cellsOf e ≤ cs.length := by rw [hk]; exact Nat.mul_le_mul_right _ (by omega)
                  rw [Nat.add_mul, Nat.one_mul] at hle
                  refine ⟨?_, fun i hi => ?_⟩
                  · rw [List.range_succ_eq_map, List.map_cons, List.flatten_cons, List.map_map]
                    have : ((fun i => (cs.drop ((k + i) * P.cellsOf e)).take (P.cellsOf e)) ∘ Nat.succ) = fun i => (cs.drop ((k + 1 + i) * P.cellsOf e)).take (P.cellsOf e) := by
                      funext i; simp only [Function.comp]; rw [show k + Nat.succ i = k + 1 + i from by omega]
                    rw [this, ← a, Nat.add_mul k 1, Nat.one_mul, ← List.drop_drop, Nat.add_zero]
                    exact (List.take_append_drop _ _).symm
                  · cases i with
                    | zero => simp; omega
                    | succ i => rw [show k + (i + 1) = k + 1 + i from by omega]; exact b i (by omega)
              obtain ⟨hf1, hf2⟩ := hflat m 0 (by rw [hlen, Nat.zero_add])
              simp only [Nat.zero_mul, List.drop_zero, Nat.zero_add] at hf1 hf2
              obtain ⟨L, hL, hp⟩ := choose_list (p := fun _ (i : Nat) (as : List AV) => RVs (fun _ => none) (fun b => b < W.heap.size) W ((cs.drop (i * P.cellsOf e)).take (P.cellsOf e)) as ∧ Shape P e as ∧ ∀ u ∈ (cs.drop (i * P.cellsOf e)).take (P.cellsOf e), u.oneCell' = true) (List.range m) 0 (by
                intro i f hf
                have h1 := mapM_some_get hm i f hf
                have hlt : i < es.length := by rw [mapM_some_length hm]; exact (List.getElem?_eq_some_iff.1 hf).1
                rw [List.getElem?_eq_getElem hlt] at h1
                exact ih n e _ _ _ hoe h1)
              simp only [List.length_range] at hL
              have hat : ∀ (i : Nat) (c : List AV), L[i]? = some c → RVs (fun _ => none) (fun b => b < W.heap.size) W ((cs.drop (i * P.cellsOf e)).take (P.cellsOf e)) c ∧ Shape P e c ∧ ∀ u ∈ (cs.drop (i * P.cellsOf e)).take (P.cellsOf e), u.oneCell' = true := fun i c hc => by
                have hi : i < m := by rw [← hL]; exact (List.getElem?_eq_some_iff.1 hc).1
                exact hp i i c (by simp [hi]) hc
              refine ⟨L.flatten, ?_, .arr hu hL (fun c hc => ?_) (fun c hc => ?_), ?_⟩
              · have key : RVs (fun _ => none) (fun b => b < W.heap.size) W ((List.range m).map fun i => (cs.drop (i * P.cellsOf e)).take (P.cellsOf e)).flatten L.flatten := by
                  refine RVs.flatten (by simp [hL]) (fun i u c hu' hc => ?_)
                  have hi : i < m := by rw [← hL]; exact (List.getElem?_eq_some_iff.1 hc).1
                  simp [List.getElem?_map, hi] at hu'
                  subst hu'
                  exact (hat i c hc).1
                rw [← hf1] at key
                exact key
              · obtain ⟨i, hi⟩ := List.mem_iff_getElem?.1 hc
                exact (hat i c hi).2.1
              · obtain ⟨i, hi⟩ := List.mem_iff_getElem?.1 hc
                rw [← (hat i c hi).1.length]
                exact hf2 i (by rw [← hL]; exact (List.getElem?_eq_some_iff.1 hi).1)
              · intro u hu'
                have hu2 : u ∈ ((List.range m).map fun i => (cs.drop (i * P.cellsOf e)).take (P.cellsOf e)).flatten := by rw [← hf1]; exact hu'
                obtain ⟨l, hl, hul⟩ := List.mem_flatten.1 hu2
                obtain ⟨i, hi, rfl⟩ := List.mem_map.1 hl
                have hil : i < L.length := by rw [hL]; simpa using hi
                exact (hat i _ (List.getElem?_eq_getElem hil)).2.2 u hul
          · cases h
        | _ => cases hok
end
end Go.Ab

namespace Go.Ab
open Go.RowKit Go.ChangeShapes Go.WideShapes

def isRowT (P : Program) (t : TypeId) : Bool :=
  match P.underlying t with
  | some (.struct _) => true
  | some (.array _ _) => true
  | _ => false
/-- an argument, as data -/
def ShapeA (P : Program) (t : TypeId) (a : AV) : Prop := ∃ as, Shape P t as ∧ a = (bif isRowT P t then .g as else as.getD 0 .bad)

section
variable {P : Program} {H : Type} {enc : TypeId × Value → H} {W : World}

theorem arg_rv {base n : Nat} {r : Reach} {b0 : Nat} {sp : Nat → Bool} {held : Bool} {t : TypeId} {v : Value} {d : DataW H} {ps : List MemPlace} (hok : okT P n t = true) (hval : Value.okWide P W r b0 t v)
    (h : DataW.Trod enc P W base sp held t v d ps) : ∃ a, RV (fun _ => none) (fun b => b < W.heap.size) W v a ∧ ShapeA P t a := by
  obtain ⟨fuel, h⟩ := h
  obtain ⟨as, h1, h2, h3⟩ := trod_shape fuel n t _ d ps hok h
  cases n with
  | zero => cases hok
  | succ n =>
    simp only [okT] at hok
    have row : (∃ cs, v = .agg cs) → isRowT P t = true → ∃ a, RV (fun _ => none) (fun b => b < W.heap.size) W v a ∧ ShapeA P t a := by
      rintro ⟨cs, rfl⟩ hr
      refine ⟨.g as, ?_, as, h2, by rw [hr]; rfl⟩
      have := RV.g h1
      simpa [Value.cells] using this
    have one : (∀ cs, v ≠ .agg cs) → isRowT P t = false → ∃ a, RV (fun _ => none) (fun b => b < W.heap.size) W v a ∧ ShapeA P t a := by
      intro hne hr
      have hc : v.cells.toList = [v] := by cases v <;> first | rfl | exact absurd rfl (hne _)
      rw [hc] at h1
      cases h1 with
      | cons h1 h4 =>
        cases h4
        exact ⟨_, h1, _, h2, by rw [hr]; rfl⟩
    cases hu : P.underlying t with
    | none => rw [hu] at hok; cases hok
    | some ty =>
      rw [hu] at hok
      unfold Value.okWide at hval
      rw [hu] at hval
      cases ty with
      | struct fs => obtain ⟨cs, e, _⟩ := hval; exact row ⟨cs, e⟩ (by simp [isRowT, hu])
      | array m e => obtain ⟨cs, e, _⟩ := hval; exact row ⟨cs, e⟩ (by simp [isRowT, hu])
      | bool => exact one (fun cs e => by subst e; simp [Cell.okWide, Cell.ok, hu] at hval) (by simp [isRowT, hu])
      | int k => exact one (fun cs e => by subst e; simp [Cell.okWide, Cell.ok, hu] at hval) (by simp [isRowT, hu])
      | string => exact one (fun cs e => by subst e; simp [Cell.okWide, Cell.ok, hu] at hval) (by simp [isRowT, hu])
      | slice e => exact one (fun cs e => by subst e; simp [Cell.okWide, Cell.ok, hu] at hval) (by simp [isRowT, hu])
      | _ => cases hok

inductive ShapeAs (P : Program) : List TypeId → List AV → Prop
  | nil : ShapeAs P [] []
  | cons {t : TypeId} {a : AV} {ts : List TypeId} {as : List AV} : ShapeA P t a → ShapeAs P ts as → ShapeAs P (t :: ts) (a :: as)

theorem args_rv {base n : Nat} {r : Reach} {b0 : Nat} {sp : Nat → Bool} {held : Bool} : ∀ {ts : List TypeId} {vs : List Value} {ds : List (DataW H)} {ps : List MemPlace}, (∀ t ∈ ts, okT P n t = true) →
    (∀ (j : Nat) t v, ts[j]? = some t → vs[j]? = some v → Value.okWide P W r b0 t v) → DataW.TrodAll enc P W base sp held ts vs ds ps → ∃ as, RVs (fun _ => none) (fun b => b < W.heap.size) W vs as ∧ ShapeAs P ts as ∧ ds.length = ts.length
  | [], [], [], _, _, _, _ => ⟨[], .nil, .nil, rfl⟩
  | t :: ts, v :: vs, d :: ds, ps, hok, hv, ⟨p, q, h1, h2, _⟩ => by
    obtain ⟨a, e1, e2⟩ := arg_rv (hok t (by simp)) (hv 0 t v rfl rfl) h1
    obtain ⟨as, e3, e4, e5⟩ := args_rv (fun t' ht => hok t' (by simp [ht])) (fun j t' v' hj hj' => hv (j + 1) t' v' (by simpa using hj) (by simpa using hj')) h2
    exact ⟨a :: as, .cons e1 e3, .cons e2 e4, by simp [e5]⟩
  | [], _ :: _, _, _, _, _, h => h.elim
  | [], [], _ :: _, _, _, _, h => h.elim
  | _ :: _, [], _, _, _, _, h => h.elim
  | _ :: _, _ :: _, [], _, _, _, h => h.elim

/-- a law's row, out of its contract -/
theorem law_row {X : Ctx} {f : FuncId} {fn : Func} {s : ChangeSpec} {tb : TypeId} {W : World} {r : Reach} {b0 : Nat} {args : Array Value} {ds gs : List (DataW H)} {before : List MemPlace} {fresh handsOn : Bool}
    (hl : laidOutB X.P = true) (hf : X.P.funcs[f]? = some fn) (hbody : fn.body.isNone = false) (hnm : (fn.name == "runtime.NumGoroutine") = false) (hg : GlobIn X W)
    (hts : fn.params.toList.all (fun t => okT X.P 30 t && X.P.readableRec t && decide (t < X.P.types.size)) = true) (hrt : fn.resultTypes = #[tb]) (hub : X.P.underlying tb = some .bool)
    (hs : ∀ ds : List (DataW H), ds.length = fn.params.toList.length → s.fn H ds = { results := [.lit (.bool true)], args := ds }) (hv : s.vars = [])
    (H1 : ∀ as, ShapeAs X.P fn.params.toList as → ACall X f as [] (.c (fun r _ => r = .v (.bool true)) ()))
    (hval : ∀ (j : Nat) t v, fn.params[j]? = some t → args[j]? = some v → Value.okWide X.P W r b0 t v)
    (hW : DataW.Whole enc X.P fn.params.toList s.vars false W args.toList ds gs before) :
    Calls X.P f args W fun e W' => ∃ v, e = .returned v ∧ s.post enc X.P fn false fresh handsOn false W args v W' := by
  have hW' := hW
  obtain ⟨p, q, h1, h2, e, h3, h4⟩ := hW'
  rw [hv] at h2
  have hq : gs = [] := by
    cases gs with
    | nil => rfl
    | cons _ _ => exact h2.elim
  subst hq
  have hall := List.all_eq_true.1 hts
  obtain ⟨as, e1, e2, e3⟩ := args_rv (n := 30) (fun t ht => by have := hall t ht; simp only [Bool.and_eq_true] at this; exact this.1.1) (fun j t v hj hj' => hval j t v (by simpa using hj) (by simpa using hj')) h1
  refine (law_calls (R := fun W' => Below W.heap.size W W') hg ⟨fn, hf, hbody, hnm⟩ e1 (H1 as e2) (fun W' h => h)).mono ?_
  rintro e' W' ⟨v, rfl, rfl, hB⟩
  exact ⟨_, rfl, post_true hl (fun t ht => by have := hall t ht; simp only [Bool.and_eq_true, decide_eq_true_eq] at this; exact ⟨this.1.2, this.2⟩) hrt hub (by rw [List.append_nil]; exact hs ds e3) hv hW hB⟩
end
end Go.Ab

namespace Go.Ab
open Go.RowKit Go.ChangeShapes Go.WideShapes

/-! A law's row, where the form's own reach is wanted: a list that is handed in takes fewer than 2^47 bytes. -/
section
variable {P : Program} {H : Type} {enc : TypeId × Value → H} {W : World}

theorem mapM_len {α β : Type} {f : α → Option β} : ∀ {l : List α} {r : List β}, l.mapM f = some r → r.length = l.length
  | [], r, h => by simp at h; subst h; rfl
  | a :: l, r, h => by
    simp only [List.mapM_cons] at h
    cases ha : f a with
    | none => rw [ha] at h; cases h
    | some b =>
      rw [ha] at h
      cases hl : l.mapM f with
      | none => rw [hl] at h; cases h
      | some bs => rw [hl] at h; cases h; simp [mapM_len hl]
theorem trod_len {base fuel : Nat} {sp : Nat → Bool} {held : Bool} {t e : TypeId} {A : Option Addr} {len cap : Nat} {d : DataW H} {ps : List MemPlace} (hu : P.underlying t = some (.slice e))
    (h : DataW.trod enc P W base sp held fuel t [.slice A len cap] = some (d, ps)) : len = 0 ∨ ∃ elems spare, d = .slice elems spare ∧ len ≤ elems.length + spare.length := by
  cases fuel with
  | zero => simp [DataW.trod] at h
  | succ fuel =>
    simp only [DataW.trod] at h
    rw [hu] at h
    cases A with
    | none =>
      cases len with
      | zero => exact .inl rfl
      | succ l => cases cap <;> cases h
    | some A =>
      simp only at h
      split at h
      · cases hm : (List.range len).mapM (fun i => (W.cells? base (A.add (i * P.cellsOf e)) (P.cellsOf e)).bind (DataW.trod enc P W base sp held fuel e)) with
        | none => rw [hm] at h; cases h
        | some es =>
          rw [hm] at h
          have hl := mapM_len hm
          rw [List.length_range] at hl
          simp only [Option.bind_some, Option.map_eq_some_iff] at h
          obtain ⟨rest, _, h⟩ := h
          cases h
          exact .inr ⟨_, _, rfl, by rw [List.length_map, hl]; exact Nat.le_add_right _ _⟩
      · cases h
theorem trodAll_get {base : Nat} {sp : Nat → Bool} {held : Bool} : ∀ {ts : List TypeId} {vs : List Value} {ds : List (DataW H)} {ps : List MemPlace}, DataW.TrodAll enc P W base sp held ts vs ds ps →
    ∀ (j : Nat) (t : TypeId) (v : Value), ts[j]? = some t → vs[j]? = some v → ∃ d ps', ds[j]? = some d ∧ DataW.Trod enc P W base sp held t v d ps'
  | [], [], [], _, _, j, t, v, h, _ => by simp at h
  | t :: ts, v :: vs, d :: ds, ps, ⟨p, q, h1, h2, _⟩, 0, t', v', ht, hv => by
    simp at ht hv; subst ht hv; exact ⟨d, p, rfl, h1⟩
  | t :: ts, v :: vs, d :: ds, ps, ⟨p, q, h1, h2, _⟩, j + 1, t', v', ht, hv => by
    obtain ⟨d', ps', e1, e2⟩ := trodAll_get h2 j t' v' (by simpa using ht) (by simpa using hv)
    exact ⟨d', ps', by simpa using e1, e2⟩
  | [], _ :: _, _, _, h, _, _, _, _, _ => h.elim
  | [], [], _ :: _, _, h, _, _, _, _, _ => h.elim
  | _ :: _, [], _, _, h, _, _, _, _, _ => h.elim
  | _ :: _, _ :: _, [], _, h, _, _, _, _, _ => h.elim

/-- lists are no longer than the form's reach -/
def Lens (P : Program) (ts : List TypeId) (as : List AV) : Prop :=
  ∀ (j : Nat) (t e : TypeId) (cs : List AV) (n : Nat), ts[j]? = some t → P.underlying t = some (.slice e) → as[j]? = some (.z cs n) → n * P.bytesOf e ≤ reachBytes

theorem law_row_sized {X : Ctx} {f : FuncId} {fn : Func} {s : ChangeSpec} {tb : TypeId} {W : World} {r : Reach} {b0 : Nat} {args : Array Value} {ds gs : List (DataW H)} {before : List MemPlace} {fresh handsOn : Bool} {vt : List TypeId}
    (hl : laidOutB X.P = true) (hf : X.P.funcs[f]? = some fn) (hbody : fn.body.isNone = false) (hnm : (fn.name == "runtime.NumGoroutine") = false) (hg : GlobIn X W)
    (hts : fn.params.toList.all (fun t => okT X.P 30 t && X.P.readableRec t && decide (t < X.P.types.size)) = true) (hrt : fn.resultTypes = #[tb]) (hub : X.P.underlying tb = some .bool)
    (hs : ∀ ds : List (DataW H), ds.length = fn.params.toList.length → s.fn H ds = { results := [.lit (.bool true)], args := ds }) (hv : s.vars = [])
    (H1 : ∀ as, ShapeAs X.P fn.params.toList as → Lens X.P fn.params.toList as → ACall X f as [] (.c (fun r _ => r = .v (.bool true)) ()))
    (hval : ∀ (j : Nat) t v, fn.params[j]? = some t → args[j]? = some v → Value.okWide X.P W r b0 t v)
    (hW : DataW.Whole enc X.P fn.params.toList s.vars false W args.toList ds gs before)
    (hsz : (DataW.weightsEach X.P (fn.params.toList ++ vt) (ds ++ gs)).all (· ≤ reachBytes) = true) :
    Calls X.P f args W fun e W' => ∃ v, e = .returned v ∧ s.post enc X.P fn false fresh handsOn false W args v W' := by
  have hW' := hW
  obtain ⟨p, q, h1, h2, e, h3, h4⟩ := hW'
  rw [hv] at h2
  have hq : gs = [] := by
    cases gs with
    | nil => rfl
    | cons _ _ => exact h2.elim
  subst hq
  have hall := List.all_eq_true.1 hts
  obtain ⟨as, e1, e2, e3⟩ := args_rv (n := 30) (fun t ht => by have := hall t ht; simp only [Bool.and_eq_true] at this; exact this.1.1) (fun j t v hj hj' => hval j t v (by simpa using hj) (by simpa using hj')) h1
  have hlens : Lens X.P fn.params.toList as := by
    intro j t e cs n hj hu ha
    obtain ⟨v, hv', hrv⟩ := e1.get' ha
    obtain ⟨d, ps', hd, fuel, htr⟩ := trodAll_get h1 j t v hj hv'
    cases hrv with
    | @z A _ cap us _ hrs hc hle =>
      rcases trod_len (len := n) hu htr with rfl | ⟨elems, spare, rfl, hn⟩
      · omega
      · have := sized_slice hsz (j := j) (t := t) (e := e) (elems := elems) (spare := spare) (by rw [List.getElem?_append_left (List.getElem?_eq_some_iff.1 hj).1]; exact hj) (by rw [List.append_nil]; exact hd) hu
        exact Nat.le_trans (Nat.mul_le_mul_right _ hn) this
  refine (law_calls (R := fun W' => Below W.heap.size W W') hg ⟨fn, hf, hbody, hnm⟩ e1 (H1 as e2 hlens) (fun W' h => h)).mono ?_
  rintro e' W' ⟨v, rfl, rfl, hB⟩
  exact ⟨_, rfl, post_true hl (fun t ht => by have := hall t ht; simp only [Bool.and_eq_true, decide_eq_true_eq] at this; exact ⟨this.1.2, this.2⟩) hrt hub (by rw [List.append_nil]; exact hs ds e3) hv hW hB⟩
end
end Go.Ab

