import Derived.Test.YtlfplmcidfflfaaAbB
import Derived.Lib.Bytealg
import Derived.Lib.BytesEntry
import Derived.Lib.IndexLaws
import Derived.Laws.Externs
import Derived.LaidMore
import Derived.OpenShut
set_option linter.unusedVariables false
set_option linter.unusedSimpArgs false
set_option linter.defProp false
namespace Go.Ab

/-! Heaps. -/
theorem hset_self {h : Heap} {id : Nat} {o : AO} (e : h.getD id .dead = o) : h.set id o = h := by
  apply List.ext_getElem?
  intro j
  rw [List.getElem?_set]
  split
  · rename_i hj; subst hj
    split
    · rename_i hl; rw [List.getD_eq_getElem?_getD] at e
      rw [List.getElem?_eq_getElem hl] at e ⊢; simp at e; rw [e]
    · rename_i hl; rw [List.getElem?_eq_none (by omega)]
  · rfl
theorem hlt {h : Heap} {id : Nat} {o : AO} (e : h.getD id .dead = o) (hd : o ≠ .dead) : id < h.length := by
  rcases Nat.lt_or_ge id h.length with hl | hl
  · exact hl
  · rw [List.getD_eq_getElem?_getD, List.getElem?_eq_none hl] at e; exact absurd e.symm hd
theorem hget_set {h : Heap} {id : Nat} {o : AO} (hl : id < h.length) : (h.set id o).getD id .dead = o := by
  rw [List.getD_eq_getElem?_getD, List.getElem?_set_self hl]; rfl
theorem hget_set_ne {h : Heap} {id j : Nat} {o : AO} (hj : id ≠ j) : (h.set id o).getD j .dead = h.getD j .dead := by
  rw [List.getD_eq_getElem?_getD, List.getD_eq_getElem?_getD, List.getElem?_set_ne hj]
theorem hget_app {h l : Heap} {id : Nat} {o : AO} (e : h.getD id .dead = o) (hd : o ≠ .dead) : (h ++ l).getD id .dead = o := by
  have := hlt e hd
  rw [List.getD_eq_getElem?_getD] at e ⊢
  rw [List.getElem?_append_left this]; exact e
theorem hget_new {h l : Heap} {o : AO} : (h ++ o :: l).getD h.length .dead = o := by
  rw [List.getD_eq_getElem?_getD, List.getElem?_append_right (Nat.le_refl _)]; simp
theorem hget_new1 {h : Heap} {o p : AO} {l : Heap} : (h ++ p :: o :: l).getD (h.length + 1) .dead = o := by
  rw [List.getD_eq_getElem?_getD, List.getElem?_append_right (by omega)]; simp
theorem hset_new {h l : Heap} {o p : AO} : (h ++ o :: l).set h.length p = h ++ p :: l := by
  rw [List.set_append_right _ _ (Nat.le_refl _)]; simp
theorem hset_new1 {h l : Heap} {o o2 p : AO} : (h ++ o2 :: o :: l).set (h.length + 1) p = h ++ o2 :: p :: l := by
  rw [List.set_append_right _ _ (by omega)]; simp
theorem hset_app {h l : Heap} {id : Nat} {o : AO} (hl : id < h.length) : (h ++ l).set id o = h.set id o ++ l := by
  rw [List.set_append_left _ _ hl]

/-- an object of what was put behind a heap -/
theorem hgets {l : List AO} {o : AO} (h : Heap) (k : Nat) (e : l.getD k .dead = o) : (h ++ l).getD (h.length + k) .dead = o := by
  rw [List.getD_eq_getElem?_getD] at e ⊢
  rw [List.getElem?_append_right (by omega), Nat.add_sub_cancel_left]; exact e
theorem hsets {h l : Heap} {k : Nat} {o : AO} : (h ++ l).set (h.length + k) o = h ++ l.set k o := by
  rw [List.set_append_right _ _ (by omega), Nat.add_sub_cancel_left]

/-! Numbers. -/
theorem wrap_id {k : IntKind} {n : Int} (h1 : k.min ≤ n) (h2 : n ≤ k.max) : k.wrap n = n := by
  cases k <;> simp [IntKind.min, IntKind.max, IntKind.wrap, IntKind.bits, IntKind.signed] at * <;> (try split) <;> omega
theorem wrap_u64 {n : Int} (h1 : 0 ≤ n) (h2 : n < 18446744073709551616) : IntKind.u64.wrap n = n := wrap_id (by simpa [IntKind.min, IntKind.signed] using h1) (by simp [IntKind.max, IntKind.signed, IntKind.bits]; omega)
theorem wrap_i64 {n : Int} (h1 : -9223372036854775808 ≤ n) (h2 : n < 9223372036854775808) : IntKind.i64.wrap n = n := wrap_id (by simp [IntKind.min, IntKind.signed, IntKind.bits]; omega) (by simp [IntKind.max, IntKind.signed, IntKind.bits]; omega)
theorem wrap_u64_eq (n : Int) : IntKind.u64.wrap n = n % 18446744073709551616 := by simp [IntKind.wrap, IntKind.bits, IntKind.signed]
theorem wrap_u8_eq (n : Int) : IntKind.u8.wrap n = n % 256 := by simp [IntKind.wrap, IntKind.bits, IntKind.signed]

theorem tmod_nat (a b : Nat) : ((a : Int)).tmod (b : Int) = ((a % b : Nat) : Int) := rfl
theorem tdiv_nat (a b : Nat) : ((a : Int)).tdiv (b : Int) = ((a / b : Nat) : Int) := rfl

/-! Bytes. -/
def byt (l : List UInt8) : List AV := l.map fun b => .v (.int .u8 b.toNat)
theorem byt_nil : byt [] = [] := rfl
theorem byt_cons (b : UInt8) (l : List UInt8) : byt (b :: l) = .v (.int .u8 b.toNat) :: byt l := rfl
theorem byt_length (l : List UInt8) : (byt l).length = l.length := by simp [byt]
theorem byt_drop (l : List UInt8) (n : Nat) : (byt l).drop n = byt (l.drop n) := by simp [byt, List.map_drop]
theorem byt_take (l : List UInt8) (n : Nat) : (byt l).take n = byt (l.take n) := by simp [byt, List.map_take]
theorem byt_append (l m : List UInt8) : byt l ++ byt m = byt (l ++ m) := by simp [byt]
theorem byt_set (l : List UInt8) (n : Nat) (b : UInt8) : (byt l).set n (.v (.int .u8 b.toNat)) = byt (l.set n b) := by simp [byt, List.map_set]
theorem byt_getD {l : List UInt8} {n : Nat} (h : n < l.length) : (byt l).getD n .bad = .v (.int .u8 (l.getD n 0).toNat) := by
  simp [byt, List.getD_eq_getElem?_getD, List.getElem?_map, List.getElem?_eq_getElem h]
theorem asBytes_byt : ∀ l : List UInt8, asBytes (byt l) = some l
  | [] => rfl
  | b :: l => by simp [byt_cons, asBytes, asBytes_byt l]
theorem ofStr_mkStr (l : List UInt8) : ofStr (mkStr l) = byt l := by simp [ofStr, mkStr, byt]
theorem mkStr_inj {l m : List UInt8} : mkStr l = mkStr m ↔ l = m := by
  constructor
  · intro h; have := congrArg (fun b => b.data.toList) h; simpa [mkStr] using this
  · rintro rfl; rfl
theorem byt_one (l : List UInt8) : (byt l).all AV.one = true := by simp [byt, AV.one]
theorem mkStr_append (l m : List UInt8) : mkStr l ++ mkStr m = mkStr (l ++ m) := by
  apply ByteArray.ext
  simp [mkStr]
theorem mkStr_size (l : List UInt8) : (mkStr l).size = l.length := by simp [mkStr, ByteArray.size]

/-- a number whose lowest byte is first -/
def le : List UInt8 → Nat
  | [] => 0
  | b :: r => b.toNat + 256 * le r
theorem le_lt : ∀ l : List UInt8, le l < 256 ^ l.length
  | [] => by simp [le]
  | b :: r => by
    have h1 := le_lt r; have h2 := b.toNat_lt
    simp only [le, List.length_cons, Nat.pow_succ]; omega
theorem le_append : ∀ l m : List UInt8, le (l ++ m) = le l + 256 ^ l.length * le m
  | [], m => by simp [le]
  | b :: r, m => by
    simp only [List.cons_append, le, le_append r m, List.length_cons, Nat.pow_succ]
    rw [Nat.mul_add, ← Nat.mul_assoc, Nat.mul_comm (256 ^ r.length) 256]; omega

theorem a_on_t (t : Bool) (op : Kt → Prop) (h : Heap) (K : Kt) : a_on (.v (.bool t)) true op h K = if t = true then op K else K.K und h := by
  rw [a_on_bool]; cases t <;> simp
theorem a_on_f (t : Bool) (op : Kt → Prop) (h : Heap) (K : Kt) : a_on (.v (.bool t)) false op h K = if t = true then K.K und h else op K := by
  rw [a_on_bool]; cases t <;> simp
theorem a_cond_b (t : Bool) (A B : Prop) : a_cond (.v (.bool t)) A B = if t = true then A else B := by
  show ((t = true → A) ∧ (t = false → B)) = _
  cases t <;> simp
theorem a_pick_b (t : Bool) (a b : AV) (h : Heap) (K : Kt) : a_pick (.v (.bool t)) a b h K = K.K (if t = true then a else b) h := by
  show K.K (bif t then a else b) h = _
  cases t <;> rfl
theorem if_conj {c : Prop} [Decidable c] {A B : Prop} : (if c then A else B) = ((c → A) ∧ (¬ c → B)) := by
  by_cases h : c <;> simp [h]
theorem one_s {i o l : Nat} : (AV.s i o l).one = true := rfl
theorem one_p {i o : Nat} : (AV.p i o).one = true := rfl
theorem one_z {l : List AV} {n : Nat} : (AV.z l n).one = true := rfl
theorem one_q {l : List AV} {n : Nat} : (AV.q l n).one = true := rfl
theorem one_m {i : Nat} : (AV.m i).one = true := rfl
theorem one_f {f : Fn} {a b : List AV} : (AV.f f a b).one = true := rfl
theorem one_i {t : TypeId} {a : AV} : (AV.i t a).one = true := rfl
theorem one_int {k : IntKind} {n : Int} : (AV.v (.int k n)).one = true := rfl
theorem one_bool {b : Bool} : (AV.v (.bool b)).one = true := rfl
theorem one_string {s : ByteArray} : (AV.v (.string s)).one = true := rfl
theorem one_nils : (AV.v (.slice none 0 0)).one = true := rfl
theorem one_nilp : (AV.v (.pointer none)).one = true := rfl
theorem one_nilm : (AV.v (.map none)).one = true := rfl
theorem one_nilf : (AV.v .nilFunc).one = true := rfl
theorem one_nili : (AV.v .nilIface).one = true := rfl

/-- the lowest byte first -/
def leB : Nat → Nat → List UInt8
  | 0, _ => []
  | k + 1, n => UInt8.ofNat (n % 256) :: leB k (n / 256)
theorem leB_length : ∀ k n, (leB k n).length = k
  | 0, _ => rfl
  | k + 1, n => by simp [leB, leB_length k]
theorem leB_succ : ∀ k n, leB (k + 1) n = leB k n ++ [UInt8.ofNat (n / 256 ^ k % 256)]
  | 0, n => by simp [leB]
  | k + 1, n => by
    rw [leB, leB_succ k, leB, List.cons_append, Nat.div_div_eq_div_mul, Nat.pow_succ, Nat.mul_comm 256]
theorem toNat_ofNat_mod (n : Nat) : (UInt8.ofNat (n % 256)).toNat = n % 256 := by
  rw [UInt8.toNat_ofNat_of_lt']; simp [UInt8.size]; omega
theorem le_leB : ∀ k n, le (leB k n) = n % 256 ^ k
  | 0, n => by simp [leB, le, Nat.mod_one]
  | k + 1, n => by
    rw [leB, le, le_leB k, toNat_ofNat_mod, Nat.pow_succ, Nat.mul_comm (256 ^ k) 256, Nat.mod_mul]
theorem byt_snoc (l : List UInt8) (n : Nat) : byt l ++ [.v (.int .u8 ((n % 256 : Nat) : Int))] = byt (l ++ [UInt8.ofNat (n % 256)]) := by
  rw [← byt_append, byt_cons, toNat_ofNat_mod]; rfl

/-- a list of bytes that grows: what was at id is elsewhere now, all else is as it was -/
structure Grown (h : Heap) (id : Nat) (h1 : Heap) (id1 : Nat) (o : AO) : Prop where
  len : h.length ≤ h1.length
  keep : ∀ j, j < h.length → j ≠ id → h1.getD j .dead = h.getD j .dead
  get : h1.getD id1 .dead = o
  is : id1 = id ∨ h.length ≤ id1
theorem Grown.refl {h : Heap} {id : Nat} {o : AO} (e : h.getD id .dead = o) : Grown h id h id o := ⟨Nat.le_refl _, fun _ _ _ => rfl, e, .inl rfl⟩
theorem Grown.step {h h1 : Heap} {id id1 : Nat} {o p x : AO} (g : Grown h id h1 id1 o) (hd : o ≠ .dead) : Grown h id (((h1 ++ [x]).set id1 .dead) ++ [p]) (h1.length + 1) p := by
  have l1 := hlt g.get hd
  refine ⟨by simp; have := g.len; omega, fun j hj hne => ?_, ?_, .inr (by have := g.len; omega)⟩
  · have h1l := g.len
    rw [List.getD_eq_getElem?_getD, List.getElem?_append_left (by simp; omega), ← List.getD_eq_getElem?_getD]
    have : id1 ≠ j := by rcases g.is with e | e <;> omega
    rw [hget_set_ne this, List.getD_eq_getElem?_getD, List.getElem?_append_left (by omega), ← List.getD_eq_getElem?_getD]
    exact g.keep j hj hne
  · rw [show h1.length + 1 = ((h1 ++ [x]).set id1 .dead).length by simp]; exact hget_new

theorem take_b {l : List UInt8} {n : Nat} (e : n = l.length) : (byt l).take n = byt l := by rw [e, ← byt_length, List.take_length]
theorem cstr_b {l : List UInt8} {n : Nat} {h : Heap} {K : Kt} (e : n = l.length) : a_cstr (.z (byt l) n) h K = K.K (.v (.string (mkStr l))) h := by
  show (n ≤ (byt l).length ∧ a_mkstr (asBytes ((byt l).take n)) h K) = _
  rw [take_b e, asBytes_byt]
  exact propext ⟨fun h => h.2, fun h => ⟨by rw [byt_length, e]; exact Nat.le_refl _, h⟩⟩
theorem cstro_b {l : List UInt8} {n sz : Nat} {h : Heap} {K : Kt} (e : n = l.length) : a_cstro 0 n (.o sz (byt l)) h K = K.K (.v (.string (mkStr l))) h := by
  show (0 + n ≤ (byt l).length ∧ a_mkstr (asBytes (((byt l).drop 0).take n)) h K) = _
  rw [List.drop_zero, take_b e, asBytes_byt]
  exact propext ⟨fun h => h.2, fun h => ⟨by rw [byt_length, e]; omega, h⟩⟩
/-- a slot -/
def sl : List AV → Nat → AV
  | [], _ => .bad
  | a :: _, 0 => a
  | _ :: r, n + 1 => sl r n
/-- slot by slot: the same, forgotten, or nil seen as an empty list -/
def NilOk : List AV → List AV → Prop
  | [], [] => True
  | a :: as, b :: bs => (b = a ∨ b = .bad ∨ (a = .v (.slice none 0 0) ∧ ∃ id off, b = .s id off 0)) ∧ NilOk as bs
  | _, _ => False
theorem NilOk.len : ∀ {tm tm' : List AV}, NilOk tm tm' → tm'.length = tm.length
  | [], [], _ => rfl
  | _ :: _, _ :: _, h => by simp [NilOk.len h.2]
  | [], _ :: _, h => h.elim
  | _ :: _, [], h => h.elim
theorem NilOk.at : ∀ {tm tm' : List AV}, NilOk tm tm' → ∀ (i : Nat) (a : AV), tm'[i]? = some a → tm[i]? = some a ∨ a = .bad ∨ (tm[i]? = some (.v (.slice none 0 0)) ∧ ∃ id off, a = .s id off 0)
  | a :: as, b :: bs, h, 0, x, hx => by
    simp only [List.getElem?_cons_zero, Option.some.injEq] at hx ⊢
    subst hx
    rcases h.1 with e | e | e
    · exact .inl e.symm
    · exact .inr (.inl e)
    · exact .inr (.inr e)
  | a :: as, b :: bs, h, i + 1, x, hx => by
    simp only [List.getElem?_cons_succ] at hx ⊢
    exact NilOk.at h.2 i x hx
  | [], [], _, i, x, hx => by simp at hx
  | [], _ :: _, h, _, _, _ => h.elim
  | _ :: _, [], h, _, _, _ => h.elim
theorem weak_nils {X : Ctx} {h : Heap} {n sz : Nat} {tm tm' : List AV} (hn : n ≤ h.length) (hk : NilOk tm tm') : Weak X n (tm, h) (tm', h ++ [.o sz []]) := weak_nil hn hk.len hk.at
/-- a heap with more behind it -/
def Adds (h h' : Heap) : Prop := ∃ l, h' = h ++ l
theorem Adds.refl (h : Heap) : Adds h h := ⟨[], by simp⟩
theorem Adds.mk {h l : Heap} : Adds h (h ++ l) := ⟨l, rfl⟩
theorem Adds.trans {a b c : Heap} (h1 : Adds a b) (h2 : Adds b c) : Adds a c := by
  obtain ⟨l, rfl⟩ := h1; obtain ⟨m, rfl⟩ := h2; exact ⟨l ++ m, by simp⟩
theorem Adds.get {h h' : Heap} {id : Nat} {o : AO} (a : Adds h h') (e : h.getD id .dead = o) (hd : o ≠ .dead) : h'.getD id .dead = o := by
  obtain ⟨l, rfl⟩ := a; exact hget_app e hd
theorem Adds.at {h h' : Heap} {id : Nat} (a : Adds h h') (hl : id < h.length) : h'.getD id .dead = h.getD id .dead := by
  obtain ⟨l, rfl⟩ := a
  rw [List.getD_eq_getElem?_getD, List.getElem?_append_left hl, ← List.getD_eq_getElem?_getD]
theorem Adds.len {h h' : Heap} (a : Adds h h') : h.length ≤ h'.length := by obtain ⟨l, rfl⟩ := a; simp

/-- a value that is a list of just these bytes -/
def IsB (l : List UInt8) (r : AV) (h : Heap) : Prop := (r = .v (.slice none 0 0) ∧ l = []) ∨ (r = .z (byt l) l.length) ∨ ∃ id, r = .s id 0 l.length ∧ h.getD id .dead = .o 1 (byt l)
theorem IsB.z {l : List UInt8} {h : Heap} : IsB l (.z (byt l) l.length) h := .inr (.inl rfl)
theorem IsB.s {l : List UInt8} {h : Heap} {id : Nat} (e : h.getD id .dead = .o 1 (byt l)) : IsB l (.s id 0 l.length) h := .inr (.inr ⟨id, rfl, e⟩)
theorem IsB.cstr {l : List UInt8} {r : AV} {h : Heap} {K : Kt} (i : IsB l r h) : a_cstr r h K = K.K (.v (.string (mkStr l))) h := by
  rcases i with ⟨rfl, rfl⟩ | rfl | ⟨id, rfl, e⟩
  · rfl
  · exact cstr_b rfl
  · show a_cstro 0 l.length (h.getD id .dead) h K = _
    rw [e]; exact cstro_b rfl
theorem IsB.len {l : List UInt8} {r : AV} {h : Heap} {K : Kt} (i : IsB l r h) : a_len r h K = K.K (.v (.int .i64 l.length)) h := by
  rcases i with ⟨rfl, rfl⟩ | rfl | ⟨id, rfl, e⟩ <;> rfl
theorem IsB.src {l : List UInt8} {r : AV} {h : Heap} (i : IsB l r h) : srcCells 1 r h = some (l.length, byt l) := by
  rcases i with ⟨rfl, rfl⟩ | rfl | ⟨id, rfl, e⟩
  · rfl
  · show some (l.length, (byt l).take (l.length * 1)) = _
    rw [Nat.mul_one, take_b rfl]
  · show srcObj 0 l.length 1 (h.getD id .dead) = _
    rw [e]
    show some (l.length, ((byt l).drop 0).take (l.length * 1)) = _
    rw [Nat.mul_one, List.drop_zero, take_b rfl]
theorem IsB.adds {l : List UInt8} {r : AV} {h h' : Heap} (i : IsB l r h) (a : Adds h h') : IsB l r h' := by
  rcases i with i | i | ⟨id, rfl, e⟩
  · exact .inl i
  · exact .inr (.inl i)
  · exact .inr (.inr ⟨id, rfl, a.get e (by simp)⟩)

/-- the same, in a stretch of the heap that stays -/
def IsBin (l : List UInt8) (r : AV) (h : Heap) (lo hi : Nat) : Prop := (r = .v (.slice none 0 0) ∧ l = []) ∨ ∃ id, r = .s id 0 l.length ∧ h.getD id .dead = .o 1 (byt l) ∧ lo ≤ id ∧ id < hi
theorem IsBin.isB {l : List UInt8} {r : AV} {h : Heap} {lo hi : Nat} (i : IsBin l r h lo hi) : IsB l r h := by
  rcases i with i | ⟨id, h1, h2, _⟩
  · exact .inl i
  · exact .inr (.inr ⟨id, h1, h2⟩)
theorem IsBin.keep {l : List UInt8} {r : AV} {h h' : Heap} {lo hi : Nat} (i : IsBin l r h lo hi) (k : ∀ j, lo ≤ j → j < hi → h'.getD j .dead = h.getD j .dead) : IsBin l r h' lo hi := by
  rcases i with i | ⟨id, h1, h2, h3, h4⟩
  · exact .inl i
  · exact .inr ⟨id, h1, (k id h3 h4).trans h2, h3, h4⟩
theorem IsBin.mono {l : List UInt8} {r : AV} {h : Heap} {lo hi hi' : Nat} (i : IsBin l r h lo hi) (k : hi ≤ hi') : IsBin l r h lo hi' := by
  rcases i with i | ⟨id, h1, h2, h3, h4⟩
  · exact .inl i
  · exact .inr ⟨id, h1, h2, h3, by omega⟩

theorem Grown.trans {h h1 h2 : Heap} {id id1 id2 : Nat} {o o2 : AO} (g : Grown h id h1 id1 o) (g2 : Grown h1 id1 h2 id2 o2) : Grown h id h2 id2 o2 :=
  ⟨Nat.le_trans g.len g2.len, fun j hj hne => (g2.keep j (Nat.lt_of_lt_of_le hj g.len) (by rcases g.is with e | e <;> omega)).trans (g.keep j hj hne), g2.get, by
    rcases g2.is with e | e
    · rw [e]; exact g.is
    · exact .inr (Nat.le_trans g.len e)⟩
theorem Grown.adds {h h1 h2 : Heap} {id id1 : Nat} {o : AO} (g : Grown h id h1 id1 o) (hd : o ≠ .dead) (a : Adds h1 h2) : Grown h id h2 id1 o :=
  ⟨Nat.le_trans g.len a.len, fun j hj hne => (a.at (Nat.lt_of_lt_of_le hj g.len)).trans (g.keep j hj hne), a.get g.get hd, g.is⟩
/-- what is appended at once -/
theorem Grown.append {h h1 : Heap} {id id1 : Nat} {o p : AO} (g : Grown h id h1 id1 o) (hd : o ≠ .dead) : Grown h id (h1.set id1 .dead ++ [p]) h1.length p := by
  have l1 := hlt g.get hd
  refine ⟨by simp; have := g.len; omega, fun j hj hne => ?_, ?_, .inr g.len⟩
  · have h1l := g.len
    rw [Adds.mk.at (by simp; omega), hget_set_ne (by rcases g.is with e | e <;> omega)]
    exact g.keep j hj hne
  · rw [show h1.length = (h1.set id1 .dead).length by simp]; exact hget_new
theorem IsB.grown {m : List UInt8} {r : AV} {h h1 : Heap} {id id1 : Nat} {o : AO} (i : IsB m r h) (hn : otherId id r) (g : Grown h id h1 id1 o) : IsB m r h1 := by
  rcases i with i | i | ⟨j, rfl, e⟩
  · exact .inl i
  · exact .inr (.inl i)
  · exact .inr (.inr ⟨j, rfl, (g.keep j (hlt e (by simp)) hn).trans e⟩)
theorem IsB.ne {m : List UInt8} {r : AV} {h : Heap} {id : Nat} (i : IsB m r h) (hl : h.length ≤ id) : otherId id r := by
  rcases i with ⟨rfl, _⟩ | rfl | ⟨j, rfl, e⟩
  · trivial
  · trivial
  · have := hlt e (by simp); show j ≠ id; omega
theorem IsB.neg {m : List UInt8} {r : AV} {h h1 : Heap} {id id1 : Nat} {o : AO} (i : IsB m r h) (hn : otherId id r) (g : Grown h id h1 id1 o) : otherId id1 r := by
  rcases i with ⟨rfl, _⟩ | rfl | ⟨j, rfl, e⟩
  · trivial
  · trivial
  · have := hlt e (by simp)
    have hn : j ≠ id := hn
    show j ≠ id1
    rcases g.is with e | e <;> omega
/-- all that was is as it was -/
structure Keeps (h h' : Heap) : Prop where
  len : h.length ≤ h'.length
  get : ∀ {j : Nat}, j < h.length → h'.getD j .dead = h.getD j .dead
theorem Keeps.refl (h : Heap) : Keeps h h := ⟨Nat.le_refl _, fun _ => rfl⟩
theorem Keeps.trans {a b c : Heap} (h1 : Keeps a b) (h2 : Keeps b c) : Keeps a c := ⟨Nat.le_trans h1.len h2.len, fun hj => (h2.get (Nat.lt_of_lt_of_le hj h1.len)).trans (h1.get hj)⟩
theorem Keeps.adds {h h' : Heap} (a : Adds h h') : Keeps h h' := ⟨a.len, fun hj => a.at hj⟩
theorem Keeps.at {h h' : Heap} {id : Nat} {o : AO} (k : Keeps h h') (e : h.getD id .dead = o) (hd : o ≠ .dead) : h'.getD id .dead = o := (k.get (hlt e hd)).trans e
theorem Grown.keepsNew {h h1 : Heap} {id1 : Nat} {p o : AO} (g : Grown (h ++ [p]) h.length h1 id1 o) : Keeps h h1 :=
  ⟨by have := g.len; simp at this; omega, fun hj => (g.keep _ (by simp; omega) (by omega)).trans (Adds.mk.at hj)⟩
theorem Keeps.push {h h1 : Heap} {id : Nat} {p : AO} (k : Keeps h h1) (hid : h.length ≤ id) : Keeps h (h1.set id .dead ++ [p]) :=
  ⟨by simp; have := k.len; omega, fun hj => by rw [Adds.mk.at (by simp; have := k.len; omega), hget_set_ne (by omega)]; exact k.get hj⟩
theorem IsB.keeps {m : List UInt8} {r : AV} {h h' : Heap} (i : IsB m r h) (k : Keeps h h') : IsB m r h' := by
  rcases i with i | i | ⟨j, rfl, e⟩
  · exact .inl i
  · exact .inr (.inl i)
  · exact .inr (.inr ⟨j, rfl, k.at e (by simp)⟩)
/-- a literal of one, appended: what is left -/
theorem ap_get {h : Heap} {id : Nat} {x p : AO} : (((h ++ [x]).set id .dead) ++ [p]).getD (h.length + 1) .dead = p := by
  rw [show h.length + 1 = ((h ++ [x]).set id .dead).length by simp]; exact hget_new
theorem ap_keep {h : Heap} {id j : Nat} {x p o : AO} (e : h.getD j .dead = o) (hd : o ≠ .dead) (hj : id ≠ j) : (((h ++ [x]).set id .dead) ++ [p]).getD j .dead = o :=
  hget_app (by rw [hget_set_ne hj]; exact hget_app e hd) hd
theorem ap_len {h : Heap} {id : Nat} {x p : AO} : (((h ++ [x]).set id .dead) ++ [p]).length = h.length + 2 := by simp

theorem weak_nilz {X : Ctx} {h : Heap} {n : Nat} (hn : n ≤ h.length) : Weak X n ([.v (.slice none 0 0)], h) ([.z [] 0], h) := by
  intro μ Z w us hr hv
  refine ⟨μ, Z, hr, ?_, Ext.refl μ Z w h hn⟩
  cases hv with
  | cons a b => cases b; cases a; exact .cons (.z (us := []) .nil (fun j u hj => by simp at hj) (Nat.le_refl _)) .nil

end Go.Ab

namespace Go.Ab

theorem ShapeAs.inv {P : Program} {t : TypeId} {ts : List TypeId} {as : List AV} (h : ShapeAs P (t :: ts) as) : ∃ a as', as = a :: as' ∧ ShapeA P t a ∧ ShapeAs P ts as' := by
  cases h with
  | cons h1 h2 => exact ⟨_, _, rfl, h1, h2⟩
theorem ShapeAs.inv0 {P : Program} {as : List AV} (h : ShapeAs P [] as) : as = [] := by cases h; rfl

theorem shape_int {P : Program} {t : TypeId} {k : IntKind} {as : List AV} (hu : P.underlying t = some (.int k)) (h : Shape P t as) : ∃ n : Int, as = [.v (.int k n)] ∧ k.min ≤ n ∧ n ≤ k.max := by
  cases h with
  | int h1 h2 => rw [hu] at h1; cases h1; exact ⟨_, rfl, by simpa [Lit.wf] using h2⟩
  | bool h1 => rw [hu] at h1; cases h1
  | str h1 _ => rw [hu] at h1; cases h1
  | slice h1 => rw [hu] at h1; cases h1
  | arr h1 => rw [hu] at h1; cases h1
  | st h1 => rw [hu] at h1; cases h1
theorem shape_bool {P : Program} {t : TypeId} {as : List AV} (hu : P.underlying t = some .bool) (h : Shape P t as) : ∃ b, as = [.v (.bool b)] := by
  cases h with
  | int h1 h2 => rw [hu] at h1; cases h1
  | bool h1 => exact ⟨_, rfl⟩
  | str h1 _ => rw [hu] at h1; cases h1
  | slice h1 => rw [hu] at h1; cases h1
  | arr h1 => rw [hu] at h1; cases h1
  | st h1 => rw [hu] at h1; cases h1
theorem shape_str {P : Program} {t : TypeId} {as : List AV} (hu : P.underlying t = some .string) (h : Shape P t as) : ∃ l : List UInt8, as = [.v (.string (mkStr l))] ∧ l.length ≤ maxLen := by
  cases h with
  | int h1 h2 => rw [hu] at h1; cases h1
  | bool h1 => rw [hu] at h1; cases h1
  | str h1 h2 => exact ⟨_, rfl, by rw [Array.length_toList]; exact h2⟩
  | slice h1 => rw [hu] at h1; cases h1
  | arr h1 => rw [hu] at h1; cases h1
  | st h1 => rw [hu] at h1; cases h1
theorem shape_slice {P : Program} {t e : TypeId} {as : List AV} (hu : P.underlying t = some (.slice e)) (h : Shape P t as) :
    ∃ css : List (List AV), as = [.z css.flatten css.length] ∧ (∀ c ∈ css, Shape P e c) ∧ (∀ c ∈ css, c.length = P.cellsOf e) ∧ css.length ≤ maxLen := by
  cases h with
  | int h1 h2 => rw [hu] at h1; cases h1
  | bool h1 => rw [hu] at h1; cases h1
  | str h1 _ => rw [hu] at h1; cases h1
  | slice h1 h2 h3 h4 => rw [hu] at h1; cases h1; exact ⟨_, rfl, h2, h3, h4⟩
  | arr h1 => rw [hu] at h1; cases h1
  | st h1 => rw [hu] at h1; cases h1
theorem shape_st {P : Program} {t : TypeId} {fs : Array Field} {as : List AV} (hu : P.underlying t = some (.struct fs)) (h : Shape P t as) :
    ∃ css : List (List AV), as = css.flatten ∧ css.length = fs.size ∧ (∀ (i : Nat) (f : Field) (c : List AV), fs.toList[i]? = some f → css[i]? = some c → Shape P f.type c) := by
  cases h with
  | int h1 h2 => rw [hu] at h1; cases h1
  | bool h1 => rw [hu] at h1; cases h1
  | str h1 _ => rw [hu] at h1; cases h1
  | slice h1 => rw [hu] at h1; cases h1
  | arr h1 => rw [hu] at h1; cases h1
  | st h1 h2 h3 h4 => rw [hu] at h1; cases h1; exact ⟨_, rfl, h2, h3⟩
/-- the fields of a struct, one by one -/
inductive Shapes (P : Program) : List TypeId → List AV → Prop
  | nil : Shapes P [] []
  | cons {t : TypeId} {ts : List TypeId} {as bs : List AV} : Shape P t as → Shapes P ts bs → Shapes P (t :: ts) (as ++ bs)
theorem shapes_of {P : Program} : ∀ (fs : List Field) (css : List (List AV)), css.length = fs.length → (∀ (i : Nat) (f : Field) (c : List AV), fs[i]? = some f → css[i]? = some c → Shape P f.type c) → Shapes P (fs.map (·.type)) css.flatten
  | [], [], _, _ => .nil
  | f :: fs, c :: css, hl, h => .cons (h 0 f c rfl rfl) (shapes_of fs css (by simpa using hl) (fun i f c h1 h2 => h (i + 1) f c h1 h2))
  | [], _ :: _, hl, _ => by simp at hl
  | _ :: _, [], hl, _ => by simp at hl
theorem shape_sts {P : Program} {t : TypeId} {fs : Array Field} {as : List AV} (hu : P.underlying t = some (.struct fs)) (h : Shape P t as) : Shapes P (fs.toList.map (·.type)) as := by
  obtain ⟨css, rfl, h1, h2⟩ := shape_st hu h
  exact shapes_of _ _ (by simpa using h1) h2
theorem Shapes.inv {P : Program} {t : TypeId} {ts : List TypeId} {as : List AV} (h : Shapes P (t :: ts) as) : ∃ a b, as = a ++ b ∧ Shape P t a ∧ Shapes P ts b := by
  cases h with
  | cons h1 h2 => exact ⟨_, _, rfl, h1, h2⟩
theorem Shapes.inv0 {P : Program} {as : List AV} (h : Shapes P [] as) : as = [] := by cases h; rfl

def fieldsOf (P : Program) (t : TypeId) : List TypeId := match P.underlying t with
  | some (.struct fs) => fs.toList.map (·.type)
  | _ => []
/-- a struct's cells, field by field -/
theorem shape_fields {P : Program} {t : TypeId} {ts : List TypeId} {as : List AV} (hu : fieldsOf P t = ts) (hne : ts ≠ []) (h : Shape P t as) : Shapes P ts as := by
  unfold fieldsOf at hu
  split at hu
  · rename_i fs e; rw [← hu]; exact shape_sts e h
  · exact absurd hu.symm hne
theorem isRowT_one {P : Program} {t : TypeId} {d : TypeDesc} (hu : P.underlying t = some d) (h1 : ∀ fs, d ≠ .struct fs) (h2 : ∀ n e, d ≠ .array n e) : isRowT P t = false := by
  unfold isRowT; rw [hu]; cases d <;> first | rfl | exact absurd rfl (h1 _) | exact absurd rfl (h2 _ _)
theorem arg_int {P : Program} {t : TypeId} {k : IntKind} {a : AV} (hu : P.underlying t = some (.int k)) (h : ShapeA P t a) : ∃ n : Int, a = .v (.int k n) ∧ k.min ≤ n ∧ n ≤ k.max := by
  obtain ⟨as, h1, rfl⟩ := h
  obtain ⟨n, rfl, h2⟩ := shape_int hu h1
  rw [isRowT_one hu (fun _ => by simp) (fun _ _ => by simp)]
  exact ⟨n, rfl, h2⟩
theorem arg_bool {P : Program} {t : TypeId} {a : AV} (hu : P.underlying t = some .bool) (h : ShapeA P t a) : ∃ b, a = .v (.bool b) := by
  obtain ⟨as, h1, rfl⟩ := h
  obtain ⟨n, rfl⟩ := shape_bool hu h1
  rw [isRowT_one hu (fun _ => by simp) (fun _ _ => by simp)]
  exact ⟨n, rfl⟩
theorem arg_u64 {P : Program} {t : TypeId} {a : AV} (hu : P.underlying t = some (.int .u64)) (h : ShapeA P t a) : ∃ n : Nat, a = .v (.int .u64 n) ∧ n < 18446744073709551616 := by
  obtain ⟨n, rfl, h1, h2⟩ := arg_int hu h
  simp [IntKind.min, IntKind.max, IntKind.bits, IntKind.signed] at h1 h2
  exact ⟨n.toNat, by rw [Int.toNat_of_nonneg h1], by omega⟩
theorem arg_i64 {P : Program} {t : TypeId} {a : AV} (hu : P.underlying t = some (.int .i64)) (h : ShapeA P t a) : ∃ n : Int, a = .v (.int .i64 n) ∧ -9223372036854775808 ≤ n ∧ n < 9223372036854775808 := by
  obtain ⟨n, rfl, h1, h2⟩ := arg_int hu h
  simp [IntKind.min, IntKind.max, IntKind.bits, IntKind.signed] at h1 h2
  exact ⟨n, rfl, by omega, by omega⟩
theorem arg_str {P : Program} {t : TypeId} {a : AV} (hu : P.underlying t = some .string) (h : ShapeA P t a) : ∃ l : List UInt8, a = .v (.string (mkStr l)) ∧ l.length ≤ maxLen := by
  obtain ⟨as, h1, rfl⟩ := h
  obtain ⟨n, rfl, h2⟩ := shape_str hu h1
  rw [isRowT_one hu (fun _ => by simp) (fun _ _ => by simp)]
  exact ⟨n, rfl, h2⟩
theorem arg_slice {P : Program} {t e : TypeId} {a : AV} (hu : P.underlying t = some (.slice e)) (h : ShapeA P t a) :
    ∃ css : List (List AV), a = .z css.flatten css.length ∧ (∀ c ∈ css, Shape P e c) ∧ (∀ c ∈ css, c.length = P.cellsOf e) ∧ css.length ≤ maxLen := by
  obtain ⟨as, h1, rfl⟩ := h
  obtain ⟨n, rfl, h2⟩ := shape_slice hu h1
  rw [isRowT_one hu (fun _ => by simp) (fun _ _ => by simp)]
  exact ⟨n, rfl, h2⟩
theorem shape_i64 {P : Program} {t : TypeId} {as : List AV} (hu : P.underlying t = some (.int .i64)) (h : Shape P t as) : ∃ n : Int, as = [.v (.int .i64 n)] ∧ -9223372036854775808 ≤ n ∧ n < 9223372036854775808 := by
  obtain ⟨n, rfl, h1, h2⟩ := shape_int hu h
  simp [IntKind.min, IntKind.max, IntKind.bits, IntKind.signed] at h1 h2
  exact ⟨n, rfl, by omega, by omega⟩
theorem shape_u64 {P : Program} {t : TypeId} {as : List AV} (hu : P.underlying t = some (.int .u64)) (h : Shape P t as) : ∃ n : Nat, as = [.v (.int .u64 n)] ∧ n < 18446744073709551616 := by
  obtain ⟨n, rfl, h1, h2⟩ := shape_int hu h
  simp [IntKind.min, IntKind.max, IntKind.bits, IntKind.signed] at h1 h2
  exact ⟨n.toNat, by rw [Int.toNat_of_nonneg h1], by omega⟩
/-- a list of rows: what each row is, all are -/
theorem rows_of {P : Program} {α : Type} {f : α → List AV} {e : TypeId} {R : α → Prop} (hr : ∀ c, Shape P e c → ∃ a, c = f a ∧ R a) : ∀ css : List (List AV), (∀ c ∈ css, Shape P e c) →
    ∃ l : List α, css.flatten = l.flatMap f ∧ l.length = css.length ∧ ∀ a ∈ l, R a
  | [], _ => ⟨[], rfl, rfl, by simp⟩
  | c :: css, h => by
    obtain ⟨l, h1, h2, h3⟩ := rows_of hr css (fun c hc => h c (by simp [hc]))
    obtain ⟨a, rfl, ha⟩ := hr c (h c (by simp))
    exact ⟨a :: l, by simp [h1], by simp [h2], by simpa using ⟨ha, h3⟩⟩
theorem arg_rows {P : Program} {α : Type} {f : α → List AV} {t e : TypeId} {R : α → Prop} {a : AV} (hu : P.underlying t = some (.slice e)) (hr : ∀ c, Shape P e c → ∃ a, c = f a ∧ R a) (h : ShapeA P t a) :
    ∃ l : List α, a = .z (l.flatMap f) l.length ∧ (∀ a ∈ l, R a) ∧ l.length ≤ maxLen := by
  obtain ⟨css, rfl, h1, _, h3⟩ := arg_slice hu h
  obtain ⟨l, e1, e2, e3⟩ := rows_of hr css h1
  exact ⟨l, by rw [e1, e2], e3, by rw [e2]; exact h3⟩
theorem u8_of {n : Int} (h1 : 0 ≤ n) (h2 : n ≤ 255) : ∃ b : UInt8, n = b.toNat := ⟨UInt8.ofNat n.toNat, by rw [UInt8.toNat_ofNat_of_lt' (by simp [UInt8.size]; omega)]; omega⟩
theorem bytes_of {P : Program} {e : TypeId} (hu : P.underlying e = some (.int .u8)) : ∀ css : List (List AV), (∀ c ∈ css, Shape P e c) → ∃ l : List UInt8, css.flatten = byt l ∧ l.length = css.length
  | [], _ => ⟨[], rfl, rfl⟩
  | c :: css, h => by
    obtain ⟨l, h1, h2⟩ := bytes_of hu css (fun c hc => h c (by simp [hc]))
    obtain ⟨n, rfl, h3, h4⟩ := shape_int hu (h c (by simp))
    obtain ⟨b, rfl⟩ := u8_of (by simpa [IntKind.min, IntKind.signed] using h3) (by simpa [IntKind.max, IntKind.bits, IntKind.signed] using h4)
    exact ⟨b :: l, by simp [byt_cons, h1], by simp [h2]⟩
theorem shape_bytes {P : Program} {t e : TypeId} {as : List AV} (hu : P.underlying t = some (.slice e)) (he : P.underlying e = some (.int .u8)) (h : Shape P t as) : ∃ l : List UInt8, as = [.z (byt l) l.length] ∧ l.length ≤ maxLen := by
  obtain ⟨css, rfl, h1, h2, h3⟩ := shape_slice hu h
  obtain ⟨l, h4, h5⟩ := bytes_of he css h1
  exact ⟨l, by rw [h4, h5], by rw [h5]; exact h3⟩
theorem arg_bytes {P : Program} {t e : TypeId} {a : AV} (hu : P.underlying t = some (.slice e)) (he : P.underlying e = some (.int .u8)) (h : ShapeA P t a) : ∃ l : List UInt8, a = .z (byt l) l.length ∧ l.length ≤ maxLen := by
  obtain ⟨as, h1, rfl⟩ := h
  obtain ⟨n, rfl, h2⟩ := shape_bytes hu he h1
  rw [isRowT_one hu (fun _ => by simp) (fun _ _ => by simp)]
  exact ⟨n, rfl, h2⟩
end Go.Ab

namespace Go.Ab
section
variable {X : Ctx} {f : FuncId} {fn : Func} {h : Heap} {K : Kt}
/-- where a byte stands, for the first time -/
theorem acall_index_str {l : List UInt8} {c : UInt8} (hf : X.P.funcs[f]? = some fn) (hname : (fn.name == "runtime.NumGoroutine") = false) (hb : fn.body.isNone = true) (hn : Extern.findNext fn = none)
    (he : Extern.find fn = some Extern.BytealgIndexByte.indexByte) (hK : K.K (.v (.int .i64 (Lib.indexByte l c))) h) : ACall X f [.v (.string (mkStr l)), .v (.int .u8 c.toNat)] h K := by
  intro μ Z w vs hr hv
  cases hv with
  | cons a hv =>
    cases a
    cases hv with
    | cons a hv =>
      cases a; cases hv
      refine .inr (.inl ⟨.int .i64 (Lib.indexByte l c), w, ?_, _, h, μ, Z, hK, hr, .v _, Ext.refl μ Z w h (Nat.le_refl _)⟩)
      rw [run_callFunc_extern hf hname hb hn he, Lib.run_indexByteString]
      simp [mkStr, Result.andThen]
theorem u8s_of {μ : Mu} {Z : Nat → Prop} {w : World} : ∀ {us : List Value} {l : List UInt8}, RVs μ Z w us (byt l) → us = l.map fun b => Value.int .u8 b.toNat
  | [], [], _ => rfl
  | _ :: _, b :: l, .cons h1 h2 => by cases h1; rw [u8s_of h2]; rfl
  | _ :: _, [], h => by cases h
  | [], _ :: _, h => by cases h
theorem run_index_at {P : Program} {w : World} (ad : Addr) (l : List UInt8) (cap : Nat) (c : UInt8) (hc : ∀ (j : Nat) (u : UInt8), l[j]? = some u → w.cell? (ad.add j) = some (.int .u8 u.toNat)) :
    (Extern.BytealgIndexByte.indexByte #[.slice (some ad) l.length cap, .int .u8 c.toNat]).run P w = .ok (.int .i64 (Lib.indexByte l c)) w := by
  have hl := Lib.run_loadBytesX (P := P) w (l.map fun b => (b.toNat : Int)) ad .empty (fun j x hj => by
    rw [List.getElem?_map] at hj
    cases hu : l[j]? with
    | none => rw [hu] at hj; cases hj
    | some u => rw [hu] at hj; cases hj; exact hc j u hu)
  have eb : Lib.bytesOf (l.map fun b => (b.toNat : Int)) = l := by
    unfold Lib.bytesOf
    rw [List.map_map]
    conv => rhs; rw [← List.map_id l]
    apply List.map_congr_left
    intro b _
    simp
  rw [List.length_map, eb] at hl
  have hs := Lib.run_indexByteString (P := P) ⟨l.toArray⟩ c.toNat w
  have he : (⟨ByteArray.empty.data ++ l.toArray⟩ : ByteArray) = ⟨l.toArray⟩ := by
    apply ByteArray.ext
    show (#[] : Array UInt8) ++ l.toArray = l.toArray
    simp
  rw [he] at hl
  have ec : ((c.toNat : Int)).toNat.toUInt8 = c := by simp
  rw [ec] at hs
  change Sem.run P (do
    let b ← Extern.Bytes.bytesOf (.slice (some ad) l.length cap)
    let c ← Extern.Bytes.asByte (.int .u8 c.toNat)
    match (List.range b.size).find? fun i => b[i]! == c with
    | some i => pure (goInt i)
    | none => pure (goInt (-1))) w = _
  change Sem.run P (do
    let b ← Extern.Bytes.bytesOf (.string ⟨l.toArray⟩)
    let c ← Extern.Bytes.asByte (.int .u8 c.toNat)
    match (List.range b.size).find? fun i => b[i]! == c with
    | some i => pure (goInt i)
    | none => pure (goInt (-1))) w = _ at hs
  simp only [Extern.Bytes.bytesOf, Sem.run_bind, Sem.run_pure, hl, Result.andThen] at hs ⊢
  exact hs
theorem acall_index_z {l : List UInt8} {c : UInt8} (hf : X.P.funcs[f]? = some fn) (hname : (fn.name == "runtime.NumGoroutine") = false) (hb : fn.body.isNone = true) (hn : Extern.findNext fn = none)
    (he : Extern.find fn = some Extern.BytealgIndexByte.indexByte) (hK : K.K (.v (.int .i64 (Lib.indexByte l c))) h) : ACall X f [.z (byt l) l.length, .v (.int .u8 c.toNat)] h K := by
  intro μ Z w vs hr hv
  cases hv with
  | cons a hv =>
    cases hv with
    | cons a2 hv =>
      cases a2; cases hv
      cases a with
      | @z A _ cap us _ hus hc hle =>
        refine .inr (.inl ⟨.int .i64 (Lib.indexByte l c), w, ?_, _, h, μ, Z, hK, hr, .v _, Ext.refl μ Z w h (Nat.le_refl _)⟩)
        rw [run_callFunc_extern hf hname hb hn he]
        have eu := u8s_of hus
        subst eu
        cases A with
        | none =>
          have hl0 : l = [] := by
            cases l with
            | nil => rfl
            | cons b l => obtain ⟨ad, e, _⟩ := hc 0 _ rfl; cases e
          subst hl0
          rw [Lib.run_indexByteNil]
          rfl
        | some ad =>
          rw [run_index_at ad l cap c (fun j u hu => by
            obtain ⟨ad', e, _, e2, _⟩ := hc j (.int .u8 u.toNat) (by rw [List.getElem?_map, hu]; rfl)
            cases e; exact e2)]
          rfl
end
end Go.Ab

namespace Go.Ab

/-- a table of whole numbers that is laid: what its cells hold -/
theorem laid_ints {P : Program} {W : World} {name : String} {g T E : Nat} {k : IntKind} {l : List Int} (hp : name = name) (hg : P.globalNamed name = some g) (hT : (P.globals[g]?).map (·.type) = some T)
    (hu : P.underlying T = some (.array l.length E)) (hE : P.underlying E = some (.int k)) (hc : P.cellsOf E = 1) (hc2 : P.cellsOf T = l.length)
    (hl : laidMetH P [(name, .agg (l.map fun n => .lit (.int k n)))] W) (h0 : ([(name, (.agg (l.map fun n => .lit (.int k n)) : DataW Unit))].all fun x => x.2.handleName?.isNone) = true) :
    ∀ (j : Nat) (n : Int), l[j]? = some n → W.cell? ⟨g, j, none⟩ = some (.int k n) := by
  rw [MakeChecks.laidMetH_plain _ _ _ h0] at hl
  obtain ⟨ps, ⟨g0, t0, cs0, f0, p0, q0, hg0, ht0, hv0, hd0, _, _⟩, _, _⟩ := hl
  obtain rfl := Option.some.inj (hg.symm.trans hg0)
  obtain rfl := Option.some.inj (hT.symm.trans ht0)
  obtain ⟨xs, m1, rfl, hx1, hlen, hn3, hel⟩ := DataW.trod_array hu hd0
  simp only [Prod.mk.injEq, DataW.agg.injEq] at hx1
  intro j n hj
  have hjl : j < l.length := (List.getElem?_eq_some_iff.1 hj).1
  have h1 := hel j hjl
  rw [List.getElem?_eq_getElem (by omega), hc] at h1
  obtain ⟨n', e1, e2, _⟩ := DataW.trod_int hE h1
  have e3 : xs[j].1 = .lit (.int k n) := by
    have := congrArg (·[j]?) hx1.1
    simp only [List.getElem?_map, hj, Option.map_some] at this
    rw [List.getElem?_eq_getElem (by omega)] at this
    simpa using this.symm
  rw [e2] at e3
  have e4 : n' = n := by simpa using e3
  subst e4
  rw [World.var?_cell hg hv0 j, ← Array.getElem?_toList]
  have := congrArg (·[0]?) e1
  simp only [List.getElem?_take_of_lt (show 0 < 1 by omega), List.getElem?_drop, List.getElem?_cons_zero, Nat.mul_one, Nat.add_zero] at this
  exact this
end Go.Ab

namespace Go.Ab
/-! A function that is lent memory as data, over the empty heap, and hands back new memory: what it hands back stands behind the caller's heap. -/
mutual
def AV.own : AV → Bool
  | .v _ => true
  | .bad => true
  | .p _ _ => true
  | .s _ _ _ => true
  | .m _ => true
  | .g cs => owns cs
  | .t cs => owns cs
  | .i _ x => x.own
  | .f _ as bs => owns as && owns bs
  | .z _ _ => false
  | .q _ _ => false
  | .w _ _ _ => false
def owns : List AV → Bool
  | [] => true
  | a :: as => a.own && owns as
end
mutual
def shf (k : Nat) : AV → AV
  | .v x => .v x
  | .bad => .bad
  | .p id o => .p (k + id) o
  | .s id o l => .s (k + id) o l
  | .m id => .m (k + id)
  | .g cs => .g (shfs k cs)
  | .t cs => .t (shfs k cs)
  | .i t x => .i t (shf k x)
  | .f fn as bs => .f fn (shfs k as) (shfs k bs)
  | .z cs n => .z cs n
  | .q cs n => .q cs n
  | .w i o l => .w i o l
def shfs (k : Nat) : List AV → List AV
  | [] => []
  | a :: as => shf k a :: shfs k as
end
def shO (k : Nat) : AO → AO
  | .o sz cs => if owns cs = true then .o sz (shfs k cs) else .dead
  | _ => .dead
theorem shO_o (k sz : Nat) (cs : List AV) : shO k (.o sz cs) = if owns cs = true then .o sz (shfs k cs) else .dead := rfl
section
variable {X : Ctx} {μ μ' μ2 : Mu} {Z Z' : Nat → Prop} {w w' : World} {h : Heap} {K : Kt} {k : Nat}
mutual
theorem shf_rv (hm : ∀ id, μ2 (k + id) = μ' id) : ∀ {v : Value} {a : AV}, a.own = true → RV μ' Z' w v a → RV μ2 Z w v (shf k a)
  | _, .v x, _, .v _ => by unfold shf; exact .v _
  | _, .bad, _, .bad _ => by unfold shf; exact .bad _
  | _, .p id o, _, .p h => by unfold shf; exact .p ((hm id).trans h)
  | _, .s id o l, _, .s h1 h2 h3 h4 => by unfold shf; exact .s ((hm id).trans h1) h2 h3 h4
  | _, .s id o _, _, .snil => by unfold shf; exact .snil
  | _, .m id, _, .m h => by unfold shf; exact .m ((hm id).trans h)
  | _, .g cs, ho, .g h => by unfold shf; exact .g (shfs_rv hm (by simpa [AV.own] using ho) h)
  | _, .t cs, ho, .t h => by unfold shf; exact .t (shfs_rv hm (by simpa [AV.own] using ho) h)
  | _, .i t x, ho, .i h => by unfold shf; exact .i (shf_rv hm (by simpa [AV.own] using ho) h)
  | _, .f fn as bs, ho, .f h1 h2 => by
    simp only [AV.own, Bool.and_eq_true] at ho
    unfold shf; exact .f (shfs_rv hm ho.1 h1) (shfs_rv hm ho.2 h2)
theorem shfs_rv (hm : ∀ id, μ2 (k + id) = μ' id) : ∀ {vs : List Value} {as : List AV}, owns as = true → RVs μ' Z' w vs as → RVs μ2 Z w vs (shfs k as)
  | _, [], _, .nil => by unfold shfs; exact .nil
  | _, _ :: _, ho, .cons h h1 => by
    simp only [owns, Bool.and_eq_true] at ho
    unfold shfs; exact .cons (shf_rv hm ho.1 h) (shfs_rv hm ho.2 h1)
end
theorem shfs_len : ∀ l : List AV, (shfs k l).length = l.length
  | [] => by unfold shfs; rfl
  | a :: l => by unfold shfs; simp [shfs_len l]
theorem shfs_nil {l : List AV} (h : l = []) : shfs k l = [] := by subst h; unfold shfs; rfl

theorem acall_lendN {f : FuncId} {args args' : List AV} {K' : Kt} (hg : ∀ g, flats (X.glob g) = true) (hl : Lends h args args') (H : ACall X f args' [] K')
    (hK : ∀ r h2, K'.K r h2 → r.own = true ∧ K.K (shf h.length r) (h ++ h2.map (shO h.length))) : ACall X f args h K := by
  intro μ Z w vs hr hv
  have hr0 : HR X (fun _ => none) (fun x => x < w.heap.size) w [] := ⟨fun i => by rw [show ([] : Heap).getD i .dead = .dead from rfl]; trivial, fun i j b ⟨h1, _⟩ => absurd rfl h1, fun b hb => hb, fun _ _ => rfl,
    fun b ⟨i, h1, _⟩ => absurd rfl h1, fun g hgl => by
      obtain ⟨us, e1, e2⟩ := hr.glob g hgl
      exact ⟨us, flats_rv (fun b hb => hr.zlt b hb) (hg g) e1, fun j u hu => by obtain ⟨a, b⟩ := e2 j u hu; exact ⟨hr.zlt _ a, b⟩⟩⟩
  have hf0 : ∀ b, ¬ foot (fun _ => none) [] b := fun b ⟨i, h1, _⟩ => absurd rfl h1
  refine (H _ _ w vs hr0 (lends_rv hr hv hl)).mono ?_
  rintro v w' ⟨r, h2, μ', Z', e1, e2, e3, e4⟩
  obtain ⟨k1, k3⟩ := hK r h2 e1
  have hbl : ∀ b, b < w.heap.size → w'.heap[b]? = w.heap[b]? := fun b hb => e4.block b hb (hf0 b)
  let μ2 : Mu := fun id => if id < h.length then μ id else μ' (id - h.length)
  have hm2 : ∀ id, μ2 (h.length + id) = μ' id := fun id => by
    simp only [μ2]
    rw [if_neg (by omega), Nat.add_sub_cancel_left]
  have hm1 : ∀ id, id < h.length → μ2 id = μ id := fun id hi => by simp only [μ2]; rw [if_pos hi]
  have m : Mov μ Z w μ2 Z w' := ⟨fun id x hx => by
      have hi : id < h.length := by
        rcases Nat.lt_or_ge id h.length with hi | hi
        · exact hi
        · rw [hr.dom id hi] at hx; cases hx
      rw [hm1 id hi]; exact hx, fun _ h => h, fun b hb => hbl b (hr.zlt b hb), fun b c e f hb => ⟨c, f, (hbl b (Array.getElem?_eq_some_iff.1 hb).1).trans hb, rfl⟩⟩
  have get1 : ∀ i, i < h.length → (h ++ h2.map (shO h.length)).getD i .dead = h.getD i .dead := fun i hi => by
    rw [List.getD_eq_getElem?_getD, List.getElem?_append_left hi, ← List.getD_eq_getElem?_getD]
  have get2 : ∀ i, h.length ≤ i → (h ++ h2.map (shO h.length)).getD i .dead = shO h.length (h2.getD (i - h.length) .dead) := fun i hi => by
    rw [List.getD_eq_getElem?_getD, List.getElem?_append_right hi, List.getElem?_map, List.getD_eq_getElem?_getD]
    cases h2[i - h.length]? <;> rfl
  have live1 : ∀ i b, i < h.length → (lives μ2 (h ++ h2.map (shO h.length)) i b ↔ lives μ h i b) := fun i b hi => by
    unfold lives; rw [get1 i hi, hm1 i hi]
  have live2 : ∀ i b, h.length ≤ i → lives μ2 (h ++ h2.map (shO h.length)) i b → lives μ' h2 (i - h.length) b := fun i b hi hl => by
    obtain ⟨a1, a2⟩ := hl
    refine ⟨fun e => a1 (by rw [get2 i hi, e]; rfl), ?_⟩
    have : μ2 i = μ' (i - h.length) := by
      have := hm2 (i - h.length)
      rwa [show h.length + (i - h.length) = i by omega] at this
    rw [← this]; exact a2
  have new2 : ∀ i b, lives μ' h2 i b → w.heap.size ≤ b := fun i b hl => by
    rcases e4.foot b ⟨i, hl⟩ with h | h
    · exact absurd h (hf0 b)
    · exact h
  refine ⟨shf h.length r, _, μ2, Z, k3, ⟨fun i => ?_, fun i j b hi hj => ?_, fun b hb => Nat.lt_of_lt_of_le (hr.zlt b hb) e4.size, fun i hi => ?_, ?_, fun g hgl => ?_⟩, shf_rv hm2 k1 e3,
    ⟨fun i hi => hm1 i hi, fun _ h => h, fun _ h => .inl h, e4.os, e4.tape, e4.output, e4.size, fun b hb _ => hbl b hb, e4.cells, ?_, by simp⟩⟩
  · rcases Nat.lt_or_ge i h.length with hi | hi
    · rw [get1 i hi]
      exact (hr.obj i).mono m (hm1 i hi) (fun hd b o s hm => ⟨hbl b (foot_lt hr ⟨hd, o, s, hm⟩), hr.apart b ⟨i, hd, o, s, hm⟩⟩)
    · rw [get2 i hi]
      have hob := e2.obj (i - h.length)
      have hmi : μ2 i = μ' (i - h.length) := by
        have := hm2 (i - h.length)
        rwa [show h.length + (i - h.length) = i by omega] at this
      cases ho : h2.getD (i - h.length) .dead with
      | dead => trivial
      | m es => trivial
      | k b f t => trivial
      | o sz cs =>
        rw [ho] at hob
        by_cases hown : owns cs = true
        case neg => rw [shO_o, if_neg hown]; trivial
        rw [shO_o, if_pos hown]
        unfold RO
        unfold RO at hob
        rw [hmi]
        cases hmu : μ' (i - h.length) with
        | none =>
          rw [hmu] at hob
          simp only at hob ⊢
          exact shfs_nil hob
        | some p =>
          obtain ⟨b, o, s'⟩ := p
          rw [hmu] at hob
          simp only at hob ⊢
          obtain ⟨q1, q2, c, e, f, us, q3, q4, q5, q6, q7⟩ := hob
          have hnew := new2 (i - h.length) b ⟨by rw [ho]; simp, o, s', hmu⟩
          exact ⟨q1, fun hz => by have := hr.zlt b hz; omega, c, e, f, us, q3, q4, by rw [shfs_len]; exact q5, q6, shfs_rv hm2 hown q7⟩
  · rcases Nat.lt_or_ge i h.length with hi1 | hi1
    · rcases Nat.lt_or_ge j h.length with hj1 | hj1
      · exact hr.inj i j b ((live1 i b hi1).1 hi) ((live1 j b hj1).1 hj)
      · have a := foot_lt hr ((live1 i b hi1).1 hi)
        have c := new2 _ b (live2 j b hj1 hj)
        omega
    · rcases Nat.lt_or_ge j h.length with hj1 | hj1
      · have a := foot_lt hr ((live1 j b hj1).1 hj)
        have c := new2 _ b (live2 i b hi1 hi)
        omega
      · have := e2.inj _ _ b (live2 i b hi1 hi) (live2 j b hj1 hj)
        omega
  · simp only [List.length_append, List.length_map] at hi
    have := hm2 (i - h.length)
    rw [show h.length + (i - h.length) = i by omega] at this
    rw [this]
    exact e2.dom _ (by omega)
  · rintro b ⟨i, hi⟩ hz
    rcases Nat.lt_or_ge i h.length with hi1 | hi1
    · exact hr.apart b ⟨i, (live1 i b hi1).1 hi⟩ hz
    · have c := new2 _ b (live2 i b hi1 hi)
      have := hr.zlt b hz
      omega
  · obtain ⟨us, q1, q2⟩ := hr.glob g hgl
    refine ⟨us, q1.mono m, fun j u hu => ?_⟩
    obtain ⟨a1, a2, a3⟩ := q2 j u hu
    exact ⟨a1, by rw [cell_same (hbl g (hr.zlt g a1))]; exact a2, a3⟩
  · rintro b ⟨i, hi⟩
    rcases Nat.lt_or_ge i h.length with hi1 | hi1
    · exact .inl ⟨i, (live1 i b hi1).1 hi⟩
    · exact .inr (new2 _ b (live2 i b hi1 hi))
/-- values without memory stay as they are -/
theorem shfs_scals {l : List AV} (h : ∀ a ∈ l, ∃ x, a = .v x) : shfs k l = l ∧ owns l = true := by
  induction l with
  | nil => exact ⟨by unfold shfs; rfl, rfl⟩
  | cons a l ih =>
    obtain ⟨x, rfl⟩ := h a (by simp)
    obtain ⟨i1, i2⟩ := ih (fun b hb => h b (by simp [hb]))
    exact ⟨by unfold shfs shf; rw [i1], by simp [owns, AV.own, i2]⟩
theorem shO_at {h2 : Heap} {id sz : Nat} {cs : List AV} (e : h2.getD id .dead = .o sz cs) (hs : ∀ a ∈ cs, ∃ x, a = .v x) : (h ++ h2.map (shO h.length)).getD (h.length + id) .dead = .o sz cs := by
  refine hgets h id ?_
  obtain ⟨i1, i2⟩ := shfs_scals (k := h.length) hs
  rw [List.getD_eq_getElem?_getD] at e ⊢
  rw [List.getElem?_map]
  cases hx : h2[id]? with
  | none => rw [hx] at e; cases e
  | some o =>
    rw [hx] at e
    have e : o = .o sz cs := e
    subst e
    show shO h.length (.o sz cs) = _
    rw [shO_o, if_pos i2, i1]
end
end Go.Ab

namespace Go.Ab

/-- to see a value otherwise: forgotten; nil as a list without elements -/
def See (a b : AV) : Prop := b = a ∨ b = .bad ∨ (a = .v (.slice none 0 0) ∧ b = .z [] 0)
def SeeL : List AV → List AV → Prop
  | [], [] => True
  | a :: as, b :: bs => See a b ∧ SeeL as bs
  | _, _ => False
theorem See.rv {μ : Mu} {Z : Nat → Prop} {w : World} {v : Value} {a b : AV} (s : See a b) (h : RV μ Z w v a) : RV μ Z w v b := by
  rcases s with rfl | rfl | ⟨rfl, rfl⟩
  · exact h
  · exact .bad _
  · cases h; exact .z (us := []) .nil (fun j u hj => by simp at hj) (Nat.le_refl _)
theorem SeeL.rv {μ : Mu} {Z : Nat → Prop} {w : World} : ∀ {vs : List Value} {a b : List AV}, SeeL a b → RVs μ Z w vs a → RVs μ Z w vs b
  | _, [], [], _, h => h
  | _, _ :: _, _ :: _, s, .cons h1 h2 => .cons (s.1.rv h1) (SeeL.rv s.2 h2)
  | _, [], _ :: _, s, _ => s.elim
  | _, _ :: _, [], s, _ => s.elim
theorem SeeL.len : ∀ {a b : List AV}, SeeL a b → b.length = a.length
  | [], [], _ => rfl
  | _ :: _, _ :: _, h => by simp [SeeL.len h.2]
  | [], _ :: _, h => h.elim
  | _ :: _, [], h => h.elim
theorem See.refl (a : AV) : See a a := .inl rfl
theorem SeeL.refl : ∀ a : List AV, SeeL a a
  | [] => trivial
  | a :: as => ⟨.inl rfl, SeeL.refl as⟩

theorem weak_see {X : Ctx} {n : Nat} {tm tm' : List AV} {h h2 : Heap} (hn : n ≤ h.length) (ht : SeeL tm tm') (hl : h2.length = h.length)
    (he : ∀ i, h2.getD i .dead = h.getD i .dead ∨ h2.getD i .dead = .dead ∨ ∃ s c c', h.getD i .dead = .o s c ∧ h2.getD i .dead = .o s c' ∧ SeeL c c') : Weak X n (tm, h) (tm', h2) := by
  intro μ Z w us hr hv
  have live2 : ∀ i b, lives μ h2 i b → lives μ h i b := by
    rintro i b ⟨e1, e2⟩
    refine ⟨?_, e2⟩
    rcases he i with e | e | ⟨s, c, c', e, _⟩
    · rw [← e]; exact e1
    · exact absurd e e1
    · rw [e]; simp
  refine ⟨μ, Z, ⟨fun i => ?_, fun i j b hi hj => hr.inj i j b (live2 i b hi) (live2 j b hj), hr.zlt, fun i hi => hr.dom i (by rw [← hl]; exact hi), fun b ⟨i, hi⟩ => hr.apart b ⟨i, live2 i b hi⟩, hr.glob⟩, ht.rv hv,
    ⟨fun _ _ => rfl, fun _ h => h, fun _ h => .inl h, rfl, rfl, rfl, Nat.le_refl _, fun _ _ _ => rfl, fun b c e f hb => ⟨c, f, hb, rfl⟩, fun b ⟨i, hi⟩ => .inl ⟨i, live2 i b hi⟩, by show n ≤ h2.length; rw [hl]; exact hn⟩⟩
  rcases he i with e | e | ⟨s, c, c', e1, e2, hs⟩
  · rw [e]; exact hr.obj i
  · rw [e]; trivial
  · have hob := hr.obj i
    rw [e1] at hob
    rw [e2]
    unfold RO at hob ⊢
    cases hmu : μ i with
    | none =>
      rw [hmu] at hob
      simp only at hob ⊢
      subst hob
      cases c' with
      | nil => rfl
      | cons _ _ => exact hs.elim
    | some p =>
      obtain ⟨b, o, s'⟩ := p
      rw [hmu] at hob
      simp only at hob ⊢
      obtain ⟨e3, e4, c2, e', f', us', e5, e6, e7, e8, e9⟩ := hob
      exact ⟨e3, e4, c2, e', f', us', e5, e6, by rw [hs.len]; exact e7, e8, hs.rv e9⟩
/-- one object seen otherwise -/
theorem weak_see1 {X : Ctx} {n id s : Nat} {tm tm' c c' : List AV} {h : Heap} (hn : n ≤ h.length) (ht : SeeL tm tm') (hid : h.getD id .dead = .o s c) (hs : SeeL c c') : Weak X n (tm, h) (tm', h.set id (.o s c')) := by
  have hl := hlt hid (by simp)
  refine weak_see hn ht (by simp) fun i => ?_
  by_cases hi : id = i
  · subst hi; exact .inr (.inr ⟨s, c, c', hid, hget_set hl, hs⟩)
  · exact .inl (hget_set_ne hi)
/-- what was made is forgotten -/
theorem weak_slots {X : Ctx} {n : Nat} {tm tm' : List AV} {h : Heap} (hn : n ≤ h.length) (ht : SeeL tm tm') : Weak X n (tm, h) (tm', h) := weak_see hn ht rfl fun _ => .inl rfl
end Go.Ab

namespace Go.Ab
abbrev I (n : Int) : AV := .v (.int .i64 n)
abbrev U (n : Int) : AV := .v (.int .u64 n)
abbrev Bo (b : Bool) : AV := .v (.bool b)

/-- package cursor's Cursor -/
structure Cur where
  b : List UInt8
  p : Nat
  e : Int
def cur (c : Cur) : AO := .o 1 [.z (byt c.b) c.b.length, I c.p, Bo true, I c.e]
structure Cur.inv (c : Cur) : Prop where
  p : c.p ≤ c.b.length
  b : c.b.length < 9223372036854775808
def Cur.left (c : Cur) : Nat := if c.e = 0 then c.b.length - c.p else 0
/-- the next n bytes, if there are so many -/
def Cur.got (c : Cur) (n : Nat) : List UInt8 := if c.e = 0 ∧ n ≤ c.b.length - c.p then (c.b.drop c.p).take n else []
def Cur.skip (c : Cur) (n : Nat) : Cur := if c.e = 0 then (if n ≤ c.b.length - c.p then { c with p := c.p + n } else { c with e := 10 }) else c
def Cur.fail (c : Cur) (e : Int) : Cur := if c.e = 0 then { c with e := e } else c
def Cur.seek (c : Cur) (n : Nat) : Cur := if c.e = 0 then (if n ≤ c.b.length then { c with p := n } else { c with e := 10 }) else c
def Cur.fin (c : Cur) : Int := if c.left > 0 then 2 else c.e
theorem Cur.inv.skip {c : Cur} (hi : c.inv) (n : Nat) : (c.skip n).inv := by
  obtain ⟨h1, h2⟩ := hi
  unfold Cur.skip; split
  · split
    · exact ⟨by simp only; omega, h2⟩
    · exact ⟨h1, h2⟩
  · exact ⟨h1, h2⟩
theorem Cur.inv.fail {c : Cur} (hi : c.inv) (e : Int) : (c.fail e).inv := by
  obtain ⟨h1, h2⟩ := hi
  unfold Cur.fail; split <;> exact ⟨h1, h2⟩
theorem Cur.inv.seek {c : Cur} (hi : c.inv) (n : Nat) : (c.seek n).inv := by
  obtain ⟨h1, h2⟩ := hi
  unfold Cur.seek; split
  · split
    · rename_i h; exact ⟨h, h2⟩
    · exact ⟨h1, h2⟩
  · exact ⟨h1, h2⟩
theorem Cur.mki {b : List UInt8} {p : Nat} {e : Int} (h1 : p ≤ b.length) (h2 : b.length < 9223372036854775808) : (⟨b, p, e⟩ : Cur).inv := ⟨h1, h2⟩
theorem le_one (x : UInt8) : le [x] = x.toNat := by simp [le]
theorem Cur.got1 {b : List UInt8} {p : Nat} (h : p < b.length) : (⟨b, p, 0⟩ : Cur).got 1 = [b.getD p 0] := by
  unfold Cur.got
  rw [if_pos ⟨rfl, by show 1 ≤ b.length - p; omega⟩]
  show (b.drop p).take 1 = _
  rw [List.drop_eq_getElem_cons h, List.take_succ_cons, List.take_zero, List.getD_eq_getElem?_getD, List.getElem?_eq_getElem h]; rfl
theorem Cur.skips {b : List UInt8} {p n : Nat} (h : p + n ≤ b.length) : (⟨b, p, 0⟩ : Cur).skip n = ⟨b, p + n, 0⟩ := by
  unfold Cur.skip
  rw [if_pos rfl, if_pos (by show n ≤ b.length - p; omega)]
theorem Cur.gots {b : List UInt8} {p n : Nat} (h : p + n ≤ b.length) : (⟨b, p, 0⟩ : Cur).got n = (b.drop p).take n := by
  unfold Cur.got
  rw [if_pos ⟨rfl, by show n ≤ b.length - p; omega⟩]
theorem cur_ne (c : Cur) : cur c ≠ .dead := by simp [cur]
def wid (n : Int) : Nat := (min (max n 0) 8).toNat
theorem wid_le (n : Int) : wid n ≤ 8 := by unfold wid; omega
theorem Cur.got_len {c : Cur} (n : Nat) : (c.got n).length ≤ n := by
  unfold Cur.got; split
  · rw [List.length_take]; omega
  · simp
/-- what New leaves, its bytes seen as data -/
theorem weak_new {X : Ctx} {h : Heap} {l : List UInt8} {m : Nat} : Weak X h.length ([.p (h.length + 2) 0], h ++ [.dead, .o 1 (byt l), .o 1 [.s (h.length + 1) 0 l.length, I m, Bo true, I 0]])
    ([.p (h.length + 2) 0], h ++ [.dead, .dead, .o 1 [.z (byt l) l.length, I m, Bo true, I 0]]) := by
  have := weak_freeze (X := X) (h := h ++ [.dead, .o 1 (byt l), .o 1 [.s (h.length + 1) 0 l.length, I m, Bo true, I 0]]) (n := h.length) (id := h.length + 1) (sz := 1) (cs := byt l)
    (tm := [.p (h.length + 2) 0]) (h2 := h ++ [.dead, .dead, .o 1 [.z (byt l) l.length, I m, Bo true, I 0]]) ?_ (by simp) (by simp) ?_ ?_
  · have e : frzs (fun j => if j = h.length + 1 then some (1, byt l) else none) [.p (h.length + 2) 0] = [.p (h.length + 2) 0] := by
      simp [frzs, frz]
    rw [e] at this; exact this
  · simp [List.getD_eq_getElem?_getD, List.getElem?_append]
  · simp [List.getD_eq_getElem?_getD, List.getElem?_append]
  · intro i hi
    by_cases h1 : i = h.length + 2
    · refine .inr ⟨1, [.s (h.length + 1) 0 l.length, I m, Bo true, I 0], ?_, ?_⟩
      · subst h1; simp [List.getD_eq_getElem?_getD, List.getElem?_append]
      · subst h1
        simp [List.getD_eq_getElem?_getD, List.getElem?_append, frzs, frz, frzS, ← byt_length l, List.take_length]
    · left
      simp only [List.getD_eq_getElem?_getD, List.getElem?_append]
      by_cases h2 : i < h.length
      · simp [h2]
      · simp only [h2, if_false]
        obtain ⟨k, rfl⟩ := Nat.exists_eq_add_of_le (Nat.le_of_not_lt h2)
        rw [Nat.add_sub_cancel_left]
        match k with
        | 0 => rfl
        | 1 => omega
        | 2 => omega
        | k + 3 => rfl
/-- the document's cursor -/
def rc (c : Cur) : AO := .o 1 [.z (byt c.b) c.b.length, I c.p, I c.e]
theorem rc_ne (c : Cur) : rc c ≠ .dead := by simp [rc]
theorem le_drop {l : List UInt8} {k : Nat} (h : k < l.length) : le (l.drop k) = (l.getD k 0).toNat + 256 * le (l.drop (k + 1)) := by
  rw [List.drop_eq_getElem_cons h, le, List.getD_eq_getElem?_getD, List.getElem?_eq_getElem h]; rfl
/-- what the document's Bytes leaves, seen as data: a list without elements stands for nil -/
theorem weak_sub {X : Ctx} {h : Heap} {e : Int} : Weak X h.length ([.p h.length 0], h ++ [.o 1 [.v (.slice none 0 0), I 0, I e]]) ([.p h.length 0], h ++ [.o 1 [.z [] 0, I 0, I e]]) := by
  have := weak_see1 (X := X) (n := h.length) (tm := [.p h.length 0]) (tm' := [.p h.length 0]) (h := h ++ [.o 1 [.v (.slice none 0 0), I 0, I e]]) (id := h.length) (s := 1) (c := [.v (.slice none 0 0), I 0, I e]) (c' := [.z [] 0, I 0, I e])
    (by simp) (SeeL.refl _) hget_new ⟨.inr (.inr ⟨rfl, rfl⟩), .inl rfl, .inl rfl, trivial⟩
  rw [hset_new] at this; exact this
theorem weak_sub2 {X : Ctx} {h : Heap} {l : List UInt8} {e : Int} : Weak X h.length ([.p (h.length + 2) 0], h ++ [.dead, .o 1 (byt l), .o 1 [.s (h.length + 1) 0 l.length, I 0, I e]])
    ([.p (h.length + 2) 0], h ++ [.dead, .dead, .o 1 [.z (byt l) l.length, I 0, I e]]) := by
  have := weak_freeze (X := X) (h := h ++ [.dead, .o 1 (byt l), .o 1 [.s (h.length + 1) 0 l.length, I 0, I e]]) (n := h.length) (id := h.length + 1) (sz := 1) (cs := byt l)
    (tm := [.p (h.length + 2) 0]) (h2 := h ++ [.dead, .dead, .o 1 [.z (byt l) l.length, I 0, I e]]) ?_ (by simp) (by simp) ?_ ?_
  · have e : frzs (fun j => if j = h.length + 1 then some (1, byt l) else none) [.p (h.length + 2) 0] = [.p (h.length + 2) 0] := by
      simp [frzs, frz]
    rw [e] at this; exact this
  · simp [List.getD_eq_getElem?_getD, List.getElem?_append]
  · simp [List.getD_eq_getElem?_getD, List.getElem?_append]
  · intro i hi
    by_cases h1 : i = h.length + 2
    · refine .inr ⟨1, [.s (h.length + 1) 0 l.length, I 0, I e], ?_, ?_⟩
      · subst h1; simp [List.getD_eq_getElem?_getD, List.getElem?_append]
      · subst h1
        simp [List.getD_eq_getElem?_getD, List.getElem?_append, frzs, frz, frzS, ← byt_length l, List.take_length]
    · left
      simp only [List.getD_eq_getElem?_getD, List.getElem?_append]
      by_cases h2 : i < h.length
      · simp [h2]
      · simp only [h2, if_false]
        obtain ⟨k, rfl⟩ := Nat.exists_eq_add_of_le (Nat.le_of_not_lt h2)
        rw [Nat.add_sub_cancel_left]
        match k with
        | 0 => rfl
        | 1 => omega
        | 2 => omega
        | k + 3 => rfl
theorem or_shift {a b k : Nat} (ha : a < 2 ^ k) : a ||| (b * 2 ^ k) = a + b * 2 ^ k := by
  rw [Nat.mul_comm b, Nat.or_comm, ← Nat.two_pow_add_eq_or_of_lt ha b, Nat.add_comm]
/-- n |= uint64(x) << (8 i) -/
theorem or_byte {a x i : Nat} (hi : i < 8) (ha : a < 256 ^ i) (hx : x < 256) :
    abits .or .u64 a (IntKind.u64.wrap ((x : Int) * 2 ^ min (Int.toNat (8 * (i : Int))) IntKind.u64.bits)) = ((a + x * 256 ^ i : Nat) : Int) := by
  have e8 : (256 : Nat) ^ i = 2 ^ (8 * i) := by rw [Nat.pow_mul]
  have hb : min (Int.toNat (8 * (i : Int))) IntKind.u64.bits = 8 * i := by
    simp only [IntKind.bits]; omega
  have hlt : (x : Nat) * 2 ^ (8 * i) < 2 ^ 64 := by
    have : 2 ^ (8 * i) * 256 ≤ 2 ^ 56 * 256 := Nat.mul_le_mul_right _ (Nat.pow_le_pow_right (by omega) (by omega))
    calc x * 2 ^ (8 * i) < 256 * 2 ^ (8 * i) := Nat.mul_lt_mul_of_pos_right hx (Nat.two_pow_pos _)
      _ ≤ 2 ^ 64 := by omega
  have ha2 : a < 2 ^ (8 * i) := by rw [← e8]; exact ha
  have ha3 : a < 2 ^ 64 := Nat.lt_of_lt_of_le ha2 (Nat.pow_le_pow_right (by omega) (by omega))
  rw [hb]
  have ew : IntKind.u64.wrap ((x : Int) * 2 ^ (8 * i)) = ((x * 2 ^ (8 * i) : Nat) : Int) := by
    have e0 : ((x : Int) * 2 ^ (8 * i)) = ((x * 2 ^ (8 * i) : Nat) : Int) := by push_cast; rfl
    rw [e0]
    exact wrap_u64 (Int.natCast_nonneg _) (by omega)
  rw [ew]
  change IntKind.u64.wrap (((BitVec.ofInt 64 (a : Int)) ||| (BitVec.ofInt 64 ((x * 2 ^ (8 * i) : Nat) : Int))).toNat : Int) = _
  have e1 : BitVec.ofInt 64 (a : Int) = BitVec.ofNat 64 a := by simp
  have e2 : BitVec.ofInt 64 ((x * 2 ^ (8 * i) : Nat) : Int) = BitVec.ofNat 64 (x * 2 ^ (8 * i)) := BitVec.ofInt_natCast ..
  rw [e1, e2, BitVec.toNat_or, BitVec.toNat_ofNat, BitVec.toNat_ofNat, Nat.mod_eq_of_lt ha3, Nat.mod_eq_of_lt hlt, or_shift ha2, e8]
  have : a + x * 2 ^ (8 * i) < 2 ^ 64 := by
    rw [← or_shift ha2]; exact Nat.or_lt_two_pow ha3 hlt
  exact wrap_u64 (Int.natCast_nonneg _) (by omega)
end Go.Ab

namespace Go.Ab
/-- a length's bytes -/
def lenB (n : Nat) (wide : Bool) : List UInt8 := if wide = true then leB 4 4294967295 ++ leB 8 n else leB 4 n
def lenW (wide : Bool) : Nat := if wide = true then 8 else 4
theorem wid_nat {n : Nat} (h : n ≤ 8) : wid (n : Int) = n := by unfold wid; omega
/-- what Take reads -/
def Cur.tk (c : Cur) : Nat × Bool × Cur :=
  if (c.skip 4).e ≠ 0 then (0, false, c.skip 4)
  else if le (c.got 4) < 4294967280 then (le (c.got 4), false, c.skip 4)
  else if le (c.got 4) ≠ 4294967295 then (0, false, (c.skip 4).fail 13)
  else (le ((c.skip 4).got 8), ((c.skip 4).skip 8).e == 0, (c.skip 4).skip 8)
theorem Cur.tk_inv {c : Cur} (h : c.inv) : c.tk.2.2.inv := by
  unfold Cur.tk
  split
  · exact h.skip 4
  · split
    · exact h.skip 4
    · split
      · exact (h.skip 4).fail 13
      · exact (h.skip 4).skip 8
theorem skip_b (c : Cur) (n : Nat) : (c.skip n).b = c.b := by unfold Cur.skip; split <;> (try split) <;> rfl
theorem fail_b (c : Cur) (n : Int) : (c.fail n).b = c.b := by unfold Cur.fail; split <;> rfl
theorem seek_b (c : Cur) (n : Nat) : (c.seek n).b = c.b := by unfold Cur.seek; split <;> (try split) <;> rfl
theorem Cur.tk_b (c : Cur) : c.tk.2.2.b = c.b := by
  unfold Cur.tk
  split
  · exact skip_b _ _
  · split
    · exact skip_b _ _
    · split
      · rw [fail_b, skip_b]
      · rw [skip_b, skip_b]
theorem got_err {c : Cur} {n : Nat} (h : (c.skip n).e ≠ 0) : c.got n = [] := by
  unfold Cur.got
  unfold Cur.skip at h
  rw [if_neg]
  rintro ⟨h1, h2⟩
  rw [if_pos h1, if_pos h2] at h
  exact h h1
theorem le_got_lt (c : Cur) (n : Nat) : le (c.got n) < 256 ^ n := by
  have h1 := le_lt (c.got n); have h2 := Cur.got_len (c := c) n
  exact Nat.lt_of_lt_of_le h1 (Nat.pow_le_pow_right (by omega) h2)
theorem Cur.tk_lt (c : Cur) : c.tk.1 < 18446744073709551616 := by
  have a := le_got_lt c 4; have b := le_got_lt (c.skip 4) 8
  unfold Cur.tk
  split
  · exact (by decide : 0 < 18446744073709551616)
  · split
    · show le (c.got 4) < _; omega
    · split
      · exact (by decide : 0 < 18446744073709551616)
      · show le ((c.skip 4).got 8) < _; omega
/-- what Body leaves: the cursor, the body's -/
def Cur.bd (c : Cur) : Bool × Cur × Cur :=
  (c.tk.2.1 && (c.tk.2.2.skip c.tk.1).e == 0, c.tk.2.2.skip c.tk.1, ⟨c.tk.2.2.got c.tk.1, 0, (c.tk.2.2.skip c.tk.1).e⟩)
theorem got_mid {a m t B : List UInt8} {p n : Nat} (hB : B = a ++ (m ++ t)) (hp : p = a.length) (hn : n = m.length) : (⟨B, p, 0⟩ : Cur).got n = m := by
  subst hB hp hn
  rw [Cur.gots (by simp), List.drop_left, List.take_left]
theorem skip_mid {a m t B : List UInt8} {p n : Nat} (hB : B = a ++ (m ++ t)) (hp : p = a.length) (hn : n = m.length) : (⟨B, p, 0⟩ : Cur).skip n = ⟨B, p + n, 0⟩ := by
  subst hB hp hn
  exact Cur.skips (by simp)
theorem lenB_len (n : Nat) (w : Bool) : (lenB n w).length = if w = true then 12 else 4 := by unfold lenB; split <;> simp [leB_length]
theorem lenB_f (n : Nat) : lenB n false = leB 4 n := rfl
theorem lenB_t (n : Nat) : lenB n true = leB 4 4294967295 ++ leB 8 n := rfl
theorem tk_short {c : Cur} {n : Nat} (h1 : (c.skip 4).e = 0) (h2 : le (c.got 4) = n) (h3 : n < 4294967280) : c.tk = (n, false, c.skip 4) := by
  unfold Cur.tk
  rw [if_neg (by simp [h1]), h2, if_pos h3]
theorem tk_long {c : Cur} {m : Nat} (h1 : (c.skip 4).e = 0) (h2 : le (c.got 4) = 4294967295) (h3 : le ((c.skip 4).got 8) = m) (h4 : ((c.skip 4).skip 8).e = 0) : c.tk = (m, true, (c.skip 4).skip 8) := by
  unfold Cur.tk
  rw [if_neg (by simp [h1]), h2, if_neg (by omega), if_neg (by simp), h3, h4]
  simp
theorem tk_lenF {n : Nat} {B t : List UInt8} (hw : n < 4294967280) (hB : B = leB 4 n ++ t) : (⟨B, 0, 0⟩ : Cur).tk = (n, false, ⟨B, 4, 0⟩) := by
  have hB : B = [] ++ (leB 4 n ++ t) := by rw [hB, List.nil_append]
  have e1 := skip_mid (p := 0) (n := 4) hB rfl (leB_length _ _).symm
  have e2 := got_mid (p := 0) (n := 4) hB rfl (leB_length _ _).symm
  rw [tk_short (n := n) (by rw [e1]) (by rw [e2, le_leB]; omega) hw, e1]
theorem tk_lenT {n : Nat} {B t : List UInt8} (hn : n < 18446744073709551616) (hB : B = leB 4 4294967295 ++ (leB 8 n ++ t)) : (⟨B, 0, 0⟩ : Cur).tk = (n, true, ⟨B, 12, 0⟩) := by
  have hB1 : B = [] ++ (leB 4 4294967295 ++ (leB 8 n ++ t)) := by rw [hB, List.nil_append]
  have e1 := skip_mid (p := 0) (n := 4) hB1 rfl (leB_length _ _).symm
  have e2 := got_mid (p := 0) (n := 4) hB1 rfl (leB_length _ _).symm
  have e3 := skip_mid (p := 4) (n := 8) hB (leB_length _ _).symm (leB_length _ _).symm
  have e4 := got_mid (p := 4) (n := 8) hB (leB_length _ _).symm (leB_length _ _).symm
  rw [tk_long (m := n) (by rw [e1]) (by rw [e2, le_leB]) (by rw [e1, e4, le_leB]; omega) (by rw [e1, e3]), e1, e3]
theorem tk_lenB {n : Nat} {w : Bool} {B t : List UInt8} (hn : n < 18446744073709551616) (hw : w = true ∨ n < 4294967280) (hB : B = lenB n w ++ t) : (⟨B, 0, 0⟩ : Cur).tk = (n, w, ⟨B, (lenB n w).length, 0⟩) := by
  rw [lenB_len]
  cases w with
  | false =>
    have hw : n < 4294967280 := by rcases hw with e | e; · cases e
                                   · exact e
    rw [tk_lenF hw (by rw [hB, lenB_f])]
    rfl
  | true =>
    rw [tk_lenT hn (by rw [hB, lenB_t, List.append_assoc])]
    rfl
theorem bd_lenB {m t B : List UInt8} {w : Bool} (hm : m.length < 4294967280) (hB : B = lenB m.length w ++ (m ++ t)) : (⟨B, 0, 0⟩ : Cur).bd = (w, ⟨B, (lenB m.length w).length + m.length, 0⟩, ⟨m, 0, 0⟩) := by
  unfold Cur.bd
  rw [tk_lenB (by omega) (.inr hm) hB]
  simp only
  rw [got_mid hB rfl rfl, skip_mid hB rfl rfl]
  simp
theorem fin_end {b : List UInt8} {p : Nat} (h : b.length ≤ p) : (⟨b, p, 0⟩ : Cur).fin = 0 := by
  unfold Cur.fin Cur.left
  rw [if_pos rfl, if_neg (by show ¬ b.length - p > 0; omega)]
theorem left_at {b : List UInt8} {p : Nat} : (⟨b, p, 0⟩ : Cur).left = b.length - p := by
  unfold Cur.left; rw [if_pos rfl]
/-- what is wrapped in what is wrapped -/
def wrapL (b : List UInt8) (w : Bool) : List UInt8 := lenB b.length w ++ b
theorem wrapL_len (b : List UInt8) (w : Bool) : (wrapL b w).length ≤ b.length + 12 := by
  unfold wrapL; rw [List.length_append, lenB_len]; split <;> omega
def nestL (ws : List Bool) (b : List UInt8) (i : Nat) : List UInt8 := (ws.take i).foldl wrapL b
theorem nestL_succ {ws : List Bool} {b : List UInt8} {i : Nat} (h : i < ws.length) : nestL ws b (i + 1) = wrapL (nestL ws b i) (ws.getD i false) := by
  unfold nestL
  rw [List.take_add_one, List.getElem?_eq_getElem h, List.foldl_append, List.getD_eq_getElem?_getD, List.getElem?_eq_getElem h]; rfl
theorem nestL_len {ws : List Bool} {b : List UInt8} : ∀ i, (nestL ws b i).length ≤ b.length + 12 * i
  | 0 => by simp [nestL]
  | i + 1 => by
    by_cases h : i < ws.length
    · rw [nestL_succ h]; have := wrapL_len (nestL ws b i) (ws.getD i false); have := nestL_len (ws := ws) (b := b) i; omega
    · have := nestL_len (ws := ws) (b := b) i
      unfold nestL at this ⊢
      rw [List.take_of_length_le (by omega)] at this ⊢
      omega
def bools (l : List Bool) : List AV := l.map fun b => .v (.bool b)
theorem bools_len (l : List Bool) : (bools l).length = l.length := by simp [bools]
theorem bools_at {l : List Bool} {i : Nat} (h : i < l.length) : (bools l).getD i .bad = .v (.bool (l.getD i false)) := by
  simp [bools, List.getD_eq_getElem?_getD, List.getElem?_map, List.getElem?_eq_getElem h]
end Go.Ab

namespace Go.Ab
/-- the text in front of the first byte 0 -/
def txt (l : List UInt8) : List UInt8 := l.takeWhile (· != 0)
theorem txt_cons (b : UInt8) (l : List UInt8) : txt (b :: l) = if b = 0 then [] else b :: txt l := by
  unfold txt
  rw [List.takeWhile_cons]
  by_cases h : b = 0 <;> simp [h]
theorem txt_le : ∀ l : List UInt8, (txt l).length ≤ l.length
  | [] => by simp [txt]
  | b :: l => by
    rw [txt_cons]
    have := txt_le l
    split <;> simp <;> omega
theorem txt_take : ∀ l : List UInt8, l.take (txt l).length = txt l
  | [] => by simp [txt]
  | b :: l => by
    rw [txt_cons]
    split
    · rfl
    · simp [txt_take l]
theorem txt_stop : ∀ l : List UInt8, (txt l).length < l.length → l.getD (txt l).length 0 = 0
  | [], h => by simp at h
  | b :: l, h => by
    rw [txt_cons] at h ⊢
    split at h
    · rename_i hb; rw [if_pos hb]; simpa using hb
    · rename_i hb
      rw [if_neg hb]
      simp at h ⊢
      have := txt_stop l h
      simpa using this
theorem txt_go : ∀ (l : List UInt8) (i : Nat), i < (txt l).length → l.getD i 0 ≠ 0
  | [], i, h => by simp [txt] at h
  | b :: l, i, h => by
    rw [txt_cons] at h
    split at h
    · simp at h
    · rename_i hb
      cases i with
      | zero => simpa using hb
      | succ i => simpa using txt_go l i (by simpa using h)
theorem index_txt : ∀ l : List UInt8, Lib.indexByte l 0 = if (txt l).length = l.length then -1 else ((txt l).length : Int)
  | [] => by simp [txt, Lib.indexByte]
  | b :: l => by
    unfold Lib.indexByte
    rw [txt_cons, index_txt l]
    have := txt_le l
    by_cases hb : b = 0
    · simp [hb]
    · by_cases h : (txt l).length = l.length
      · simp [hb, h]
      · simp [hb, h]
        try (split <;> first | omega | rfl)
/-- what Take reads: the text, the cursor -/
def Cur.str (c : Cur) : List UInt8 × Cur :=
  if c.e ≠ 0 then ([], c)
  else if (txt (c.b.drop c.p)).length = c.b.length - c.p then ([], { c with e := 12 })
  else if (txt (c.b.drop c.p)).length > 200 then ([], { c with e := 3 })
  else (txt (c.b.drop c.p), { c with p := c.p + (txt (c.b.drop c.p)).length + 1 })
theorem Cur.str_b (c : Cur) : c.str.2.b = c.b := by
  unfold Cur.str; split
  · rfl
  · split
    · rfl
    · split <;> rfl
theorem Cur.str_inv {c : Cur} (h : c.inv) : c.str.2.inv := by
  obtain ⟨h1, h2⟩ := h
  have hl := txt_le (c.b.drop c.p)
  rw [List.length_drop] at hl
  unfold Cur.str; split
  · exact ⟨h1, h2⟩
  · split
    · exact ⟨h1, h2⟩
    · split
      · exact ⟨h1, h2⟩
      · exact ⟨by show c.p + _ + 1 ≤ c.b.length; omega, h2⟩
/-- all texts of a table; why not -/
def allT : Nat → List UInt8 → List (List UInt8) × Int
  | 0, _ => ([], 0)
  | f + 1, l => if l = [] then ([], 0) else if (txt l).length = l.length then ([], 12) else if (txt l).length > 200 then ([], 3)
      else (txt l :: (allT f (l.drop ((txt l).length + 1))).1, (allT f (l.drop ((txt l).length + 1))).2)
theorem allT_more : ∀ (f g : Nat) (l : List UInt8), l.length ≤ f → l.length ≤ g → allT f l = allT g l
  | 0, 0, _, _, _ => rfl
  | 0, g + 1, l, h, _ => by
    have : l = [] := List.length_eq_zero_iff.1 (by omega)
    subst this; rfl
  | f + 1, 0, l, _, h => by
    have : l = [] := List.length_eq_zero_iff.1 (by omega)
    subst this; rfl
  | f + 1, g + 1, l, h1, h2 => by
    unfold allT
    rw [allT_more f g (l.drop ((txt l).length + 1)) (by simp; omega) (by simp; omega)]
def allS (l : List UInt8) : List (List UInt8) × Int := allT l.length l
theorem allS_eq (l : List UInt8) : allS l = if l = [] then ([], 0) else if (txt l).length = l.length then ([], 12) else if (txt l).length > 200 then ([], 3)
    else (txt l :: (allS (l.drop ((txt l).length + 1))).1, (allS (l.drop ((txt l).length + 1))).2) := by
  cases l with
  | nil => rfl
  | cons b l =>
    show allT (l.length + 1) (b :: l) = _
    rw [allT]
    rw [allT_more l.length _ ((b :: l).drop ((txt (b :: l)).length + 1)) (by simp) (Nat.le_refl _)]
    rfl
/-- texts, as a list's cells -/
def strs (l : List (List UInt8)) : List AV := l.map fun s => .v (.string (mkStr s))
theorem strs_len (l : List (List UInt8)) : (strs l).length = l.length := by simp [strs]
theorem strs_snoc (l : List (List UInt8)) (s : List UInt8) : strs l ++ [.v (.string (mkStr s))] = strs (l ++ [s]) := by simp [strs]
theorem strs_at {l : List (List UInt8)} {i : Nat} (h : i < l.length) : (strs l).getD i .bad = .v (.string (mkStr (l.getD i []))) := by
  simp [strs, List.getD_eq_getElem?_getD, List.getElem?_map, List.getElem?_eq_getElem h]
/-- a value that is a list of just these texts -/
def IsS (l : List (List UInt8)) (r : AV) (h : Heap) : Prop := (r = .v (.slice none 0 0) ∧ l = []) ∨ ∃ id, r = .s id 0 l.length ∧ h.getD id .dead = .o 1 (strs l)
theorem IsS.keeps {l : List (List UInt8)} {r : AV} {h h' : Heap} (i : IsS l r h) (k : Keeps h h') : IsS l r h' := by
  rcases i with i | ⟨j, rfl, e⟩
  · exact .inl i
  · exact .inr ⟨j, rfl, k.at e (by simp)⟩
def atS (t : List UInt8) (o : Nat) : List UInt8 × Int := if t.length ≤ o then ([], 10) else ((⟨t.drop o, 0, 0⟩ : Cur).str.1, (⟨t.drop o, 0, 0⟩ : Cur).str.2.e)
theorem str_drop {t : List UInt8} {o : Nat} (h : o ≤ t.length) : (⟨t, o, 0⟩ : Cur).str.1 = (⟨t.drop o, 0, 0⟩ : Cur).str.1 ∧ (⟨t, o, 0⟩ : Cur).str.2.e = (⟨t.drop o, 0, 0⟩ : Cur).str.2.e := by
  unfold Cur.str
  simp only [List.drop_zero, List.length_drop, Nat.sub_zero, ne_eq, not_true_eq_false, if_false]
  split
  · exact ⟨rfl, rfl⟩
  · split <;> exact ⟨rfl, rfl⟩
theorem allS_len : ∀ (n : Nat) (l : List UInt8), l.length ≤ n → (allS l).1.length ≤ l.length
  | 0, l, h => by
    have : l = [] := List.length_eq_zero_iff.1 (by omega)
    subst this; simp [allS, allT]
  | n + 1, l, h => by
    rw [allS_eq]
    split
    · simp
    · split
      · simp
      · split
        · simp
        · rename_i h1 h2 h3
          have ht := txt_le l
          have := allS_len n (l.drop ((txt l).length + 1)) (by simp; omega)
          simp at this ⊢
          omega
theorem extract_take (s : List UInt8) (n : Nat) : (mkStr s).extract 0 n = mkStr (s.take n) := by
  apply ByteArray.ext
  simp [mkStr, ByteArray.data_extract]
end Go.Ab

namespace Go.Ab
/-- texts, each with its byte 0 -/
def cat (ts : List (List UInt8)) : List UInt8 := ts.flatMap fun s => s ++ [0]
def right (s : List UInt8) : Prop := (txt s).length = s.length ∧ s.length ≤ 200
theorem right_txt {s : List UInt8} (h : right s) : txt s = s := by
  have := txt_take s; rw [h.1, List.take_length] at this; exact this.symm
theorem cat_cons (s : List UInt8) (ts : List (List UInt8)) : cat (s :: ts) = s ++ 0 :: cat ts := by simp [cat]
theorem cat_app (a b : List (List UInt8)) : cat (a ++ b) = cat a ++ cat b := by simp [cat]
theorem cat_snoc (a : List (List UInt8)) (s : List UInt8) : cat (a ++ [s]) = cat a ++ s ++ [0] := by rw [cat_app]; simp [cat]
theorem cat_len : ∀ ts : List (List UInt8), (∀ s ∈ ts, right s) → (cat ts).length ≤ 201 * ts.length
  | [], _ => by simp [cat]
  | s :: ts, h => by
    have h1 := (h s (by simp)).2
    have h2 := cat_len ts (fun s hs => h s (by simp [hs]))
    rw [cat_cons]; simp; omega
theorem txt_app : ∀ (s r : List UInt8), txt s = s → txt (s ++ 0 :: r) = s
  | [], r, _ => by simp [txt]
  | b :: s, r, h => by
    rw [txt_cons] at h
    split at h
    · cases h
    · rename_i hb
      rw [List.cons_append, txt_cons, if_neg hb, txt_app s r (by injection h)]
theorem allS_cat : ∀ ts : List (List UInt8), (∀ s ∈ ts, right s) → allS (cat ts) = (ts, 0)
  | [], _ => rfl
  | s :: ts, h => by
    have h1 := h s (by simp)
    have h2 := allS_cat ts (fun s hs => h s (by simp [hs]))
    have et : txt (cat (s :: ts)) = s := by rw [cat_cons, txt_app s _ (right_txt h1)]
    rw [allS_eq, et, if_neg (by rw [cat_cons]; simp), if_neg (by rw [cat_cons]; simp), if_neg (by have := h1.2; omega)]
    have ed : (cat (s :: ts)).drop (s.length + 1) = cat ts := by
      rw [cat_cons, List.drop_append, List.drop_of_length_le (by omega)]
      simp
    rw [ed, h2]
theorem str_cat {a b : List (List UInt8)} {s : List UInt8} (hs : right s) : (⟨cat (a ++ s :: b), (cat a).length, 0⟩ : Cur).str = (s, ⟨cat (a ++ s :: b), (cat a).length + s.length + 1, 0⟩) := by
  have ed : (cat (a ++ s :: b)).drop (cat a).length = s ++ 0 :: cat b := by rw [cat_app, List.drop_left, cat_cons]
  have et : txt (s ++ 0 :: cat b) = s := txt_app s _ (right_txt hs)
  have hl : (cat (a ++ s :: b)).length = (cat a).length + s.length + 1 + (cat b).length := by rw [cat_app, cat_cons]; simp; omega
  unfold Cur.str
  simp only
  rw [ed, et, if_neg (by simp), if_neg (by rw [hl]; omega), if_neg (by have := hs.2; omega)]
theorem at_cat {a b : List (List UInt8)} {s : List UInt8} (hs : right s) : atS (cat (a ++ s :: b)) (cat a).length = (s, 0) := by
  have hl : (cat (a ++ s :: b)).length = (cat a).length + s.length + 1 + (cat b).length := by rw [cat_app, cat_cons]; simp; omega
  have := str_drop (t := cat (a ++ s :: b)) (o := (cat a).length) (by omega)
  rw [str_cat hs] at this
  unfold atS
  rw [if_neg (by omega), ← this.1, ← this.2]
theorem IsS.lent {l : List (List UInt8)} {r : AV} {h h2 : Heap} (i : IsS l r h2) : (shf h.length r).own = true ∧ r.own = true ∧ IsS l (shf h.length r) (h ++ h2.map (shO h.length)) := by
  rcases i with ⟨rfl, rfl⟩ | ⟨id, rfl, e⟩
  · exact ⟨by unfold shf; rfl, rfl, .inl ⟨by unfold shf; rfl, rfl⟩⟩
  · refine ⟨by unfold shf; rfl, rfl, .inr ⟨h.length + id, by unfold shf; rfl, shO_at e (fun a ha => ?_)⟩⟩
    obtain ⟨s, _, rfl⟩ := List.mem_map.1 ha
    exact ⟨_, rfl⟩
theorem flat_strs : ∀ l : List (List UInt8), (l.flatMap fun s => [AV.v (.string (mkStr s))]) = strs l
  | [] => rfl
  | b :: l => by rw [List.flatMap_cons, flat_strs l]; rfl
end Go.Ab

namespace Go.Ab
/-! Rows of k cells each. -/
def rows {α : Type} (f : α → List AV) (l : List α) : List AV := l.flatMap f
section
variable {α : Type} {f : α → List AV} {k : Nat}
theorem rows_nil : rows f [] = [] := rfl
theorem rows_cons (x : α) (l : List α) : rows f (x :: l) = f x ++ rows f l := rfl
theorem rows_app (l m : List α) : rows f (l ++ m) = rows f l ++ rows f m := by simp [rows]
theorem rows_snoc (l : List α) (x : α) : rows f (l ++ [x]) = rows f l ++ f x := by simp [rows]
theorem rows_len (hk : ∀ x, (f x).length = k) : ∀ l : List α, (rows f l).length = l.length * k
  | [] => by simp [rows]
  | x :: l => by rw [rows_cons, List.length_append, rows_len hk l, hk, List.length_cons, Nat.succ_mul, Nat.add_comm]
theorem rows_drop (hk : ∀ x, (f x).length = k) : ∀ (l : List α) (n : Nat), (rows f l).drop (n * k) = rows f (l.drop n)
  | l, 0 => by simp
  | [], n + 1 => by simp [rows]
  | x :: l, n + 1 => by
    rw [rows_cons, List.drop_append, hk, List.drop_succ_cons, ← rows_drop hk l n, List.drop_of_length_le (by rw [hk, Nat.succ_mul]; omega), List.nil_append, Nat.succ_mul, Nat.add_sub_cancel]
theorem rows_row [Inhabited α] (hk : ∀ x, (f x).length = k) {l : List α} {i : Nat} (h : i < l.length) : ((rows f l).drop (i * k)).take k = f (l.getD i default) := by
  rw [rows_drop hk, List.drop_eq_getElem_cons h, rows_cons, List.take_append, hk, Nat.sub_self, List.take_zero, List.append_nil, List.take_of_length_le (by rw [hk]; omega), List.getD_eq_getElem?_getD, List.getElem?_eq_getElem h]
  rfl
theorem rows_at [Inhabited α] (hk : ∀ x, (f x).length = k) {l : List α} {i j : Nat} (h : i < l.length) (hj : j < k) : (rows f l).getD (i * k + j) .bad = (f (l.getD i default)).getD j .bad := by
  rw [← rows_row hk h]
  simp only [List.getD_eq_getElem?_getD]
  rw [List.getElem?_take, if_pos hj, List.getElem?_drop]
theorem rows_lt (hk : ∀ x, (f x).length = k) {l : List α} {i j : Nat} (h : i < l.length) (hj : j ≤ k) : i * k + j ≤ (rows f l).length := by
  rw [rows_len hk]
  calc i * k + j ≤ i * k + k := by omega
    _ = (i + 1) * k := by rw [Nat.succ_mul]
    _ ≤ _ := Nat.mul_le_mul_right _ h
end
/-- numbers, as a list's cells -/
def nums (l : List Nat) : List AV := l.map fun n : Nat => AV.v (.int .u64 (n : Int))
theorem nums_len (l : List Nat) : (nums l).length = l.length := by simp [nums]
theorem nums_snoc (l : List Nat) (n : Nat) : nums l ++ [.v (.int .u64 n)] = nums (l ++ [n]) := by simp [nums]
theorem nums_at {l : List Nat} {i : Nat} (h : i < l.length) : (nums l).getD i .bad = .v (.int .u64 (l.getD i 0 : Nat)) := by
  simp [nums, List.getD_eq_getElem?_getD, List.getElem?_map, List.getElem?_eq_getElem h]
theorem flat_nums : ∀ l : List Nat, (l.flatMap fun n : Nat => [AV.v (.int .u64 (n : Int))]) = nums l
  | [] => rfl
  | b :: l => by rw [List.flatMap_cons, flat_nums l]; rfl
/-- a table of offsets, or of addresses -/
structure Tab where
  w : Bool
  base : Nat
  items : List Nat
  deriving Inhabited
def Tab.row (t : Tab) : List AV := [.v (.bool t.w), .v (.int .u64 t.base), .z (nums t.items) t.items.length]
theorem Tab.row_len (t : Tab) : t.row.length = 3 := rfl
def tabs (l : List Tab) : List AV := rows Tab.row l
def tabHead (addrs : Bool) : Nat := if addrs = true then 8 else 0
def tabN (addrs w : Bool) : Nat := if addrs = true then 8 else lenW w
theorem tabN_pos (a w : Bool) : 0 < tabN a w := by cases a <;> cases w <;> decide
theorem tabN_le (a w : Bool) : tabN a w ≤ 8 := by cases a <;> cases w <;> decide
/-- q numbers of n bytes each -/
def numsAt (n : Nat) (l : List UInt8) (q : Nat) : List Nat := (List.range q).map fun i => le ((l.drop (i * n)).take n)
theorem numsAt_succ (n : Nat) (l : List UInt8) (q : Nat) : numsAt n l (q + 1) = numsAt n l q ++ [le ((l.drop (q * n)).take n)] := by simp [numsAt, List.range_succ]
theorem numsAt_len (n : Nat) (l : List UInt8) (q : Nat) : (numsAt n l q).length = q := by simp [numsAt]
/-- the next table; why there is none; the cursor -/
def Cur.tab (addrs : Bool) (c : Cur) : Tab × Int × Cur :=
  if ((c.bd.2.2.skip 2).skip 2).e ≠ 0 then (default, ((c.bd.2.2.skip 2).skip 2).e, c.bd.2.1)
  else if ¬ (le (c.bd.2.2.got 2) = 5 ∧ le ((c.bd.2.2.skip 2).got 2) = tabHead addrs) then (default, 42, c.bd.2.1)
  else if ((c.bd.2.2.skip 2).skip 2).left % tabN addrs c.bd.1 ≠ 0 then (default, 10, c.bd.2.1)
  else (⟨c.bd.1, c.bd.2.1.p - ((c.bd.2.2.skip 2).skip 2).left, numsAt (tabN addrs c.bd.1) (((c.bd.2.2.skip 2).skip 2).b.drop ((c.bd.2.2.skip 2).skip 2).p) (((c.bd.2.2.skip 2).skip 2).left / tabN addrs c.bd.1)⟩, 0, c.bd.2.1)
def tabAll (addrs : Bool) : Nat → Cur → List Tab → List Tab × Int
  | 0, _, acc => (acc, 0)
  | f + 1, c, acc => if c.left = 0 then (acc, 0) else if (c.tab addrs).2.1 ≠ 0 then ([], (c.tab addrs).2.1) else if 60 ≤ acc.length then ([], 3) else tabAll addrs f (c.tab addrs).2.2 (acc ++ [(c.tab addrs).1])
theorem skip_e0 {c : Cur} {n : Nat} (h : (c.skip n).e = 0) : c.e = 0 ∧ n ≤ c.b.length - c.p ∧ c.skip n = ⟨c.b, c.p + n, 0⟩ := by
  unfold Cur.skip at h ⊢
  split at h
  · rename_i h0
    split at h
    · rename_i h1
      refine ⟨h0, h1, ?_⟩
      rw [if_pos h0, if_pos h1]
      cases c; simp only at h0; subst h0; rfl
    · cases h
  · rename_i h0; exact absurd h h0
theorem skip_p (c : Cur) (n : Nat) : c.p ≤ (c.skip n).p := by
  unfold Cur.skip; split
  · split
    · show c.p ≤ c.p + n; omega
    · exact Nat.le_refl _
  · exact Nat.le_refl _
theorem fail_e {c : Cur} {n : Int} (h : (c.fail n).e = 0) (hn : n ≠ 0) : False := by
  unfold Cur.fail at h; split at h
  · exact hn h
  · rename_i h0; exact h0 h
theorem tk_e0 {c : Cur} (h : c.tk.2.2.e = 0) : c.e = 0 ∧ c.p + 4 ≤ c.tk.2.2.p ∧ c.p + 4 ≤ c.b.length ∨ False := by
  unfold Cur.tk at h ⊢
  split at h
  · rename_i h1; exact absurd h h1
  · rename_i h1
    obtain ⟨a1, a2, a3⟩ := skip_e0 (n := 4) (by simpa using h1)
    rw [if_neg h1]
    split at h
    · rename_i h2
      rw [if_pos h2]
      refine .inl ⟨a1, ?_, ?_⟩
      · show c.p + 4 ≤ (c.skip 4).p
        rw [a3]; exact Nat.le_refl _
      · omega
    · rename_i h2
      rw [if_neg h2]
      split at h
      · exact (fail_e h (by decide)).elim
      · rename_i h3
        rw [if_neg h3]
        refine .inl ⟨a1, ?_, by omega⟩
        show c.p + 4 ≤ ((c.skip 4).skip 8).p
        have := skip_p (c.skip 4) 8
        rw [a3] at this ⊢
        exact this
/-- what is so where there is a table's head -/
theorem bd_e0 {c : Cur} (hi : c.inv) (h : c.bd.2.2.e = 0) : c.e = 0 ∧ c.bd.2.1.e = 0 ∧ c.p + 4 + c.bd.2.2.b.length ≤ c.bd.2.1.p ∧ c.bd.2.1.p ≤ c.b.length ∧ c.bd.2.1.b = c.b ∧ c.bd.2.2.p = 0 := by
  have h1 : (c.tk.2.2.skip c.tk.1).e = 0 := h
  obtain ⟨a1, a2, a3⟩ := skip_e0 h1
  obtain ⟨b1, b2, b3⟩ := (tk_e0 a1).resolve_right id
  have hti := Cur.tk_inv hi
  have htb := c.tk_b
  have hsi := hti.skip c.tk.1
  refine ⟨b1, h1, ?_, ?_, ?_, rfl⟩
  · show c.p + 4 + (c.tk.2.2.got c.tk.1).length ≤ (c.tk.2.2.skip c.tk.1).p
    have := Cur.got_len (c := c.tk.2.2) c.tk.1
    rw [a3]
    show _ ≤ c.tk.2.2.p + c.tk.1
    omega
  · show (c.tk.2.2.skip c.tk.1).p ≤ _
    have := hsi.p
    rw [skip_b, htb] at this
    exact this
  · show (c.tk.2.2.skip c.tk.1).b = c.b
    rw [skip_b, htb]
theorem bd_inv {c : Cur} (hi : c.inv) : c.bd.2.1.inv := (Cur.tk_inv hi).skip _
theorem got_lenb (c : Cur) (n : Nat) : (c.got n).length ≤ c.b.length := by
  unfold Cur.got; split
  · rw [List.length_take, List.length_drop]; omega
  · simp
theorem bd2_len (c : Cur) : c.bd.2.2.b.length ≤ c.b.length := by
  show (c.tk.2.2.got c.tk.1).length ≤ _
  have := got_lenb c.tk.2.2 c.tk.1
  rwa [c.tk_b] at this
theorem bd2_inv {c : Cur} (hi : c.inv) : c.bd.2.2.inv := ⟨Nat.zero_le _, Nat.lt_of_le_of_lt (bd2_len c) hi.b⟩
theorem tab_next {a : Bool} {c : Cur} (hi : c.inv) (h : (c.tab a).2.1 = 0) : (c.tab a).2.2 = c.bd.2.1 ∧ c.bd.2.1.e = 0 ∧ c.p < c.bd.2.1.p ∧ c.bd.2.1.p ≤ c.b.length ∧ c.bd.2.1.b = c.b ∧ c.bd.2.1.inv := by
  have he : ((c.bd.2.2.skip 2).skip 2).e = 0 := by
    unfold Cur.tab at h
    split at h
    · exact h
    · rename_i h0; exact Decidable.not_not.1 h0
  obtain ⟨a1, a2, a3⟩ := skip_e0 he
  obtain ⟨b1, b2, b3⟩ := skip_e0 a1
  obtain ⟨c1, c2, c3, c4, c5, c6⟩ := bd_e0 hi b1
  refine ⟨?_, c2, by omega, c4, c5, bd_inv hi⟩
  unfold Cur.tab
  split <;> (try split) <;> (try split) <;> rfl
/-! Rows in memory. -/
def IsR {α : Type} (f : α → List AV) (k : Nat) (l : List α) (r : AV) (h : Heap) : Prop := (r = .v (.slice none 0 0) ∧ l = []) ∨ ∃ id, r = .s id 0 l.length ∧ h.getD id .dead = .o k (rows f l)
section
variable {α : Type} {f : α → List AV} {k : Nat} {l : List α} {r : AV} {h h' : Heap}
theorem IsR.keeps (i : IsR f k l r h) (K : Keeps h h') : IsR f k l r h' := by
  rcases i with ⟨rfl, rfl⟩ | ⟨id, rfl, e⟩
  · exact .inl ⟨rfl, rfl⟩
  · exact .inr ⟨id, rfl, K.at e (by simp)⟩
theorem IsR.len {K : Kt} (i : IsR f k l r h) : a_len r h K = K.K (.v (.int .i64 l.length)) h := by
  rcases i with ⟨rfl, rfl⟩ | ⟨id, rfl, e⟩ <;> rfl
theorem weak_nil_at {X : Ctx} {n sz : Nat} {pre post : List AV} (hn : n ≤ h.length) (y : AV) (hy : ∃ id off, y = .s id off 0) : Weak X n (pre ++ .v (.slice none 0 0) :: post, h) (pre ++ y :: post, h ++ [.o sz []]) := by
  obtain ⟨id, off, rfl⟩ := hy
  refine weak_nil hn (by simp) fun i a ha => ?_
  rw [List.getElem?_append] at ha ⊢
  by_cases hi : i < pre.length
  · rw [if_pos hi] at ha ⊢; exact .inl ha
  · rw [if_neg hi] at ha ⊢
    cases hj : i - pre.length with
    | zero => rw [hj] at ha; simp at ha; subst ha; exact .inr (.inr ⟨by simp, _, _, rfl⟩)
    | succ j => rw [hj] at ha; simp at ha ⊢; exact .inl ha
/-- nil, seen as an empty list of its own -/
theorem IsR.seen {X : Ctx} {n : Nat} (i : IsR f k l r h) (pre post : List AV) (hn : n ≤ h.length) : ∃ id h', Weak X n (pre ++ r :: post, h) (pre ++ .s id 0 l.length :: post, h') ∧ Adds h h' ∧ h'.getD id .dead = .o k (rows f l) := by
  rcases i with ⟨rfl, rfl⟩ | ⟨id, rfl, e⟩
  · exact ⟨h.length, h ++ [.o k []], weak_nil_at hn _ ⟨_, _, rfl⟩, Adds.mk, hget_new⟩
  · exact ⟨id, h, Weak.refl _ hn, Adds.refl _, e⟩
end
mutual
theorem frz_flat {g : Nat → Option (Nat × List AV)} : ∀ {a : AV}, a.flat = true → frz g a = a
  | .v _, _ => by rw [frz]
  | .bad, _ => by rw [frz]
  | .g cs, h => by rw [frz, frzs_flat (by simpa [AV.flat] using h)]
  | .t cs, h => by rw [frz, frzs_flat (by simpa [AV.flat] using h)]
  | .z cs n, h => by rw [frz, frzs_flat (by simpa [AV.flat] using h)]
  | .q cs n, h => by rw [frz, frzs_flat (by simpa [AV.flat] using h)]
  | .f fn as bs, h => by
    simp only [AV.flat, Bool.and_eq_true] at h
    rw [frz, frzs_flat h.1, frzs_flat h.2]
  | .i t x, h => by rw [frz, frz_flat (by simpa [AV.flat] using h)]
  | .m _, h => by rw [frz]
  | .s .., h => by simp [AV.flat] at h
  | .w .., h => by simp [AV.flat] at h
  | .p .., h => by simp [AV.flat] at h
theorem frzs_flat {g : Nat → Option (Nat × List AV)} : ∀ {l : List AV}, flats l = true → frzs g l = l
  | [], _ => by rw [frzs]
  | a :: l, h => by
    simp only [flats, Bool.and_eq_true] at h
    rw [frzs, frz_flat h.1, frzs_flat h.2]
end
theorem flats_app : ∀ (a b : List AV), flats (a ++ b) = (flats a && flats b)
  | [], b => by simp [flats]
  | x :: a, b => by simp [flats, flats_app a b, Bool.and_assoc]
theorem frzs_app {g : Nat → Option (Nat × List AV)} : ∀ (a b : List AV), frzs g (a ++ b) = frzs g a ++ frzs g b
  | [], b => by simp [frzs]
  | x :: a, b => by simp [frzs, frzs_app a b]
theorem flats_vs : ∀ {l : List AV}, (∀ a ∈ l, ∃ x, a = .v x) → flats l = true
  | [], _ => rfl
  | a :: l, h => by
    obtain ⟨x, rfl⟩ := h a (List.mem_cons_self ..)
    simp [flats, AV.flat, flats_vs fun b hb => h b (List.mem_cons_of_mem _ hb)]
theorem flats_rows {α : Type} {f : α → List AV} (hf : ∀ x, flats (f x) = true) : ∀ l : List α, flats (rows f l) = true
  | [] => rfl
  | x :: l => by rw [rows_cons, flats_app, hf, flats_rows hf l]; rfl
theorem flats_nums (l : List Nat) : flats (nums l) = true := flats_vs fun a ha => by
  simp only [nums, List.mem_map] at ha
  obtain ⟨n, _, rfl⟩ := ha
  exact ⟨_, rfl⟩
/-- a list of plain data in memory, that nobody else names: nil, or an object -/
def IsD (sz : Nat) (cs : List AV) (len : Nat) (x : AV) (h : Heap) : Prop := (x = .v (.slice none 0 0) ∧ cs = [] ∧ len = 0) ∨ ∃ id, x = .s id 0 len ∧ h.getD id .dead = .o sz cs ∧ cs.length = len * sz
def otherS (x : AV) (j : Nat) : Prop := ∀ id o l, x = .s id o l → id ≠ j
/-- what was put last into a row is data from now on -/
theorem weak_item {X : Ctx} {n ido k sz len : Nat} {tm pre cs : List AV} {x : AV} {h : Heap} (go : h.getD ido .dead = .o k (pre ++ [x])) (hx : IsD sz cs len x h) (hne : otherS x ido) (hp : flats pre = true) (hn : n ≤ h.length)
    (ht : ∀ g : Nat → Option (Nat × List AV), (∀ j, otherS x j → g j = none) → frzs g tm = tm) :
    ∃ h', Weak X n (tm, h) (tm, h') ∧ h'.getD ido .dead = .o k (pre ++ [.z cs len]) ∧ h'.length = h.length ∧ ∀ j, j ≠ ido → otherS x j → h'.getD j .dead = h.getD j .dead := by
  have hl := hlt go (by simp)
  have ss : ∀ l : List AV, SeeL (l ++ [AV.v (.slice none 0 0)]) (l ++ [.z [] 0]) := fun l => by
    induction l with
    | nil => exact ⟨.inr (.inr ⟨rfl, rfl⟩), trivial⟩
    | cons a l ih => exact ⟨.inl rfl, ih⟩
  rcases hx with ⟨rfl, rfl, rfl⟩ | ⟨id, rfl, gi, hlen⟩
  · exact ⟨_, weak_see1 hn (SeeL.refl _) go (ss pre), hget_set hl, by simp, fun j hj _ => hget_set_ne (Ne.symm hj)⟩
  · have hli := hlt gi (by simp)
    have hd := hne _ _ _ rfl
    have e1 : frzs (fun j => if j = id then some (sz, cs) else none) (pre ++ [.s id 0 len]) = pre ++ [.z cs len] := by
      rw [frzs_app, frzs_flat hp]; simp [frzs, frz, frzS, ← hlen]
    have e2 := ht (fun j => if j = id then some (sz, cs) else none) fun j hj => if_neg (Ne.symm (hj _ _ _ rfl))
    have W := weak_freeze (X := X) (n := n) (tm := tm) (h2 := (h.set id .dead).set ido (.o k (pre ++ [.z cs len]))) gi hn (by simp) (by rw [hget_set_ne (Ne.symm hd), hget_set hli]) fun i hi => by
      by_cases h1 : i = ido
      · subst h1; exact .inr ⟨k, _, go, by rw [hget_set (by simpa using hl), e1]⟩
      · exact .inl (by rw [hget_set_ne (Ne.symm h1), hget_set_ne (Ne.symm hi)])
    rw [e2] at W
    exact ⟨_, W, hget_set (by simpa using hl), by simp, fun j hj hs => by rw [hget_set_ne (Ne.symm hj), hget_set_ne (hs _ _ _ rfl)]⟩
theorem skip_11 (d : Cur) : ((d.skip 1).skip 1).e = (d.skip 2).e ∧ (((d.skip 1).skip 1).e = 0 → (d.skip 1).skip 1 = d.skip 2 ∧ le (d.got 2) = le (d.got 1) + 256 * le ((d.skip 1).got 1)) := by
  obtain ⟨b, p, e⟩ := d
  by_cases h0 : e = 0
  · subst h0
    by_cases h1 : p + 2 ≤ b.length
    · rw [Cur.skips (by omega), Cur.skips (by omega), Cur.skips (by omega)]
      refine ⟨rfl, fun _ => ⟨rfl, ?_⟩⟩
      rw [Cur.gots (by omega), Cur.gots (by omega), Cur.gots (by omega), show (2 : Nat) = 1 + 1 from rfl, List.take_add, le_append, List.length_take, List.length_drop, show min 1 (b.length - p) = 1 by omega, List.drop_drop, Nat.pow_one]
    · have e2 : ((⟨b, p, 0⟩ : Cur).skip 2).e = 10 := by unfold Cur.skip; rw [if_pos rfl, if_neg (by show ¬ 2 ≤ b.length - p; omega)]
      have e1 : (((⟨b, p, 0⟩ : Cur).skip 1).skip 1).e = 10 := by
        by_cases h2 : p + 1 ≤ b.length
        · rw [Cur.skips h2]; unfold Cur.skip; rw [if_pos rfl, if_neg (by show ¬ 1 ≤ b.length - (p + 1); omega)]
        · have : (⟨b, p, 0⟩ : Cur).skip 1 = ⟨b, p, 10⟩ := by unfold Cur.skip; rw [if_pos rfl, if_neg (by show ¬ 1 ≤ b.length - p; omega)]
          rw [this]; rfl
      rw [e1, e2]; exact ⟨rfl, fun h => by cases h⟩
  · have : ∀ n, (⟨b, p, e⟩ : Cur).skip n = ⟨b, p, e⟩ := fun n => by unfold Cur.skip; rw [if_neg h0]
    rw [this, this, this]; exact ⟨rfl, fun h => absurd h h0⟩
/-! lists of numbers, as arguments -/
theorem arg_nums {P : Program} {t e : TypeId} {a : AV} (hu : P.underlying t = some (.slice e)) (he : P.underlying e = some (.int .u64)) (h : ShapeA P t a) :
    ∃ l : List Nat, a = .z (nums l) l.length ∧ (∀ x ∈ l, x < 18446744073709551616) ∧ l.length ≤ maxLen := by
  obtain ⟨l, h1, h2, h3⟩ := arg_rows (f := fun n : Nat => [AV.v (.int .u64 (n : Int))]) (R := fun n => n < 18446744073709551616) hu (fun c hc => by obtain ⟨n, rfl, hn⟩ := shape_u64 he hc; exact ⟨n, rfl, hn⟩) h
  exact ⟨l, by rw [h1, flat_nums], h2, h3⟩
theorem shape_nums {P : Program} {t e : TypeId} {as : List AV} (hu : P.underlying t = some (.slice e)) (he : P.underlying e = some (.int .u64)) (h : Shape P t as) :
    ∃ l : List Nat, as = [.z (nums l) l.length] ∧ (∀ x ∈ l, x < 18446744073709551616) ∧ l.length ≤ maxLen := by
  obtain ⟨css, rfl, h1, h2, h3⟩ := shape_slice hu h
  obtain ⟨l, e1, e2, e3⟩ := rows_of (f := fun n : Nat => [AV.v (.int .u64 (n : Int))]) (R := fun n => n < 18446744073709551616) (fun c hc => by obtain ⟨n, rfl, hn⟩ := shape_u64 he hc; exact ⟨n, rfl, hn⟩) css h1
  exact ⟨l, by rw [e1, e2, flat_nums], e3, by rw [e2]; exact h3⟩
end Go.Ab

namespace Go.Ab
/-! append(x, make([]byte, n)...): what is left. -/
theorem rep0 (n : Nat) : (List.replicate n [AV.v (.int .u8 0)]).flatten = byt (List.replicate n 0) := by
  induction n with
  | zero => rfl
  | succ n ih => rw [List.replicate_succ, List.flatten_cons, ih, List.replicate_succ, byt_cons]; rfl
structure Apb (a : List UInt8) (n id : Nat) (h : Heap) (id' : Nat) (h' : Heap) : Prop where
  get : h'.getD id' .dead = .o 1 (byt (a ++ List.replicate n 0))
  keep : ∀ j, j < h.length → j ≠ id → h'.getD j .dead = h.getD j .dead
  len : h.length ≤ h'.length
  is : id' = id ∨ h.length ≤ id'
  old : h'.getD id .dead = .o 1 (byt a) ∨ h'.getD id .dead = .o 1 (byt (a ++ List.replicate n 0))
theorem apz_b {a : List UInt8} {n id len off' id' : Nat} {cs : List AV} {h h' : Heap} (ha : Apz 1 id 0 len n [.v (.int .u8 0)] cs h id' off' h') (hc : cs = byt a) (hl : len = a.length) (ho : h.getD id .dead = .o 1 cs) :
    off' = 0 ∧ Apb a n id h id' h' := by
  subst hc hl
  have hid := hlt ho (by simp)
  have e : (List.take (0 + a.length * 1) (byt a)) = byt a := by rw [Nat.zero_add, Nat.mul_one, take_b rfl]
  rcases ha with ⟨rfl, rfl, rfl⟩ | ⟨rfl, rfl, rfl⟩
  · rw [e, rep0, byt_append]
    exact ⟨rfl, hget_set hid, fun j _ hj => hget_set_ne (Ne.symm hj), by simp, .inl rfl, .inr (hget_set hid)⟩
  · rw [List.drop_zero, Nat.mul_one, take_b rfl, rep0, byt_append]
    exact ⟨rfl, hget_new, fun j hj _ => Adds.mk.at hj, by simp, .inr (Nat.le_refl _), .inl (hget_app ho (by simp))⟩
theorem Apb.fresh {a : List UInt8} {n id' : Nat} {o : AO} {h h' : Heap} (p : Apb a n h.length (h ++ [o]) id' h') : Keeps h h' ∧ h.length ≤ id' := by
  have hl := p.len
  have hi := p.is
  rw [List.length_append, List.length_singleton] at hl hi
  exact ⟨⟨by omega, fun hj => (p.keep _ (by rw [List.length_append, List.length_singleton]; omega) (by omega)).trans (Adds.mk.at hj)⟩, by omega⟩
end Go.Ab

namespace Go.Ab
/-! The evaluator's equations, many in one. -/
def evA := And.intro (And.intro (And.intro (And.intro (And.intro (And.intro (And.intro @take_b @cstr_b) (And.intro (@cstro_b) (And.intro @leB_length @AV.cells.eq_1))) (And.intro (And.intro @AV.cells.eq_2 @setAt.eq_1) (And.intro (@setAt.eq_2) (And.intro @fill.eq_1 @fill.eq_2)))) (And.intro (And.intro (And.intro @fits.eq_1 @fits.eq_2) (And.intro (@a_mov.eq_1) (And.intro @a_alloc.eq_1 @a_box.eq_1))) (And.intro (And.intro @a_build.eq_1 @a_lit.eq_1) (And.intro (@a_ldo.eq_1) (And.intro @a_load.eq_1 @a_load.eq_2))))) (And.intro (And.intro (And.intro (And.intro @a_sto.eq_1 @a_store.eq_1) (And.intro (@a_nilc.eq_1) (And.intro @a_nilc.eq_2 @a_nilc.eq_3))) (And.intro (And.intro @a_bin.eq_1 @a_bin.eq_2) (And.intro (@a_bin.eq_3) (And.intro @a_bin.eq_4 @a_bin.eq_5)))) (And.intro (And.intro (And.intro @a_bin.eq_6 @a_bin.eq_7) (And.intro (@a_bin.eq_8) (And.intro @a_bin.eq_9 @a_bin.eq_10))) (And.intro (And.intro @a_bin.eq_11 @a_bin.eq_12) (And.intro (@a_bin.eq_13) (And.intro @a_bin.eq_14 @a_bin.eq_15)))))) (And.intro (And.intro (And.intro (And.intro (And.intro @a_bin.eq_16 @a_bin.eq_17) (And.intro (@a_bins.eq_1) (And.intro @a_bins.eq_2 @a_bins.eq_3))) (And.intro (And.intro @a_bins.eq_4 @a_bins.eq_5) (And.intro (@a_eqp.eq_1) (And.intro @a_eqp.eq_2 @a_eqp.eq_3)))) (And.intro (And.intro (And.intro @a_eqb.eq_1 @a_eql.eq_1) (And.intro (@a_eql.eq_2) (And.intro @a_eql.eq_3 @a_eql.eq_4))) (And.intro (And.intro @a_eqs.eq_1 @a_eqm.eq_1) (And.intro (@a_eqm.eq_2) (And.intro @a_un.eq_1 @a_un.eq_2))))) (And.intro (And.intro (And.intro (And.intro @a_un.eq_3 @a_cint.eq_1) (And.intro (@asBytes.eq_1) (And.intro @asBytes.eq_2 @asBytes.eq_3))) (And.intro (And.intro @a_mkstr.eq_1 @a_s2s.eq_1) (And.intro (@a_s2b.eq_1) (And.intro @a_sl2o.eq_1 @a_sl2.eq_1)))) (And.intro (And.intro (And.intro @a_cstr.eq_2 @a_cstr.eq_3) (And.intro (@bOk.eq_1) (And.intro @bOk.eq_2 @bVal.eq_1))) (And.intro (And.intro (@bVal.eq_2) (And.intro @a_slo.eq_1 @a_slice.eq_1)) (And.intro (@a_slice.eq_2) (And.intro @a_slice.eq_3 @a_sstr.eq_1))))))) (And.intro (And.intro (And.intro (And.intro (And.intro (And.intro @a_saro.eq_1 @a_sarr.eq_1) (And.intro (@a_s2a.eq_1) (And.intro @a_fa.eq_1 @a_fa.eq_2))) (And.intro (And.intro @a_fld.eq_1 @a_ia.eq_1) (And.intro (@a_ia.eq_2) (And.intro @a_ia.eq_3 @a_iarr.eq_1)))) (And.intro (And.intro (And.intro @a_iarr.eq_2 @a_ixs.eq_1) (And.intro (@a_ixa.eq_1) (And.intro @a_ext.eq_1 @a_lenmo.eq_1))) (And.intro (And.intro @a_lenm.eq_1 @a_lenm.eq_2) (And.intro (@a_lens.eq_1) (And.intro @a_len.eq_1 @a_len.eq_2))))) (And.intro (And.intro (And.intro (And.intro @a_len.eq_3 @a_len.eq_4) (And.intro (@a_max.eq_1) (And.intro @a_min.eq_1 @srcObj.eq_1))) (And.intro (And.intro @srcCells.eq_1 @srcCells.eq_2) (And.intro (@srcCells.eq_3) (And.intro @srcCells.eq_4 @otherId.eq_1)))) (And.intro (And.intro (And.intro @a_appo.eq_1 @a_appn.eq_1) (And.intro (@a_appk.eq_1) (And.intro @a_app.eq_1 @a_app.eq_2))) (And.intro (And.intro (@a_app.eq_3) (And.intro @a_apzo.eq_1 @a_apz.eq_1)) (And.intro (@a_apz.eq_2) (And.intro @a_cpyo.eq_1 @a_cpy.eq_1)))))) (And.intro (And.intro (And.intro (And.intro (And.intro @a_mks.eq_1 @a_mkm.eq_1) (And.intro (@a_lkr.eq_1) (And.intro @a_lkr.eq_2 @a_lkr.eq_3))) (And.intro (And.intro @a_lko.eq_1 @a_lku.eq_1) (And.intro (@a_lku.eq_2) (And.intro @a_upr.eq_1 @a_upr.eq_2)))) (And.intro (And.intro (And.intro @a_upo.eq_1 @a_upd.eq_1) (And.intro (@a_mki.eq_1) (And.intro @a_mkf.eq_1 @a_callv.eq_1))) (And.intro (And.intro @a_callv.eq_2 @conj.eq_1) (And.intro (@conj.eq_2) (And.intro @thenQ.eq_1 @thenQ.eq_2))))) (And.intro (And.intro (And.intro (And.intro @thenQ.eq_3 @blockQ.eq_1) (And.intro (@blockQ.eq_2) (And.intro @blockQ.eq_3 @a_pick_b))) (And.intro (And.intro @byt_length @one_s) (And.intro (@one_p) (And.intro @one_z @one_q)))) (And.intro (And.intro (And.intro @one_m @one_f) (And.intro (@one_i) (And.intro @one_int @one_bool))) (And.intro (And.intro (@one_string) (And.intro @one_nils @one_nilp)) (And.intro (@one_nilm) (And.intro @one_nilf @one_nili)))))))
def evB := And.intro (And.intro (And.intro (And.intro @true_and @and_true) (And.intro (@Bool.not_true) (And.intro @Bool.not_false @not_true_eq_false))) (And.intro (And.intro @not_false_eq_true @false_implies) (And.intro (@true_implies) (And.intro @Nat.zero_add @Nat.add_zero)))) (And.intro (And.intro (And.intro @Nat.le_refl @decide_true) (And.intro (@decide_false) (And.intro @Bool.false_eq_true @Nat.zero_mul))) (And.intro (And.intro (@Nat.mul_one) (And.intro @Nat.one_mul @Bool.and_true)) (And.intro (@Bool.true_and) (And.intro @Nat.zero_le @Int.toNat_natCast))))
end Go.Ab

namespace Go.Ab
/-! A list that is watched: what is appended to it leaves it as it is. -/
def SwOk : List AV → List AV → Prop
  | [], [] => True
  | a :: as, b :: bs => (b = a ∨ b = .bad ∨ ∃ id off len, (a = .s id off len ∧ b = .w id off len) ∨ (a = .w id off len ∧ b = .s id off len)) ∧ SwOk as bs
  | _, _ => False
theorem SwOk.rvs {μ : Mu} {Z : Nat → Prop} {w : World} : ∀ {us : List Value} {tm tm' : List AV}, SwOk tm tm' → RVs μ Z w us tm → RVs μ Z w us tm'
  | _, [], [], _, h => h
  | _, _ :: _, _ :: _, ⟨h1, h2⟩, .cons h3 h4 => by
    refine .cons ?_ (SwOk.rvs h2 h4)
    rcases h1 with rfl | rfl | ⟨id, off, len, ⟨rfl, rfl⟩ | ⟨rfl, rfl⟩⟩
    · exact h3
    · exact .bad _
    · exact .w h3
    · cases h3 with | w h => exact h
  | _, [], _ :: _, h, _ => h.elim
  | _, _ :: _, [], h, _ => h.elim
theorem weak_sw {X : Ctx} {n : Nat} {tm tm' : List AV} {h : Heap} (hn : n ≤ h.length) (hk : SwOk tm tm') : Weak X n (tm, h) (tm', h) :=
  fun μ Z w us hr hv => ⟨μ, Z, hr, hk.rvs hv, Ext.refl μ Z w h hn⟩
/-- what an append has left: the new bytes, the old ones, and all else -/
structure Apg (a m : List UInt8) (id : Nat) (h : Heap) (id' : Nat) (h' : Heap) : Prop where
  get : h'.getD id' .dead = .o 1 (byt (a ++ m))
  keep : ∀ j, j < h.length → j ≠ id → h'.getD j .dead = h.getD j .dead
  len : h.length ≤ h'.length
  is : id' = id ∨ h.length ≤ id'
  old : h'.getD id .dead = h.getD id .dead ∨ h'.getD id .dead = .o 1 (byt (a ++ m))
theorem apk_b {a r m : List UInt8} {id len off' id' : Nat} {cs new : List AV} {h h' : Heap} (ha : Apk 1 id 0 len new cs h id' off' h') (hc : cs = byt (a ++ r)) (hm : new = byt m) (hl : len = a.length) (ho : h.getD id .dead = .o 1 cs) :
    off' = 0 ∧ Apg a m id h id' h' := by
  subst hc hl hm
  have hid := hlt ho (by simp)
  have e : (byt (a ++ r)).take a.length = byt a := by rw [byt_take, List.take_left']; rfl
  rcases ha with ⟨rfl, rfl, rfl⟩ | ⟨rfl, rfl, rfl⟩
  · rw [Nat.zero_add, Nat.mul_one, e, byt_append]
    exact ⟨rfl, hget_set hid, fun j _ hj => hget_set_ne (Ne.symm hj), by simp, .inl rfl, .inr (hget_set hid)⟩
  · rw [List.drop_zero, Nat.mul_one, e, byt_append]
    exact ⟨rfl, hget_new, fun j hj _ => Adds.mk.at hj, by simp, .inr (Nat.le_refl _), .inl (hget_app rfl (by rw [ho]; simp))⟩
end Go.Ab

