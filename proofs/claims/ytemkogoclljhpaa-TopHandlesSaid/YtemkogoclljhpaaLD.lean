/- Memory that is read; new memory that nobody writes again; calls of functions that leave alone what was there. -/
import Derived.Test.YtemkogoclljhpaaLC
namespace Go.Proofs.Ytemkogoclljhpaa.L
open Go
set_option linter.unusedVariables false
set_option linter.unusedSimpArgs false

/-! ### 1. Cells -/
def CellsAt (w : World) (ad : Addr) (cs : List Value) : Prop := ∀ j u, cs[j]? = some u → w.cell? (ad.add j) = some u
/-- a pointer to cells of which these hold -/
def Cells (Rs : List VP) : VP := fun v w => ∃ ad : Addr, v = .pointer (some ad) ∧ ∃ cs, All2 w Rs cs ∧ CellsAt w ad cs
/-- a struct or an array -/
def AggR (Rs : List VP) : VP := fun v w => ∃ cs : List Value, v = .agg cs.toArray ∧ All2 w Rs cs
theorem add_add (a : Addr) (m n : Nat) : (a.add m).add n = a.add (m + n) := by
  unfold Addr.add
  by_cases hm : m = 0
  · subst hm; simp
  · by_cases hn : n = 0
    · subst hn; simp [hm]
    · simp [hm, hn, show ¬ (m + n = 0) by omega]; omega
theorem add_block (a : Addr) (n : Nat) : (a.add n).block = a.block := by unfold Addr.add; split <;> rfl
theorem CellsAt.drop {w : World} {ad : Addr} {cs : List Value} (h : CellsAt w ad cs) (n : Nat) : CellsAt w (ad.add n) (cs.drop n) := by
  intro j u hj
  rw [add_add]
  exact h _ u (by simpa using hj)
theorem CellsAt.take {w : World} {ad : Addr} {cs : List Value} (h : CellsAt w ad cs) (n : Nat) : CellsAt w ad (cs.take n) := by
  intro j u hj
  refine h j u ?_
  rw [List.getElem?_take] at hj
  split at hj <;> simp_all
theorem CellsAt.keeps {S : Foot} {w w' : World} {ad : Addr} {cs : List Value} (h : CellsAt w ad cs) (k : Keeps S w w') (hn : ¬ S ad.block) : CellsAt w' ad cs := by
  intro j u hj
  have h1 := h j u hj
  have hb := World.block_lt_of_cell? w _ h1
  rw [World.cell?_of_block (w := w) (k.block _ hb (by rw [add_block]; exact hn)), h1]
theorem CellsAt.one {w : World} {ad : Addr} {cs ds : List Value} (h : CellsAt w ad cs) (k : CellsAt w ad ds) (e : cs.length = ds.length) : cs = ds := by
  apply List.ext_getElem? 
  intro j
  rcases Nat.lt_or_ge j cs.length with hl | hl
  · have h1 := h j cs[j] (by simp [hl])
    have h2 := k j (ds[j]'(by omega)) (by simp [show j < ds.length by omega])
    rw [h1] at h2
    simp only [Option.some.injEq] at h2
    rw [List.getElem?_eq_getElem hl, List.getElem?_eq_getElem (by omega), h2]
  · rw [List.getElem?_eq_none hl, List.getElem?_eq_none (by omega)]
theorem All2.length {w : World} {Rs : List VP} {vs : List Value} (h : All2 w Rs vs) : vs.length = Rs.length := by
  induction h with
  | nil => rfl
  | cons h r ih => simp [ih]
theorem All2.drop {w : World} {Rs : List VP} {vs : List Value} (h : All2 w Rs vs) : ∀ n, All2 w (Rs.drop n) (vs.drop n) := by
  induction h with
  | nil => intro n; simp; exact .nil
  | cons h r ih =>
    intro n
    cases n with
    | zero => exact .cons h r
    | succ n => simpa using ih n
theorem All2.take {w : World} {Rs : List VP} {vs : List Value} (h : All2 w Rs vs) : ∀ n, All2 w (Rs.take n) (vs.take n) := by
  induction h with
  | nil => intro n; simp; exact .nil
  | cons h r ih =>
    intro n
    cases n with
    | zero => exact .nil
    | succ n => simpa using .cons h (ih n)
theorem All2.is {w : World} : ∀ {cs vs : List Value}, All2 w (cs.map L.is) vs → vs = cs
  | [], _, .nil => rfl
  | c :: cs, _, .cons h r => by rw [All2.is r, show _ = c from h]
theorem All2.of_is {w : World} : ∀ (cs : List Value), All2 w (cs.map L.is) cs
  | [] => .nil
  | c :: cs => .cons rfl (All2.of_is cs)
/-- who may be written is no cell of which something holds for good -/
theorem box_out {S : Foot} {w : World} {ad : Addr} {u : Value} (hc : w.cell? ad = some u) (h : ∀ w', Keeps S w w' → ∃ u', w'.cell? ad = some u') : ¬ S ad.block := by
  intro hS
  have hb := World.block_lt_of_cell? w _ hc
  obtain ⟨u', hu⟩ := h { w with heap := w.heap.setIfInBounds ad.block (.map #[] 0) } ⟨by simp, fun b hlt hn => by
    have : ad.block ≠ b := fun e => hn (e ▸ hS)
    simp [Array.getElem?_setIfInBounds_ne this], rfl, rfl, rfl⟩
  unfold World.cell? at hu
  simp [hb] at hu
/-- the cells that are there now stay, and what holds of them -/
theorem Cells.fix {S : Foot} {Rs : List VP} {v : Value} {w : World} (h : Box S (Cells Rs) v w) : ∃ ad cs, v = .pointer (some ad) ∧ ∀ w', Keeps S w w' → All2 w' Rs cs ∧ CellsAt w' ad cs := by
  obtain ⟨ad, e, cs, hall, hc⟩ := h.now
  refine ⟨ad, cs, e, fun w' k => ?_⟩
  obtain ⟨ad', e', cs', hall', hc'⟩ := h w' k
  rw [e] at e'
  have : ad = ad' := by simpa using e'
  subst this
  cases Rs with
  | nil =>
    cases hall; cases hall'
    exact ⟨.nil, hc'⟩
  | cons R Rs =>
    cases hall with
    | cons h1 r1 =>
      rename_i u us
      have h0 := hc 0 u rfl
      rw [Addr.add_zero'] at h0
      have hn : ¬ S ad.block := box_out h0 fun w'' k'' => by
        obtain ⟨ad'', e'', cs'', hall'', hc''⟩ := h w'' k''
        rw [e] at e''
        have : ad = ad'' := by simpa using e''
        subst this
        cases hall'' with
        | cons h2 r2 =>
          have h3 := hc'' 0 _ rfl
          rw [Addr.add_zero'] at h3
          exact ⟨_, h3⟩
      have hk := hc.keeps k hn
      have : u :: us = cs' := hk.one hc' (by rw [hall'.length]; simp [r1.length])
      exact ⟨this ▸ hall', hk⟩

theorem run_sizeOf {P : Program} {t : TypeId} {n : Nat} (h : sizeB P t n = true) (w : World) : (sizeOf t).run P w = .ok n w := by
  unfold sizeB at h
  cases hi : P.info? t with
  | none => rw [hi] at h; cases h
  | some i => rw [hi] at h; simp [sizeOf, typeInfo, hi, beq_true h]
theorem run_isAgg_no {P : Program} {t : TypeId} (h : scalarB P t = true) (w : World) : (isAgg t).run P w = .ok false w := by
  unfold scalarB at h
  cases hu : P.underlying t with
  | none => rw [hu] at h; cases h
  | some d => rw [hu] at h; cases d <;> simp_all [isAgg, run_underlying hu]
theorem run_isAgg_yes {P : Program} {t : TypeId} {n : Nat} (h : aggB P t n = true) (w : World) : (isAgg t).run P w = .ok true w := by
  unfold aggB at h
  cases hu : P.underlying t with
  | none => rw [hu] at h; simp at h
  | some d => rw [hu] at h; cases d <;> simp_all [isAgg, run_underlying hu]
theorem run_loadVar1 {P : Program} {t : TypeId} {ad : Addr} {v : Value} {w : World} (h : scalarB P t = true) (hc : w.cell? ad = some v) : (loadVar t ad).run P w = .ok v w := by
  simp [loadVar, run_isAgg_no h, hc]
theorem run_loadVarN {P : Program} {t : TypeId} {n : Nat} {ad : Addr} {cs : List Value} {w : World} (h : aggB P t n = true) (hn : cs.length = n) (hc : CellsAt w ad cs) : (loadVar t ad).run P w = .ok (.agg cs.toArray) w := by
  have hs : sizeB P t n = true := by unfold aggB at h; simp at h; exact h.2
  have hl := run_loadCells_list (P := P) (w := w) ad cs hc
  simp [loadVar, run_isAgg_yes h, run_sizeOf hs, ← hn, hl]

section
variable {P : Program} {M : Mem} {Γ : Env} {o : Oper}

variable {t : TypeId} {x : Operand} {c0 c1 c2 c3 c4 c5 c6 c7 c8 c9 c10 c11 : Value} {cs : List Value} {R : VP} {Rs Rs' : List VP}
theorem OpM.load1 (ho : o.op = .load t x) (hx : Has M Γ x (Cells (R :: Rs))) (ht : scalarB P t = true) : OpM P M Γ o R :=
  OpM.pure fun a w κ _ hm hr => by
    obtain ⟨ad, cs, e, hf⟩ := Cells.fix (hx.box hm hr (by simp [ho, Op.operands]))
    have hall := (hf w (Keeps.refl _ _)).1
    have hc := (hf w (Keeps.refl _ _)).2
    cases hall with
    | cons h1 r1 =>
      rename_i u us
      have h0 := hc 0 u rfl
      rw [Addr.add_zero'] at h0
      refine ⟨u, ?_, fun w' k => ?_⟩
      · unfold execOp
        rw [ho]
        simp only [Instr.loadAt, e, Instr.sureAddr, Sem.run_bind, Sem.run_pure, Result.andThen_ok, run_loadVar1 ht h0]
      · cases (hf w' k).1 with
        | cons h2 r2 => exact h2
theorem OpM.loadA {n : Nat} (ho : o.op = .load t x) (hx : Has M Γ x (Cells Rs)) (ht : aggB P t n = true) (hd : Rs.take n = Rs') (hn : Rs'.length = n) : OpM P M Γ o (AggR Rs') :=
  OpM.pure fun a w κ _ hm hr => by
    obtain ⟨ad, cs, e, hf⟩ := Cells.fix (hx.box hm hr (by simp [ho, Op.operands]))
    have hall := (hf w (Keeps.refl _ _)).1
    have hc := (hf w (Keeps.refl _ _)).2
    have hl := run_loadVarN (P := P) (w := w) (n := n) (cs := cs.take n) ht (by rw [(hall.take n).length, hd, hn]) (hc.take n)
    refine ⟨.agg (cs.take n).toArray, ?_, fun w' k => ⟨_, rfl, hd ▸ (hf w' k).1.take n⟩⟩
    unfold execOp
    rw [ho]
    simp only [Instr.loadAt, e, Instr.sureAddr, Sem.run_bind, Sem.run_pure, Result.andThen_ok, hl]
theorem AggR.is {cs : List Value} {v : Value} {w : World} (h : AggR (cs.map L.is) v w) : v = .agg cs.toArray := by
  obtain ⟨ds, e, hall⟩ := h
  rw [e, hall.is]
theorem OpM.loadN {n : Nat} {ds : List Value} (ho : o.op = .load t x) (hx : Has M Γ x (Cells Rs)) (ht : aggB P t n = true) (hd : Rs.take n = ds.map is) (hn : ds.length = n) : OpM P M Γ o (is (.agg ds.toArray)) :=
  (OpM.loadA ho hx ht hd (by simpa using hn)).weaken fun v w h => AggR.is h
theorem OpM.load2 (ho : o.op = .load t x) (hx : Has M Γ x (Cells (is c0 :: is c1 :: Rs))) (ht : aggB P t 2 = true) : OpM P M Γ o (is (.agg #[c0, c1])) := OpM.loadN ho hx ht (ds := [c0, c1]) (by simp) rfl
theorem OpM.load3 (ho : o.op = .load t x) (hx : Has M Γ x (Cells (is c0 :: is c1 :: is c2 :: Rs))) (ht : aggB P t 3 = true) : OpM P M Γ o (is (.agg #[c0, c1, c2])) := OpM.loadN ho hx ht (ds := [c0, c1, c2]) (by simp) rfl
theorem OpM.load4 (ho : o.op = .load t x) (hx : Has M Γ x (Cells (is c0 :: is c1 :: is c2 :: is c3 :: Rs))) (ht : aggB P t 4 = true) : OpM P M Γ o (is (.agg #[c0, c1, c2, c3])) := OpM.loadN ho hx ht (ds := [c0, c1, c2, c3]) (by simp) rfl
theorem OpM.load5 (ho : o.op = .load t x) (hx : Has M Γ x (Cells (is c0 :: is c1 :: is c2 :: is c3 :: is c4 :: Rs))) (ht : aggB P t 5 = true) : OpM P M Γ o (is (.agg #[c0, c1, c2, c3, c4])) := OpM.loadN ho hx ht (ds := [c0, c1, c2, c3, c4]) (by simp) rfl
theorem OpM.load6 (ho : o.op = .load t x) (hx : Has M Γ x (Cells (is c0 :: is c1 :: is c2 :: is c3 :: is c4 :: is c5 :: Rs))) (ht : aggB P t 6 = true) : OpM P M Γ o (is (.agg #[c0, c1, c2, c3, c4, c5])) := OpM.loadN ho hx ht (ds := [c0, c1, c2, c3, c4, c5]) (by simp) rfl
theorem OpM.load7 (ho : o.op = .load t x) (hx : Has M Γ x (Cells (is c0 :: is c1 :: is c2 :: is c3 :: is c4 :: is c5 :: is c6 :: Rs))) (ht : aggB P t 7 = true) : OpM P M Γ o (is (.agg #[c0, c1, c2, c3, c4, c5, c6])) := OpM.loadN ho hx ht (ds := [c0, c1, c2, c3, c4, c5, c6]) (by simp) rfl
theorem OpM.load8 (ho : o.op = .load t x) (hx : Has M Γ x (Cells (is c0 :: is c1 :: is c2 :: is c3 :: is c4 :: is c5 :: is c6 :: is c7 :: Rs))) (ht : aggB P t 8 = true) : OpM P M Γ o (is (.agg #[c0, c1, c2, c3, c4, c5, c6, c7])) := OpM.loadN ho hx ht (ds := [c0, c1, c2, c3, c4, c5, c6, c7]) (by simp) rfl

theorem run_fieldAt {s i off : Nat} (h : fieldB P s i off = true) (ad : Addr) (w : World) : (Instr.fieldAt s (.pointer (some ad)) i).run P w = .ok (.pointer (some (ad.add off))) w := by
  unfold fieldB at h
  cases hu : P.underlying s with
  | none => rw [hu] at h; cases h
  | some d =>
    rw [hu] at h
    cases d <;> simp at h
    rename_i fs
    cases hf : fs[i]? with
    | none => rw [hf] at h; simp at h
    | some f =>
      rw [hf] at h
      simp only [Bool.and_eq_true] at h
      cases hi : P.info? f.type with
      | none => rw [hi] at h; simp at h
      | some j =>
        rw [hi] at h
        have h0 : ¬ j.size = 0 := by exact beq_ne (by simpa using h.2)
        have h1 := h.1
        have h1 : f.offset = off := by simpa using h1
        simp [Instr.fieldAt, run_underlying hu, hf, Instr.sureAddr, fieldPlace, sizeOf, typeInfo, hi, h0, h1]
theorem OpM.fieldC {s i off : Nat} (ho : o.op = .fieldAddr s x i) (hx : Has M Γ x (Cells Rs)) (h : fieldB P s i off = true) : OpM P M Γ o (Cells (Rs.drop off)) :=
  OpM.pure fun a w κ _ hm hr => by
    have hb := hx.box hm hr (by simp [ho, Op.operands])
    obtain ⟨ad, e, _⟩ := hb.now
    refine ⟨.pointer (some (ad.add off)), ?_, fun w' k => ?_⟩
    · unfold execOp
      rw [ho]
      simp only [e, Sem.run_bind, run_fieldAt h ad w, Result.andThen_ok]
      rfl
    · obtain ⟨ad', e', cs, hall, hc'⟩ := hb w' k
      rw [e] at e'
      have : ad = ad' := by simpa using e'
      exact ⟨_, rfl, _, hall.drop off, this ▸ hc'.drop off⟩
theorem OpM.fieldP {s i off b n : Nat} (ho : o.op = .fieldAddr s x i) (hx : Has M Γ x (is (.pointer (some ⟨b, n, none⟩)))) (h : fieldB P s i off = true) : OpM P M Γ o (is (.pointer (some ⟨b, n + off, none⟩))) :=
  OpM.isv fun a w κ hm hr => by
    unfold execOp
    rw [ho]
    simp only [hx.val hm hr (by simp [ho, Op.operands]), Sem.run_bind, run_fieldAt h _ w, Result.andThen_ok, Addr.add_lit]
    rfl
theorem OpM.nilCheckC (ho : o.op = .nilCheck x) (hx : Has M Γ x (Cells Rs)) : OpM P M Γ o (Cells Rs) :=
  OpM.pure fun a w κ _ hm hr => by
    have hb := hx.box hm hr (by simp [ho, Op.operands])
    obtain ⟨ad, e, _⟩ := hb.now
    refine ⟨_, ?_, hb⟩
    unfold execOp
    rw [ho]
    simp [e]
theorem OpM.nilCheckP {ad : Addr} (ho : o.op = .nilCheck x) (hx : Has M Γ x (is (.pointer (some ad)))) : OpM P M Γ o (is (.pointer (some ad))) :=
  OpM.isv fun a w κ hm hr => by
    unfold execOp
    rw [ho]
    simp [hx.val hm hr (by simp [ho, Op.operands])]

/-! ### 2. Arrays behind a pointer -/
theorem run_indexArr {t e : TypeId} {len size : Nat} {k : IntKind} {i : Int} (hu : P.underlying t = some (.array len e)) (hs : sizeB P e size = true) (h0 : 0 ≤ i) (h1 : i < len) (ad : Addr) (w : World) :
    (Instr.indexAt t (.pointer (some ad)) (.int k i)).run P w = .ok (.pointer (some (ad.add (i.toNat * size)))) w := by
  simp [Instr.indexAt, asIntOf, run_underlying hu, Instr.sureAddr, h0, h1, run_sizeOf hs]
theorem OpM.indexArrC {y : Operand} {e : TypeId} {len size : Nat} {k : IntKind} {i : Int} (ho : o.op = .indexAddr t x y) (hx : Has M Γ x (Cells Rs)) (hy : Has M Γ y (is (.int k i))) (hu : P.underlying t = some (.array len e))
    (hs : sizeB P e size = true) (h0 : 0 ≤ i) (h1 : i < len) : OpM P M Γ o (Cells (Rs.drop (i.toNat * size))) :=
  OpM.pure fun a w κ _ hm hr => by
    have hb := hx.box hm hr (by simp [ho, Op.operands])
    obtain ⟨ad, e, _⟩ := hb.now
    refine ⟨.pointer (some (ad.add (i.toNat * size))), ?_, fun w' k => ?_⟩
    · unfold execOp
      rw [ho]
      simp only [e, hy.val hm hr (by simp [ho, Op.operands]), Sem.run_bind, run_indexArr hu hs h0 h1 ad w, Result.andThen_ok]
      rfl
    · obtain ⟨ad', e', cs, hall, hc'⟩ := hb w' k
      rw [e] at e'
      have : ad = ad' := by simpa using e'
      exact ⟨_, rfl, _, hall.drop _, this ▸ hc'.drop _⟩
theorem OpM.indexArrP {y : Operand} {e : TypeId} {len size b n : Nat} {k : IntKind} {i : Int} (ho : o.op = .indexAddr t x y) (hx : Has M Γ x (is (.pointer (some ⟨b, n, none⟩)))) (hy : Has M Γ y (is (.int k i))) (hu : P.underlying t = some (.array len e))
    (hs : sizeB P e size = true) (h0 : 0 ≤ i) (h1 : i < len) : OpM P M Γ o (is (.pointer (some ⟨b, n + i.toNat * size, none⟩))) :=
  OpM.isv fun a w κ hm hr => by
    unfold execOp
    rw [ho]
    simp only [hx.val hm hr (by simp [ho, Op.operands]), hy.val hm hr (by simp [ho, Op.operands]), Sem.run_bind, run_indexArr hu hs h0 h1 _ w, Result.andThen_ok, Addr.add_lit]
    rfl
end

/-! ### 3. Slices that are read -/
structure Rep (τ : Type) where
  n : Nat
  fs : τ → List VP
  len : ∀ x, (fs x).length = n
  one : ∀ (x : τ) (w : World) (cs : List Value), All2 w (fs x) cs → ∀ u ∈ cs, u.oneCell' = true
  pos : 0 < n
  d : τ
theorem one1 {R : VP} (h : ∀ v w, R v w → v.oneCell' = true) (w : World) (cs : List Value) (a : All2 w [R] cs) : ∀ u ∈ cs, u.oneCell' = true := by
  cases a with
  | cons h1 r =>
    cases r
    intro u hu
    simp only [List.mem_singleton] at hu
    subst hu
    exact h _ _ h1
def LstAt {τ : Type} (K : Rep τ) (w : World) (ad : Addr) (xs : List τ) : Prop := ∀ i x, xs[i]? = some x → ∃ cs, All2 w (K.fs x) cs ∧ CellsAt w (ad.add (i * K.n)) cs
def Lst {τ : Type} (K : Rep τ) (xs : List τ) : VP := fun v w => ∃ A c, v = .slice A xs.length c ∧ xs.length ≤ c ∧ (0 < xs.length → ∃ ad, A = some ad ∧ LstAt K w ad xs)
def intR (k : IntKind) : Rep Int := ⟨1, fun x => [is (.int k x)], fun _ => rfl, fun x => one1 fun v w h => by rw [show v = _ from h]; rfl, Nat.one_pos, 0⟩
def strR : Rep ByteArray := ⟨1, fun x => [is (.string x)], fun _ => rfl, fun x => one1 fun v w h => by rw [show v = _ from h]; rfl, Nat.one_pos, ByteArray.empty⟩
def boolR : Rep Bool := ⟨1, fun x => [is (.bool x)], fun _ => rfl, fun x => one1 fun v w h => by rw [show v = _ from h]; rfl, Nat.one_pos, false⟩
/-- a slice of slices -/
def sliceR {τ : Type} (K : Rep τ) : Rep (List τ) := ⟨1, fun xs => [Lst K xs], fun _ => rfl, fun x => one1 fun v w h => by obtain ⟨A, c, rfl, _⟩ := h; rfl, Nat.one_pos, []⟩

section
variable {P : Program} {M : Mem} {Γ : Env} {o : Oper} {τ : Type} {K : Rep τ} {xs : List τ} {t e : TypeId} {x y : Operand}
theorem Lst.len_lt {v : Value} {w : World} (h : Lst K xs v w) : ∃ A c, v = .slice A xs.length c := let ⟨A, c, h, _⟩ := h; ⟨A, c, h⟩
theorem OpM.len {u : TypeId} (ho : o.op = .call ⟨.builtin .len, #[x], #[t]⟩) (hx : Has M Γ x (Lst K xs)) (hu : P.underlying t = some (.slice u)) : OpM P M Γ o (is (.int .i64 xs.length)) :=
  OpM.isv fun a w κ hm hr => by
    obtain ⟨A, c, e⟩ := (hx.box hm hr (by simp [ho, Op.operands, Call.operands])).now.len_lt
    unfold execOp
    rw [ho]
    simp [resolve, invoke, builtin, Builtin.len_, run_underlying hu, e, goInt]
theorem OpM.lenStr {s : ByteArray} (ho : o.op = .call ⟨.builtin .len, #[x], #[t]⟩) (hx : Has M Γ x (is (.string s))) (hu : P.underlying t = some .string) : OpM P M Γ o (is (.int .i64 s.size)) :=
  OpM.isv fun a w κ hm hr => by
    have e := hx.val hm hr (by simp [ho, Op.operands, Call.operands])
    unfold execOp
    rw [ho]
    simp [resolve, invoke, builtin, Builtin.len_, run_underlying hu, e, goInt]
theorem run_indexSl {size n c : Nat} {A : Addr} {k : IntKind} {i : Int} (hu : P.underlying t = some (.slice e)) (hs : sizeB P e size = true) (h0 : 0 ≤ i) (h1 : i < n) (w : World) :
    (Instr.indexAt t (.slice (some A) n c) (.int k i)).run P w = .ok (.pointer (some (A.add (i.toNat * size)))) w := by
  simp [Instr.indexAt, asIntOf, run_underlying hu, h0, h1, run_sizeOf hs]
theorem OpM.indexS {k : IntKind} {i : Int} (ho : o.op = .indexAddr t x y) (hx : Has M Γ x (Lst K xs)) (hy : Has M Γ y (is (.int k i))) (hu : P.underlying t = some (.slice e)) (hs : sizeB P e K.n = true)
    (h0 : 0 ≤ i) (h1 : i < xs.length) : OpM P M Γ o (Cells (K.fs (xs.getD i.toNat K.d))) :=
  OpM.pure fun a w κ _ hm hr => by
    have hb := hx.box hm hr (by simp [ho, Op.operands])
    obtain ⟨A, c, ev, hc, hA⟩ := hb.now
    obtain ⟨ad, rfl, hl⟩ := hA (by omega)
    refine ⟨.pointer (some (ad.add (i.toNat * K.n))), ?_, fun w' kp => ?_⟩
    · unfold execOp
      rw [ho]
      simp only [ev, hy.val hm hr (by simp [ho, Op.operands]), Sem.run_bind, run_indexSl hu hs h0 h1 w, Result.andThen_ok]
      rfl
    · obtain ⟨A', c', ev', hc', hA'⟩ := hb w' kp
      obtain ⟨ad', e2, hl'⟩ := hA' (by omega)
      rw [ev] at ev'
      have : ad = ad' := by simp only [Value.slice.injEq] at ev'; rw [e2] at ev'; simpa using ev'.1
      subst this
      have hi : xs[i.toNat]? = some (xs.getD i.toNat K.d) := by
        rw [List.getD_eq_getElem?_getD, List.getElem?_eq_getElem (by omega)]
        rfl
      exact ⟨_, rfl, hl' _ _ hi⟩
theorem OpM.indexE {k : IntKind} {i : Int} (ho : o.op = .indexAddr t x y) (hx : Has M Γ x (Lst K xs)) (hy : Has M Γ y (is (.int k i))) (hu : P.underlying t = some (.slice e)) (hs : sizeB P e K.n = true)
    (h0 : 0 ≤ i) {z : τ} (hz : xs[i.toNat]? = some z) : OpM P M Γ o (Cells (K.fs z)) := by
  have hlt : i.toNat < xs.length := by
    rcases Nat.lt_or_ge i.toNat xs.length with h | h
    · exact h
    · rw [List.getElem?_eq_none h] at hz; cases hz
  have := OpM.indexS ho hx hy hu hs h0 (by omega)
  rwa [List.getD_eq_getElem?_getD, hz] at this
theorem OpM.nilS (ho : o.op = .move x ∨ o.op = .assign x) (hx : Γ.opd x = some (is (.slice none 0 0))) : OpM P M Γ o (Lst K ([] : List τ)) := by
  have h : Has M Γ x (Lst K ([] : List τ)) := (Has.of hx).map fun v w h => by subst h; exact ⟨none, 0, rfl, Nat.le_refl _, fun h => absurd h (by simp)⟩
  rcases ho with ho | ho
  · exact OpM.move ho h
  · exact OpM.assign ho h

/-! ### 4. New memory that is only read -/
theorem keeps_alloc (w : World) (ob : Obj) : Keeps (fun _ => False) w (w.alloc ob) :=
  ⟨by simp, fun b hb _ => by first | exact _root_.Go.heap_alloc_old w ob b hb | exact _root_.Go.heap_alloc_old w ob hb, rfl, rfl, rfl⟩
theorem cells_alloc {w w' : World} {S : Foot} {cs : Array Value} {T : TypeId} {fr : Nat × Nat} (k : Keeps S (w.alloc (.cells cs T fr)) w') (hn : ¬ S w.heap.size) : CellsAt w' ⟨w.heap.size, 0, none⟩ cs.toList := by
  intro j u hj
  have h : w'.heap[w.heap.size]? = some (.cells cs T fr) := by
    rw [k.block _ (by simp) hn]
    exact heap_alloc_new w _
  rw [Addr.add_lit, Nat.zero_add]
  rw [cell_of_row w' _ j cs T fr h]
  simpa using hj
theorem OpM.boxR {v : Value} (ho : o.op = .box t x) (hx : Has M Γ x (is v)) : OpM P M Γ o (Cells (v.cells.toList.map is)) :=
  OpM.run fun a w κ hw hm hr => by
    refine ⟨.pointer (some ⟨w.heap.size, 0, none⟩), w.alloc (.cells v.cells t), ?_, keeps_alloc w _, fun w' k => ⟨_, rfl, _, All2.of_is _, cells_alloc k (by simp [live, hw w.heap.size (Nat.le_refl _)])⟩⟩
    unfold execOp
    rw [ho]
    simp [hx.val hm hr (by simp [ho, Op.operands]), Instr.box, newVar, newRow]
theorem OpM.boxA {Rs : List VP} (ho : o.op = .box t x) (hx : Has M Γ x (AggR Rs)) : OpM P M Γ o (Cells Rs) :=
  OpM.run fun a w κ hw hm hr => by
    have hb := hx.box hm hr (by simp [ho, Op.operands])
    obtain ⟨cs, e, hall⟩ := hb.now
    refine ⟨.pointer (some ⟨w.heap.size, 0, none⟩), w.alloc (.cells cs.toArray t), ?_, keeps_alloc w _, fun w' k => ?_⟩
    · unfold execOp
      rw [ho]
      simp [e, Instr.box, newVar, newRow, Value.cells]
    · obtain ⟨cs', e', hall'⟩ := hb w' ((keeps_alloc w _).none.trans k)
      rw [e] at e'
      have : cs = cs' := by simpa using e'
      subst this
      exact ⟨_, rfl, _, hall', by simpa using cells_alloc k (by simp [live, hw w.heap.size (Nat.le_refl _)])⟩
theorem OpM.boxOne {R : VP} (ho : o.op = .box t x) (hx : Has M Γ x R) (h1 : ∀ v w, R v w → v.cells = #[v]) : OpM P M Γ o (Cells [R]) :=
  OpM.run fun a w κ hw hm hr => by
    have hb := hx.box hm hr (by simp [ho, Op.operands])
    refine ⟨.pointer (some ⟨w.heap.size, 0, none⟩), w.alloc (.cells #[a.eval x] t), ?_, keeps_alloc w _, fun w' k => ?_⟩
    · unfold execOp
      rw [ho]
      simp [Instr.box, newVar, newRow, h1 _ _ hb.now]
    · exact ⟨_, rfl, [a.eval x], .cons (hb w' ((keeps_alloc w _).none.trans k)) .nil, by simpa using cells_alloc k (by simp [live, hw w.heap.size (Nat.le_refl _)])⟩

/-! a slice written out -/
theorem fold_set : ∀ (vs pre mid post : List Value), mid.length = vs.length → (vs.zipIdx.foldl (fun (cs : Array Value) (p : Value × Nat) => cs.setIfInBounds (pre.length + p.2) p.1) (pre ++ mid ++ post).toArray) = (pre ++ vs ++ post).toArray
  | [], pre, mid, post, h => by
    have : mid = [] := List.eq_nil_of_length_eq_zero h
    subst this
    simp
  | v :: vs, pre, mid, post, h => by
    cases mid with
    | nil => simp at h
    | cons m mid =>
      have ih := fold_set vs (pre ++ [v]) mid post (by simpa using h)
      rw [List.zipIdx_cons, List.foldl_cons]
      have e : ((pre ++ m :: mid ++ post).toArray.setIfInBounds (pre.length + 0) v) = (pre ++ [v] ++ mid ++ post).toArray := by
        apply Array.toList_inj.1
        simp [List.set_append]
      show List.foldl _ ((pre ++ m :: mid ++ post).toArray.setIfInBounds (pre.length + 0) v) _ = _
      rw [e]
      have e2 : ∀ (l : List (Value × Nat)) (A : Array Value), List.foldl (fun (cs : Array Value) (p : Value × Nat) => cs.setIfInBounds (pre.length + p.2) p.1) A (l.map fun p => (p.1, p.2 + 1)) =
          List.foldl (fun (cs : Array Value) (p : Value × Nat) => cs.setIfInBounds ((pre ++ [v]).length + p.2) p.1) A l := by
        intro l
        induction l with
        | nil => intro A; rfl
        | cons p l ih2 => intro A; simp only [List.map_cons, List.foldl_cons]; rw [ih2]; congr 2; simp; omega
      have e3 : vs.zipIdx (0 + 1) = (vs.zipIdx).map fun p => (p.1, p.2 + 1) := by
        rw [List.zipIdx_succ]
      rw [e3, e2, ih]
      simp
theorem fill_all {n : Nat} : ∀ (vs : List Value) (k : Nat) (pre rest : List Value), (∀ v ∈ vs, v.cells.size = n) → pre.length = k * n → rest.length = vs.length * n →
    Instr.fill (fun i => some (i * n, n)) (pre ++ rest).toArray ((vs.zipIdx k).map fun p => (p.2, p.1)) = some (pre ++ vs.flatMap fun v => v.cells.toList).toArray
  | [], k, pre, rest, _, _, hr => by
    have : rest = [] := List.eq_nil_of_length_eq_zero (by simpa using hr)
    subst this
    simp [Instr.fill]
  | v :: vs, k, pre, rest, hv, hp, hr => by
    have hsz := hv v (by simp)
    rw [List.length_cons, Nat.succ_mul] at hr
    have hmid : (rest.take n).length = v.cells.toList.length := by simp [hsz]; omega
    have hfold := fold_set v.cells.toList pre (rest.take n) (rest.drop n) hmid
    rw [List.append_assoc, List.take_append_drop] at hfold
    rw [List.zipIdx_cons, List.map_cons, Instr.fill]
    simp only
    rw [if_neg (by simp [hsz]; omega)]
    rw [hp] at hfold
    have e : (v.cells.zipIdx.foldl (fun cs (p : Value × Nat) => cs.setIfInBounds (k * n + p.2) p.1) (pre ++ rest).toArray) = (pre ++ v.cells.toList ++ rest.drop n).toArray := by
      rw [← hfold, ← Array.foldl_toList, Array.toList_zipIdx]
    have e' : (v.cells.zipIdx.foldl (fun cs x => match x with | (c, j) => cs.setIfInBounds (k * n + j) c) (pre ++ rest).toArray) = (pre ++ v.cells.toList ++ rest.drop n).toArray := e
    rw [e', fill_all vs (k + 1) (pre ++ v.cells.toList) (rest.drop n) (fun u hu => hv u (by simp [hu])) (by simp [hsz, hp, Nat.succ_mul]) (by simp; omega)]
    simp
/-- parts that stand one behind the other: elements -/
def ElemV {τ : Type} (K : Rep τ) (x : τ) : VP := fun v w => All2 w (K.fs x) v.cells.toList
inductive HasE {τ : Type} (M : Mem) (Γ : Env) (K : Rep τ) : List (Nat × Operand) → Nat → List τ → Prop where
  | nil {k : Nat} : HasE M Γ K [] k []
  | cons {x : Operand} {k : Nat} {ps : List (Nat × Operand)} {a : τ} {as : List τ} (h : Has M Γ x (ElemV K a)) (r : HasE M Γ K ps (k + 1) as) : HasE M Γ K ((k, x) :: ps) k (a :: as)
theorem HasE.get {Γ : Env} {ps : List (Nat × Operand)} {k : Nat} {as : List τ} (h : HasE M Γ K ps k as) {a : Act} {w : World} {κ : Nat → Nat} {ys : List Operand} (m : MemOk κ M w) (r : RegOn (live κ) Γ ys a w) (hs : ∀ p ∈ ps, p.2 ∈ ys) :
    (ps.map fun (i, x) => (i, a.eval x)) = ((ps.map fun p => a.eval p.2).zipIdx k).map (fun p => (p.2, p.1)) ∧ ps.length = as.length ∧ (∀ w', Keeps (live κ) w w' → ∀ (i : Nat) (b : τ), as[i]? = some b → ∃ v : Value, (ps.map fun p => a.eval p.2)[i]? = some v ∧ ElemV K b v w') := by
  induction h with
  | nil => exact ⟨rfl, rfl, by simp⟩
  | cons h k ih =>
    rename_i x n ps b bs
    obtain ⟨h1, h2, h3⟩ := ih fun p hp => hs p (by simp [hp])
    refine ⟨by simp only [List.map_cons, List.zipIdx_cons]; rw [h1], by simp [h2], fun w' kp i b' hb => ?_⟩
    cases i with
    | zero =>
      simp only [List.getElem?_cons_zero, Option.some.injEq] at hb
      subst hb
      exact ⟨_, rfl, (h.box m r (hs (n, x) (by simp))) w' kp⟩
    | succ i => simpa using h3 w' kp i b' (by simpa using hb)
theorem flat_get {n : Nat} : ∀ (vs : List Value) (i j : Nat) (v u : Value), (∀ v ∈ vs, v.cells.size = n) → vs[i]? = some v → v.cells.toList[j]? = some u → (vs.flatMap fun v => v.cells.toList)[i * n + j]? = some u
  | [], i, j, v, u, _, h, _ => by simp at h
  | v0 :: vs, 0, j, v, u, hn, h, hu => by
    simp only [List.getElem?_cons_zero, Option.some.injEq] at h
    subst h
    rw [Nat.zero_mul, Nat.zero_add, List.flatMap_cons, List.getElem?_append_left (by
      rcases Nat.lt_or_ge j v0.cells.toList.length with h | h
      · exact h
      · rw [List.getElem?_eq_none h] at hu; cases hu)]
    exact hu
  | v0 :: vs, i + 1, j, v, u, hn, h, hu => by
    have hsz := hn v0 (by simp)
    rw [List.flatMap_cons, List.getElem?_append_right (by simp [hsz, Nat.succ_mul]; omega)]
    have := flat_get vs i j v u (fun v hv => hn v (by simp [hv])) (by simpa using h) hu
    rw [show (i + 1) * n + j - v0.cells.toList.length = i * n + j by simp [hsz, Nat.succ_mul]; omega]
    exact this
theorem intR_elem {k : IntKind} (x : Int) : ∀ v w, is (.int k x) v w → ElemV (intR k) x v w := by
  rintro v w rfl
  exact .cons rfl .nil
theorem strR_elem (x : ByteArray) : ∀ v w, is (.string x) v w → ElemV strR x v w := by
  rintro v w rfl
  exact .cons rfl .nil
theorem boolR_elem (x : Bool) : ∀ v w, is (.bool x) v w → ElemV boolR x v w := by
  rintro v w rfl
  exact .cons rfl .nil
theorem slice_run {len : Nat} {ps : Array (Nat × Operand)} {a : Act} {w : World} {κ : Nat → Nat} (hm : MemOk κ M w) (hr : RegOn (live κ) Γ o.op.operands.toList a w) (ho : o.op = .buildSlice t len ps) (hp : HasE M Γ K ps.toList 0 xs) (hu : P.underlying t = some (.slice e)) (hs : sizeB P e K.n = true)
  (hz : zeroB P e = true) (hl : Nat.beq ps.size len = true) (hsm : len * K.n ≤ 2 ^ 24) :
  ∃ vs : List Value, vs.length = xs.length ∧ (∀ v ∈ vs, v.cells.size = K.n) ∧ (execOp a.eval o).run P w = .ok (.value (.slice (some ⟨w.heap.size, 0, none⟩) xs.length xs.length)) (w.alloc (.cells (vs.flatMap fun v => v.cells.toList).toArray e)) ∧
    (∀ w', Keeps (live κ) w w' → ∀ (i : Nat) (b : τ), xs[i]? = some b → ∃ v : Value, vs[i]? = some v ∧ ElemV K b v w') := by
  have hin : ∀ p ∈ ps.toList, p.2 ∈ o.op.operands.toList := by
    intro p hp
    rw [ho]
    simp only [Op.operands]
    exact List.mem_map.2 ⟨p, hp, rfl⟩
  obtain ⟨h1, h2, h3⟩ := hp.get hm hr hin
  have hlen : len = xs.length := by rw [← h2, ← beq_true hl]; simp
  have hsz : ∀ v ∈ (ps.toList.map fun p => a.eval p.2), v.cells.size = K.n := by
    intro v hv
    obtain ⟨i, hi, hiv⟩ := List.mem_iff_getElem.1 hv
    have hi' : i < xs.length := by rw [← h2]; simpa using hi
    obtain ⟨v', hv', he⟩ := h3 w (Keeps.refl _ _) i xs[i] (by simp [hi'])
    rw [List.getElem?_eq_getElem hi, hiv] at hv'
    have : v = v' := by simpa using hv'
    subst this
    have := he.length
    rw [K.len] at this
    simpa using this
  -- the row
  have hfill : ∀ z : Value, Instr.fill (fun i => some (i * K.n, K.n)) ((Array.range (len * K.n)).map (z.cells[· % z.cells.size]!)) (ps.map fun (i, x) => (i, a.eval x)).toList = some ((ps.toList.map fun p => a.eval p.2).flatMap fun v => v.cells.toList).toArray := by
    intro z
    have := fill_all (n := K.n) (ps.toList.map fun p => a.eval p.2) 0 [] (((Array.range (len * K.n)).map (z.cells[· % z.cells.size]!)).toList) hsz (by simp) (by simp [hlen, ← h2])
    rw [List.nil_append, List.nil_append, Array.toArray_toList] at this
    rw [Array.toList_map, h1, this]
  unfold zeroB at hz
  cases hi : P.info? e with
  | none => rw [hi] at hz; cases hz
  | some ie =>
    rw [hi] at hz
    obtain ⟨z, hzz⟩ := Option.isSome_iff_exists.1 hz
    have hsize : ie.size = K.n := by unfold sizeB at hs; rw [hi] at hs; exact beq_true hs
    refine ⟨ps.toList.map fun p => a.eval p.2, by rw [List.length_map, h2], hsz, ?_, h3⟩
    · unfold execOp
      rw [ho]
      simp only [Sem.run_bind]
      by_cases hpos : len * ie.size = 0
      · have hrun : (Instr.buildSlice t len (ps.map fun (i, x) => (i, a.eval x))).run P w = .ok (.slice (some ⟨w.heap.size, 0, none⟩) len len) (w.alloc (.cells ((ps.toList.map fun p => a.eval p.2).flatMap fun v => v.cells.toList).toArray e)) := by
          have hf := hfill (.agg #[])
          rw [← hsize] at hf
          rw [hpos] at hf
          simp only [Instr.buildSlice, run_underlying hu, sizeOf, typeInfo, hi, Sem.run_bind, run_program, Result.andThen_ok, Sem.run_pure, hpos, if_true]
          simp only [show ¬ (0 > 2 ^ 24) by omega, if_false]
          simp [Value.cells] at hf ⊢
          simp [hf, newRow]
        rw [hrun, hlen]
        rfl
      · rw [run_buildSlice w t e len _ _ ie z hu hi hzz (by rw [hsize]; omega) hpos (by rw [hsize]; exact hfill z), hlen]
        rfl
theorem OpM.slice {len : Nat} {ps : Array (Nat × Operand)} (ho : o.op = .buildSlice t len ps) (hp : HasE M Γ K ps.toList 0 xs) (hu : P.underlying t = some (.slice e)) (hs : sizeB P e K.n = true)
    (hz : zeroB P e = true) (hl : Nat.beq ps.size len = true) (hsm : len * K.n ≤ 2 ^ 24) : OpM P M Γ o (Lst K xs) :=
  OpM.run fun a w κ hw hm hr => by
    obtain ⟨vs, hvl, hsz, hrun, h3⟩ := slice_run hm hr ho hp hu hs hz hl hsm
    refine ⟨_, _, hrun, keeps_alloc w _, fun w' k => ?_⟩
    refine ⟨_, _, rfl, Nat.le_refl _, fun hpos => ⟨_, rfl, fun i b hb => ?_⟩⟩
    obtain ⟨v, hv, he⟩ := h3 w' ((keeps_alloc w _).none.trans k) i b hb
    refine ⟨_, he, fun j u hj => ?_⟩
    have hc := cells_alloc k (by simp [live, hw w.heap.size (Nat.le_refl _)])
    rw [add_add]
    exact hc _ _ (by simpa using flat_get _ i j v u hsz hv hj)
end
end Go.Proofs.Ytemkogoclljhpaa.L
