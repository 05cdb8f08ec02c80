/- Operations that only compute: what their results are. -/
import Derived.Test.YtemkogoclljhpaaLB
import Derived.WalkKit
import Derived.Laws.StructEq
import Derived.Laws.Append
import Derived.Laws.AppendOwn
import Derived.Laws.Cells
import Derived.Great.BuildSlice
import Derived.Laws.Tables
namespace Go.Proofs.Ytemkogoclljhpaa.L
open Go
set_option linter.unusedVariables false
set_option linter.unusedSimpArgs false

/-! ### 1. What an operand is good for -/
/-- a fact on a value that has a name -/
def Fact (R : VP) (v : Value) : RP := fun F L w => (∀ b, ¬ F b) ∧ Box L R v w
theorem Fact.box {κ : Nat → Nat} {l : Nat} {R : VP} {v : Value} {w : World} (h : ResOk κ l (Fact R v) w) : Box (live κ) R v w := h.now.2
def Has (M : Mem) (Γ : Env) (x : Operand) (R : VP) : Prop :=
  (∃ R0, Γ.opd x = some R0 ∧ ∀ v w, R0 v w → R v w) ∨ (∃ v l R0, Γ.opd x = some (is v) ∧ 2 ≤ l ∧ M.get l = some (Fact R0 v) ∧ ∀ v w, R0 v w → R v w)
theorem Has.of {M : Mem} {Γ : Env} {x : Operand} {R : VP} (h : Γ.opd x = some R) : Has M Γ x R := .inl ⟨R, h, fun _ _ h => h⟩
theorem Has.cond {M : Mem} {Γ : Env} {x : Operand} {R : VP} {p : Prop} (h : Γ.opd x = some (Cond p R)) (hp : p) : Has M Γ x R := .inl ⟨_, h, fun _ _ h => h.1 hp⟩
theorem Has.fact {M : Mem} {Γ : Env} {x : Operand} {R : VP} {v : Value} (l : Nat) (h : Γ.opd x = some (is v)) (hl : M.get l = some (Fact R v)) (h2 : Nat.ble 2 l = true) : Has M Γ x R := .inr ⟨v, l, R, h, by simpa [Nat.ble_eq] using h2, hl, fun _ _ h => h⟩
theorem Has.map {M : Mem} {Γ : Env} {x : Operand} {R R' : VP} (h : Has M Γ x R) (i : ∀ v w, R v w → R' v w) : Has M Γ x R' := by
  rcases h with ⟨R0, h0, h1⟩ | ⟨v, l, R0, h0, h2, hl, h1⟩
  · exact .inl ⟨R0, h0, fun v w hv => i _ _ (h1 v w hv)⟩
  · exact .inr ⟨v, l, R0, h0, h2, hl, fun v w hv => i _ _ (h1 v w hv)⟩
theorem Has.box {M : Mem} {Γ : Env} {x : Operand} {R : VP} {κ : Nat → Nat} {xs : List Operand} {a : Act} {w : World} (h : Has M Γ x R) (m : MemOk κ M w) (r : RegOn (live κ) Γ xs a w) (hx : x ∈ xs) : Box (live κ) R (a.eval x) w := by
  rcases h with ⟨R0, h0, h1⟩ | ⟨v, l, R0, h0, h2, hl, h1⟩
  · exact (r x hx R0 h0).map h1
  · rw [show a.eval x = v from (r x hx _ h0).now]
    exact (Fact.box (m l _ h2 hl)).map h1
theorem Has.val {M : Mem} {Γ : Env} {x : Operand} {v : Value} {κ : Nat → Nat} {xs : List Operand} {a : Act} {w : World} (h : Has M Γ x (is v)) (m : MemOk κ M w) (r : RegOn (live κ) Γ xs a w) (hx : x ∈ xs) : a.eval x = v := (h.box m r hx).now
/-- the same under a condition -/
def HasIf (p : Prop) (Γ : Env) (x : Operand) (R : VP) : Prop := ∃ R0, Γ.opd x = some R0 ∧ ∀ v w, p → R0 v w → R v w
theorem HasIf.of {p : Prop} {Γ : Env} {x : Operand} {R : VP} (h : Γ.opd x = some R) : HasIf p Γ x R := ⟨R, h, fun _ _ _ h => h⟩
theorem HasIf.cond {q : Prop} {Γ : Env} {x : Operand} {R : VP} {p : Prop} (h : Γ.opd x = some (Cond p R)) (hp : q → p) : HasIf q Γ x R := ⟨_, h, fun _ _ hq h => h.1 (hp hq)⟩
theorem HasIf.box {p : Prop} {Γ : Env} {x : Operand} {R : VP} {S : Foot} {xs : List Operand} {a : Act} {w : World} (h : HasIf p Γ x R) (hp : p) (r : RegOn S Γ xs a w) (hx : x ∈ xs) : Box S R (a.eval x) w := by
  obtain ⟨R0, h0, h1⟩ := h
  exact (r x hx R0 h0).map fun v w hv => h1 v w hp hv

section
variable {P : Program} {M : Mem} {Γ : Env} {o : Oper}

theorem OpM.run {R : VP} (h : ∀ (a : Act) (w : World) (κ : Nat → Nat), Wf κ w → MemOk κ M w → RegOn (live κ) Γ o.op.operands.toList a w →
    ∃ v w', (execOp a.eval o).run P w = .ok (.value v) w' ∧ Keeps (fun _ => False) w w' ∧ Box (live κ) R v w') : OpM P M Γ o R := by
  intro a w κ Q K hw hm hr hK
  obtain ⟨v, w', hv, hk, hR⟩ := h a w κ hw hm hr
  unfold Oper.wp
  rw [hv, Oper.upon_value]
  exact hK v w' hk hR
theorem OpM.pure {R : VP} (h : ∀ (a : Act) (w : World) (κ : Nat → Nat), Wf κ w → MemOk κ M w → RegOn (live κ) Γ o.op.operands.toList a w →
    ∃ v, (execOp a.eval o).run P w = .ok (.value v) w ∧ Box (live κ) R v w) : OpM P M Γ o R :=
  OpM.run fun a w κ hw hm hr => let ⟨v, h1, h2⟩ := h a w κ hw hm hr; ⟨v, w, h1, Keeps.refl _ _, h2⟩
theorem OpM.isv {v : Value} (h : ∀ (a : Act) (w : World) (κ : Nat → Nat), MemOk κ M w → RegOn (live κ) Γ o.op.operands.toList a w → (execOp a.eval o).run P w = .ok (.value v) w) : OpM P M Γ o (is v) :=
  OpM.pure fun a w κ _ hm hr => ⟨v, h a w κ hm hr, Box.is⟩

/-! ### 2. Moves -/
theorem OpM.move {x : Operand} {R : VP} (ho : o.op = .move x) (hx : Has M Γ x R) : OpM P M Γ o R :=
  OpM.pure fun a w κ _ hm hr => ⟨a.eval x, by unfold execOp; rw [ho]; rfl, hx.box hm hr (by simp [ho, Op.operands])⟩
theorem OpM.assign {x : Operand} {R : VP} (ho : o.op = .assign x) (hx : Has M Γ x R) : OpM P M Γ o R :=
  OpM.pure fun a w κ _ hm hr => ⟨a.eval x, by unfold execOp; rw [ho]; rfl, hx.box hm hr (by simp [ho, Op.operands])⟩
def Either (b : Bool) (R R' : VP) : VP := fun v w => (b = true → R v w) ∧ (b = false → R' v w)
theorem OpM.pick {c x y : Operand} {b : Bool} {R R' : VP} (ho : o.op = .pick c x y) (hc : Has M Γ c (is (.bool b))) (hx : HasIf (b = true) Γ x R) (hy : HasIf (b = false) Γ y R') :
    OpM P M Γ o (Either b R R') :=
  OpM.pure fun a w κ _ hm hr => by
    have e := hc.val hm hr (by simp [ho, Op.operands])
    refine ⟨if b then a.eval x else a.eval y, by unfold execOp; rw [ho]; simp [e, asBool], ?_⟩
    cases b with
    | true => exact (hx.box rfl hr (by simp [ho, Op.operands])).map fun v w h => ⟨fun _ => h, by simp⟩
    | false => exact (hy.box rfl hr (by simp [ho, Op.operands])).map fun v w h => ⟨by simp, fun _ => h⟩
theorem OpM.weaken {R R' : VP} (h : OpM P M Γ o R) (i : ∀ v w, R v w → R' v w) : OpM P M Γ o R' :=
  fun a w κ Q K hw hm hr hK => h a w κ Q K hw hm hr fun v w' k hR => hK v w' k (hR.map i)
theorem OpM.and {c x : Operand} {b d : Bool} (ho : o.op = .pick c x (.const (.bool false))) (hc : Has M Γ c (is (.bool b))) (hx : HasIf (b = true) Γ x (is (.bool d))) : OpM P M Γ o (is (.bool (b && d))) :=
  (OpM.pick ho hc hx (HasIf.of (R := is (.bool false)) rfl)).weaken fun v w h => by cases b <;> simp [Either, is] at h ⊢ <;> exact h
theorem OpM.or {c x : Operand} {b d : Bool} (ho : o.op = .pick c (.const (.bool true)) x) (hc : Has M Γ c (is (.bool b))) (hx : HasIf (b = false) Γ x (is (.bool d))) : OpM P M Γ o (is (.bool (b || d))) :=
  (OpM.pick ho hc (HasIf.of (R := is (.bool true)) rfl) hx).weaken fun v w h => by cases b <;> simp [Either, is] at h ⊢ <;> exact h

/-! ### 3. Numbers -/
section
variable {x y : Operand} {t u : TypeId} {k yk : IntKind} {m n : Int}
theorem OpM.bin (f : BinOp) {v : Value} {vx vy : Value} (ho : o.op = .binOp f t x y u) (hx : Has M Γ x (is vx)) (hy : Has M Γ y (is vy))
    (h : ∀ w, (do eqGuard f t x y vx vy; binOp f t vx vy : Sem Value).run P w = .ok v w) : OpM P M Γ o (is v) :=
  OpM.isv fun a w κ hm hr => by
    unfold execOp
    rw [ho]
    simp only [hx.val hm hr (by simp [ho, Op.operands]), hy.val hm hr (by simp [ho, Op.operands])]
    rw [Sem.run_bind, h w]
    rfl
theorem OpM.add (ho : o.op = .binOp .add t x y u) (hx : Has M Γ x (is (.int k m))) (hy : Has M Γ y (is (.int k n))) : OpM P M Γ o (is (.int k (k.wrap (m + n)))) :=
  OpM.bin .add ho hx hy fun w => by rw [eqGuard_add, binOp_add]; rfl
theorem OpM.sub (ho : o.op = .binOp .sub t x y u) (hx : Has M Γ x (is (.int k m))) (hy : Has M Γ y (is (.int k n))) : OpM P M Γ o (is (.int k (k.wrap (m - n)))) :=
  OpM.bin .sub ho hx hy fun w => by rw [eqGuard_sub, binOp_sub]; rfl
theorem OpM.mul (ho : o.op = .binOp .mul t x y u) (hx : Has M Γ x (is (.int k m))) (hy : Has M Γ y (is (.int k n))) : OpM P M Γ o (is (.int k (k.wrap (m * n)))) :=
  OpM.bin .mul ho hx hy fun w => by rw [eqGuard_mul, binOp_mul]; rfl
theorem OpM.quo (ho : o.op = .binOp .quo t x y u) (hx : Has M Γ x (is (.int k m))) (hy : Has M Γ y (is (.int k n))) (hn : n ≠ 0) : OpM P M Γ o (is (.int k (k.wrap (m.tdiv n)))) :=
  OpM.bin .quo ho hx hy fun w => by rw [eqGuard_quo, binOp_quo]; simp [Op.intDiv, hn]
theorem OpM.rem (ho : o.op = .binOp .rem t x y u) (hx : Has M Γ x (is (.int k m))) (hy : Has M Γ y (is (.int k n))) (hn : n ≠ 0) : OpM P M Γ o (is (.int k (m.tmod n))) :=
  OpM.bin .rem ho hx hy fun w => by rw [eqGuard_rem, binOp_rem]; simp [Op.intDiv, hn]
theorem OpM.eql (ho : o.op = .binOp .eql t x y u) (hx : Has M Γ x (is (.int k m))) (hy : Has M Γ y (is (.int k n))) : OpM P M Γ o (is (.bool (m == n))) :=
  OpM.bin .eql ho hx hy fun w => by rw [eqGuard_at_int, binOp_eql]; rfl
theorem OpM.neq (ho : o.op = .binOp .neq t x y u) (hx : Has M Γ x (is (.int k m))) (hy : Has M Γ y (is (.int k n))) : OpM P M Γ o (is (.bool (m != n))) :=
  OpM.bin .neq ho hx hy fun w => by rw [eqGuard_at_int, binOp_neq]; rfl
theorem OpM.lss (ho : o.op = .binOp .lss t x y u) (hx : Has M Γ x (is (.int k m))) (hy : Has M Γ y (is (.int k n))) : OpM P M Γ o (is (.bool (m < n))) :=
  OpM.bin .lss ho hx hy fun w => by rw [eqGuard_lss, binOp_lss]; rfl
theorem OpM.leq (ho : o.op = .binOp .leq t x y u) (hx : Has M Γ x (is (.int k m))) (hy : Has M Γ y (is (.int k n))) : OpM P M Γ o (is (.bool (m ≤ n))) :=
  OpM.bin .leq ho hx hy fun w => by rw [eqGuard_leq, binOp_leq]; rfl
theorem OpM.gtr (ho : o.op = .binOp .gtr t x y u) (hx : Has M Γ x (is (.int k m))) (hy : Has M Γ y (is (.int k n))) : OpM P M Γ o (is (.bool (m > n))) :=
  OpM.bin .gtr ho hx hy fun w => by rw [eqGuard_gtr, binOp_gtr]; rfl
theorem OpM.geq (ho : o.op = .binOp .geq t x y u) (hx : Has M Γ x (is (.int k m))) (hy : Has M Γ y (is (.int k n))) : OpM P M Γ o (is (.bool (m ≥ n))) :=
  OpM.bin .geq ho hx hy fun w => by rw [eqGuard_geq, binOp_geq]; rfl
theorem OpM.bits_ (f : BinOp) (hf : f = .and ∨ f = .or ∨ f = .xor ∨ f = .andNot) (ho : o.op = .binOp f t x y u) (hx : Has M Γ x (is (.int k m))) (hy : Has M Γ y (is (.int k n))) : OpM P M Γ o (is (.int k (bits f k m n))) :=
  OpM.bin f ho hx hy fun w => by rcases hf with rfl | rfl | rfl | rfl <;> rw [eqGuard_at_int] <;> simp only [binOp_and, binOp_or, binOp_xor, binOp_andNot, intBits_and, intBits_or, intBits_xor, intBits_andNot] <;> rfl
theorem OpM.shl (ho : o.op = .binOp .shl t x y u) (hx : Has M Γ x (is (.int k m))) (hy : Has M Γ y (is (.int yk n))) (h0 : 0 ≤ n) : OpM P M Γ o (is (.int k (k.wrap (m * 2 ^ (min n.toNat k.bits))))) :=
  OpM.bin .shl ho hx hy fun w => by rw [eqGuard_shl, binOp_shl]; simp [Op.shift, show ¬ n < 0 by omega]
theorem OpM.shr (ho : o.op = .binOp .shr t x y u) (hx : Has M Γ x (is (.int k m))) (hy : Has M Γ y (is (.int yk n))) (h0 : 0 ≤ n) : OpM P M Γ o (is (.int k (m.fdiv (2 ^ (min n.toNat k.bits))))) :=
  OpM.bin .shr ho hx hy fun w => by rw [eqGuard_shr, binOp_shr]; simp [Op.shift, show ¬ n < 0 by omega]
theorem OpM.neg (ho : o.op = .unOp .neg t x) (hx : Has M Γ x (is (.int k m))) : OpM P M Γ o (is (.int k (k.wrap (0 - m)))) :=
  OpM.isv fun a w κ hm hr => by unfold execOp; rw [ho]; simp only [hx.val hm hr (by simp [ho, Op.operands])]; rfl
theorem OpM.not {b : Bool} (ho : o.op = .unOp .not t x) (hx : Has M Γ x (is (.bool b))) : OpM P M Γ o (is (.bool !b)) :=
  OpM.isv fun a w κ hm hr => by unfold execOp; rw [ho]; simp only [hx.val hm hr (by simp [ho, Op.operands])]; rfl
theorem OpM.eqlB {b c : Bool} (ho : o.op = .binOp .eql t x y u) (hx : Has M Γ x (is (.bool b))) (hy : Has M Γ y (is (.bool c))) (ht : P.underlying t = some .bool) : OpM P M Γ o (is (.bool (b == c))) :=
  OpM.bin .eql ho hx hy fun w => by
    rw [eqGuard_at_bool]
    simp [binOp, Op.equal, Op.maxDepth, run_equalIn_bool' w 9999 t b c ht]
theorem OpM.neqB {b c : Bool} (ho : o.op = .binOp .neq t x y u) (hx : Has M Γ x (is (.bool b))) (hy : Has M Γ y (is (.bool c))) (ht : P.underlying t = some .bool) : OpM P M Γ o (is (.bool (b != c))) :=
  OpM.bin .neq ho hx hy fun w => by
    rw [eqGuard_at_bool]
    simp [binOp, Op.equal, Op.maxDepth, run_equalIn_bool' w 9999 t b c ht]
    cases b <;> cases c <;> rfl
theorem OpM.conv (ho : o.op = .convert t u x) (hx : Has M Γ x (is (.int k m))) (ht : (P.underlying t).isSome = true) (hu : P.underlying u = some (.int yk)) : OpM P M Γ o (is (.int yk (yk.wrap m))) :=
  OpM.isv fun a w κ hm hr => by
    unfold execOp
    rw [ho]
    simp only [hx.val hm hr (by simp [ho, Op.operands])]
    have hi : P.intKind u = yk := by simp [Program.intKind, hu]
    rw [Sem.run_bind, run_convert_int w t u k m ht (by rw [hi]; exact hu), hi]
    rfl
end

/-! ### 4. Values made of values -/
theorem OpM.makeFunc {fn : Fn} {fs cs : Array Operand} {vf vc : List Value} (ho : o.op = .makeFunc fn fs cs) (hf : ∀ (a : Act) (w : World) (κ : Nat → Nat), MemOk κ M w → RegOn (live κ) Γ o.op.operands.toList a w → fs.map a.eval = vf.toArray)
    (hc : ∀ (a : Act) (w : World) (κ : Nat → Nat), MemOk κ M w → RegOn (live κ) Γ o.op.operands.toList a w → cs.map a.eval = vc.toArray) : OpM P M Γ o (is (.func fn vf.toArray vc.toArray)) :=
  OpM.isv fun a w κ hm hr => by
    unfold execOp
    rw [ho]
    simp only [hf a w _ hm hr, hc a w _ hm hr]
    rfl
/-- operands that are values -/
inductive HasL (M : Mem) (Γ : Env) : List Operand → List Value → Prop where
  | nil : HasL M Γ [] []
  | cons {x : Operand} {xs : List Operand} {v : Value} {vs : List Value} (h : Has M Γ x (is v)) (r : HasL M Γ xs vs) : HasL M Γ (x :: xs) (v :: vs)
theorem HasL.map {M : Mem} {Γ : Env} {xs : List Operand} {vs : List Value} (h : HasL M Γ xs vs) {a : Act} {w : World} {κ : Nat → Nat} {ys : List Operand} (m : MemOk κ M w) (r : RegOn (live κ) Γ ys a w) (hs : ∀ x ∈ xs, x ∈ ys) : xs.map a.eval = vs := by
  induction h with
  | nil => rfl
  | cons h k ih =>
    rw [List.map_cons, h.val m r (hs _ (by simp)), ih fun x hx => hs x (by simp [hx])]
theorem map_toArray {xs : Array Operand} {f : Operand → Value} {vs : List Value} (h : xs.toList.map f = vs) : xs.map f = vs.toArray := by
  subst h
  apply Array.toList_inj.1
  simp
theorem OpM.func0 {fn : Fn} {cs : Array Operand} {vc : List Value} (ho : o.op = .makeFunc fn #[] cs) (hc : HasL M Γ cs.toList vc) : OpM P M Γ o (is (.func fn #[] vc.toArray)) :=
  OpM.makeFunc (vf := []) ho (fun _ _ _ _ _ => by simp) fun a w S hm hr => by
    exact map_toArray (hc.map hm hr (by intro x hx; simp [ho, Op.operands]; simpa using hx))
theorem OpM.func1 {fn : Fn} {fs cs : Array Operand} {vf vc : List Value} (ho : o.op = .makeFunc fn fs cs) (hf : HasL M Γ fs.toList vf) (hc : HasL M Γ cs.toList vc) : OpM P M Γ o (is (.func fn vf.toArray vc.toArray)) :=
  OpM.makeFunc ho (fun a w S hm hr => map_toArray (hf.map hm hr (by intro x hx; rw [ho]; simp [Op.operands]; exact .inl (by simpa using hx))))
    fun a w S hm hr => map_toArray (hc.map hm hr (by intro x hx; rw [ho]; simp [Op.operands]; exact .inr (by simpa using hx)))

/-- parts of a struct, an array or a slice: each place with its value -/
inductive HasP (M : Mem) (Γ : Env) : List (Nat × Operand) → List (Nat × Value) → Prop where
  | nil : HasP M Γ [] []
  | cons {i : Nat} {x : Operand} {xs : List (Nat × Operand)} {v : Value} {vs : List (Nat × Value)} (h : Has M Γ x (is v)) (r : HasP M Γ xs vs) : HasP M Γ ((i, x) :: xs) ((i, v) :: vs)
theorem HasP.map {M : Mem} {Γ : Env} {xs : List (Nat × Operand)} {vs : List (Nat × Value)} (h : HasP M Γ xs vs) {a : Act} {w : World} {κ : Nat → Nat} {ys : List Operand} (m : MemOk κ M w) (r : RegOn (live κ) Γ ys a w) (hs : ∀ x ∈ xs, x.2 ∈ ys) :
    xs.map (fun (i, x) => (i, a.eval x)) = vs := by
  induction h with
  | nil => rfl
  | cons h k ih =>
    rename_i i x xs v vs
    rw [List.map_cons, ih fun x hx => hs x (by simp [hx])]
    show (i, a.eval x) :: vs = _
    rw [h.val m r (hs (i, x) (by simp))]
theorem OpM.build {t : TypeId} {ps : Array (Nat × Operand)} {vs : List (Nat × Value)} {cells : Array Value} (ho : o.op = .build t ps) (hp : HasP M Γ ps.toList vs) (hb : P.built t vs = some cells) : OpM P M Γ o (is (.agg cells)) :=
  OpM.isv fun a w κ hm hr => by
    have e : (ps.map fun (i, x) => (i, a.eval x)).toList = vs := by
      rw [Array.toList_map]
      exact hp.map hm hr (by intro x hx; simp [ho, Op.operands]; exact ⟨x.1, by simpa using hx⟩)
    unfold execOp
    rw [ho]
    simp only
    rw [Sem.run_bind, run_build w t _ cells (by rw [e]; exact hb)]
    rfl
theorem OpM.field {t : TypeId} {x : Operand} {i : Nat} {cs : Array Value} {v : Value} (ho : o.op = .field t x i) (hx : Has M Γ x (is (.agg cs))) (h : ∀ w, (Instr.field t (.agg cs) i).run P w = .ok v w) : OpM P M Γ o (is v) :=
  OpM.isv fun a w κ hm hr => by
    unfold execOp
    rw [ho]
    simp only [hx.val hm hr (by simp [ho, Op.operands])]
    rw [Sem.run_bind, h w]
    rfl
theorem OpM.indexV {t : TypeId} {x y : Operand} {vx vy v : Value} (ho : o.op = .index t x y) (hx : Has M Γ x (is vx)) (hy : Has M Γ y (is vy)) (h : ∀ w, (Instr.index t vx vy).run P w = .ok v w) : OpM P M Γ o (is v) :=
  OpM.isv fun a w κ hm hr => by
    unfold execOp
    rw [ho]
    simp only [hx.val hm hr (by simp [ho, Op.operands]), hy.val hm hr (by simp [ho, Op.operands])]
    rw [Sem.run_bind, h w]
    rfl

/-- several results -/
inductive All2 (w : World) : List VP → List Value → Prop where
  | nil : All2 w [] []
  | cons {R : VP} {Rs : List VP} {v : Value} {vs : List Value} (h : R v w) (r : All2 w Rs vs) : All2 w (R :: Rs) (v :: vs)
def Tup (Rs : List VP) : VP := fun v w => ∃ vs : List Value, v = .tuple vs.toArray ∧ All2 w Rs vs
theorem All2.get {w : World} {Rs : List VP} {vs : List Value} (h : All2 w Rs vs) : ∀ {i : Nat} {R : VP}, Rs[i]? = some R → ∃ v, vs[i]? = some v ∧ R v w := by
  induction h with
  | nil => intro i R h; simp at h
  | cons h r ih =>
    intro i R hi
    cases i with
    | zero => simp only [List.getElem?_cons_zero, Option.some.injEq] at hi; subst hi; exact ⟨_, rfl, h⟩
    | succ i => simpa using ih (by simpa using hi)
theorem OpM.extract {x : Operand} {i : Nat} {Rs : List VP} {R : VP} (ho : o.op = .extract x i) (hx : Has M Γ x (Tup Rs)) (hi : Rs[i]? = some R) : OpM P M Γ o R :=
  OpM.pure fun a w κ _ hm hr => by
    have hb := hx.box hm hr (by simp [ho, Op.operands])
    obtain ⟨vs, hv, hall⟩ := hb.now
    obtain ⟨v, hv1, hv2⟩ := hall.get hi
    refine ⟨v, ?_, fun w' k => ?_⟩
    · unfold execOp
      rw [ho]
      simp [hv, Instr.extract, hv1]
    · obtain ⟨vs', hv', hall'⟩ := hb w' k
      obtain ⟨v', hv1', hv2'⟩ := hall'.get hi
      rw [hv] at hv'
      have : vs = vs' := by simpa using hv'
      subst this
      rw [hv1] at hv1'
      have : v = v' := by simpa using hv1'
      exact this ▸ hv2'
/-- a tuple of plain values -/
theorem Tup.one {R : VP} {v : Value} {w : World} (h : R v w) : Tup [R] (.tuple #[v]) w := ⟨[v], rfl, .cons h .nil⟩
theorem Tup.two {R R' : VP} {v v' : Value} {w : World} (h : R v w) (h' : R' v' w) : Tup [R, R'] (.tuple #[v, v']) w := ⟨[v, v'], rfl, .cons h (.cons h' .nil)⟩
theorem Tup.three {R R' R'' : VP} {v v' v'' : Value} {w : World} (h : R v w) (h' : R' v' w) (h'' : R'' v'' w) : Tup [R, R', R''] (.tuple #[v, v', v'']) w := ⟨[v, v', v''], rfl, .cons h (.cons h' (.cons h'' .nil))⟩
theorem Tup.four {R1 R2 R3 R4 : VP} {v1 v2 v3 v4 : Value} {w : World} (h1 : R1 v1 w) (h2 : R2 v2 w) (h3 : R3 v3 w) (h4 : R4 v4 w) : Tup [R1, R2, R3, R4] (.tuple #[v1, v2, v3, v4]) w := ⟨[v1, v2, v3, v4], rfl, .cons h1 (.cons h2 (.cons h3 (.cons h4 .nil)))⟩
end
end Go.Proofs.Ytemkogoclljhpaa.L
