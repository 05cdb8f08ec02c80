/- Small things for the walks. -/
import Derived.Test.YtemkogoclljhpaaLF
namespace Go.Proofs.Ytemkogoclljhpaa.L
open Go
set_option linter.unusedVariables false
set_option linter.unusedSimpArgs false

section
variable {B : Base} {P : Program} {M : Mem} {Γ : Env} {Q : Exit → Act → World → Prop} {fn : Func} {o : Oper}
/-! ### 1. Ends -/
theorem Fin.retN {rs : List ResultVar} {Rs : List VP} {R : VP} (hres : fn.results = rs.toArray) (h : ResL P M Γ rs Rs) (hR : ∀ v w, ofAll Rs v w → R v w) : Fin B M Γ .normal (Ret P fn B R) := fun a w s => Fin.ret hres h hR a w s
theorem Fin.retV {u v : Value} {rs : List ResultVar} (hres : fn.results = rs.toArray) (h : ResL P M Γ rs [is u]) (e : u = v) : Fin B M Γ .ret (Ret P fn B (is v)) := Fin.ret hres h fun _ _ h => e ▸ h
theorem Fin.retVN {u v : Value} {rs : List ResultVar} (hres : fn.results = rs.toArray) (h : ResL P M Γ rs [is u]) (e : u = v) : Fin B M Γ .normal (Ret P fn B (is v)) := Fin.retN hres h fun _ _ h => e ▸ h
inductive ImpL : List VP → List VP → Prop where
  | nil : ImpL [] []
  | cons {R R' : VP} {Rs Rs' : List VP} (h : ∀ v w, R v w → R' v w) (r : ImpL Rs Rs') : ImpL (R :: Rs) (R' :: Rs')
theorem ImpL.all {Rs Rs' : List VP} (h : ImpL Rs Rs') {w : World} {vs : List Value} (a : All2 w Rs vs) : All2 w Rs' vs := by
  induction h generalizing vs with
  | nil => exact a
  | cons h r ih => cases a with | cons h1 r1 => exact .cons (h _ _ h1) (ih r1)
theorem ofAll_imp {Rs Rs' : List VP} (i : ImpL Rs Rs') : ∀ v w, ofAll Rs v w → ofAll Rs' v w := by
  intro v w h
  cases i with
  | nil => exact h
  | cons h1 r =>
    cases r with
    | nil => exact h1 _ _ h
    | cons h2 r =>
      obtain ⟨vs, e, a⟩ := h
      exact ⟨vs, e, (ImpL.cons h1 (.cons h2 r)).all a⟩
theorem iv {u v : Value} (e : u = v) : ∀ x w, is u x w → is v x w := fun _ _ h => e ▸ h
theorem Fin.retI {rs : List ResultVar} {Rs Rs' : List VP} (hres : fn.results = rs.toArray) (h : ResL P M Γ rs Rs) (i : ImpL Rs Rs') : Fin B M Γ .ret (Ret P fn B (ofAll Rs')) := Fin.ret hres h (ofAll_imp i)
theorem Fin.retIN {rs : List ResultVar} {Rs Rs' : List VP} (hres : fn.results = rs.toArray) (h : ResL P M Γ rs Rs) (i : ImpL Rs Rs') : Fin B M Γ .normal (Ret P fn B (ofAll Rs')) := Fin.retN hres h (ofAll_imp i)
/-- a joint: both ways come to one state -/
def Reach {γ : Type} (B : Base) (I : γ → Prop) (SM : γ → Mem) (SΓ : γ → Env) : Act → World → Prop := fun a w => ∃ g, I g ∧ St B (SM g) (SΓ g) a w
theorem Tr.seqJ {γ : Type} {x y : Code} (I : γ → Prop) (SM : γ → Mem) (SΓ : γ → Env) (h : Tr B P M Γ x (Exit.then (Reach B I SM SΓ) Q)) (k : ∀ g, I g → Tr B P (SM g) (SΓ g) y Q) : Tr B P M Γ (.seq x y) Q :=
  fun a w s => wp_seq (Code.wp_mono (fun e a w q => by
    cases e with
    | normal => obtain ⟨g, hI, hs⟩ := q; exact k g hI a w hs
    | _ => exact q) (h a w s))
theorem Fin.reach {γ : Type} {I : γ → Prop} {SM : γ → Mem} {SΓ : γ → Env} (g : γ) (hI : I g) (hM : SubM M (SM g)) (hΓ : Sub Γ (SΓ g)) : Fin B M Γ .normal (Exit.then (Reach B I SM SΓ) Q) := fun a w s => ⟨g, hI, s.sub hM.to hΓ.to⟩
/-- what stands in slots that nobody reads any more is struck -/
inductive Keep (Γ : Env) : List Nat → Env → Prop where
  | nil : Keep Γ [] []
  | cons {t : Nat} {R : VP} {ts : List Nat} {Γ' : Env} (h : Γ.get t = some R) (r : Keep Γ ts Γ') : Keep Γ (t :: ts) ((t, R) :: Γ')
theorem Keep.sub {ts : List Nat} {Γ' : Env} (h : Keep Γ ts Γ') : Sub Γ Γ' := by
  induction h with
  | nil => exact .nil
  | cons h r ih => exact .same h ih
theorem Tr.keep {c : Code} (ts : List Nat) {Γ' : Env} {M' : Mem} (hM : SubM M M') (h : Keep Γ ts Γ') (k : Tr B P M' Γ' c Q) : Tr B P M Γ c Q := Tr.sub hM h.sub k
end

/-! ### 2. Numbers that fit -/
theorem wrap_in {k : IntKind} {n : Int} (h0 : k.min ≤ n) (h1 : n ≤ k.max) : k.wrap n = n := by
  cases k <;> simp only [IntKind.min, IntKind.max, IntKind.signed, IntKind.bits, IntKind.wrap, if_true, if_false, Bool.false_eq_true, Bool.true_and, Bool.false_and] at * <;> (try split) <;> simp_all <;> omega
structure Bd (k : IntKind) (lo hi : Int) : Prop where
  lo : k.min = lo
  hi : k.max = hi
theorem bd_i8 : Bd .i8 (-128) 127 := ⟨by decide, by decide⟩
theorem bd_u8 : Bd .u8 0 255 := ⟨by decide, by decide⟩
theorem bd_i16 : Bd .i16 (-32768) 32767 := ⟨by decide, by decide⟩
theorem bd_u16 : Bd .u16 0 65535 := ⟨by decide, by decide⟩
theorem bd_i32 : Bd .i32 (-2147483648) 2147483647 := ⟨by decide, by decide⟩
theorem bd_u32 : Bd .u32 0 4294967295 := ⟨by decide, by decide⟩
theorem bd_i64 : Bd .i64 (-9223372036854775808) 9223372036854775807 := ⟨by decide, by decide⟩
theorem bd_u64 : Bd .u64 0 18446744073709551615 := ⟨by decide, by decide⟩
theorem Bd.wrap {k : IntKind} {lo hi n : Int} (b : Bd k lo hi) (h0 : lo ≤ n) (h1 : n ≤ hi) : k.wrap n = n := wrap_in (by rw [b.lo]; exact h0) (by rw [b.hi]; exact h1)
theorem wrap_ex (n : Int) : ∃ q : Int, IntKind.i64.wrap n = n + q * 18446744073709551616 ∧ -9223372036854775808 ≤ IntKind.i64.wrap n ∧ IntKind.i64.wrap n ≤ 9223372036854775807 := by
  have e : IntKind.i64.wrap n = if n % 18446744073709551616 ≥ 9223372036854775808 then n % 18446744073709551616 - 18446744073709551616 else n % 18446744073709551616 := by
    simp [IntKind.wrap, IntKind.bits, IntKind.signed]
  rw [e]
  split
  · exact ⟨-(n / 18446744073709551616) - 1, by omega, by omega, by omega⟩
  · exact ⟨-(n / 18446744073709551616), by omega, by omega, by omega⟩
theorem tdiv_in {m n lo hi : Int} (hn : 0 < n) (hl : lo ≤ 0) (hh : 0 ≤ hi) (h0 : lo ≤ m) (h1 : m ≤ hi) : lo ≤ m.tdiv n ∧ m.tdiv n ≤ hi := by
  rcases Int.le_total 0 m with h | h
  · have a := Int.tdiv_nonneg h (Int.le_of_lt hn)
    have b : m.tdiv n ≤ m := by
      rw [Int.tdiv_eq_ediv_of_nonneg h]
      exact Int.ediv_le_self n h
    omega
  · have e : m.tdiv n = -((-m).tdiv n) := by rw [Int.neg_tdiv]; omega
    have a := Int.tdiv_nonneg (show 0 ≤ -m by omega) (Int.le_of_lt hn)
    have b : (-m).tdiv n ≤ -m := by
      rw [Int.tdiv_eq_ediv_of_nonneg (by omega)]
      exact Int.ediv_le_self n (by omega)
    omega
section
variable {P : Program} {M : Mem} {Γ : Env} {o : Oper} {x y : Operand} {t u : TypeId} {k yk : IntKind} {m n lo hi : Int}
theorem OpM.quoI (b : Bd k lo hi) (ho : o.op = .binOp .quo t x y u) (hx : Has M Γ x (is (.int k m))) (hy : Has M Γ y (is (.int k n))) (hn : 0 < n) (hl : lo ≤ 0) (h0 : lo ≤ m) (h1 : m ≤ hi) : OpM P M Γ o (is (.int k (m.tdiv n))) := by
  have := OpM.quo (P := P) ho hx hy (by omega)
  have hh : 0 ≤ hi := by rw [← b.hi]; cases k <;> decide
  have hr := tdiv_in hn hl hh h0 h1
  rwa [b.wrap hr.1 hr.2] at this
theorem OpM.addI (b : Bd k lo hi) (ho : o.op = .binOp .add t x y u) (hx : Has M Γ x (is (.int k m))) (hy : Has M Γ y (is (.int k n))) (h0 : lo ≤ m + n) (h1 : m + n ≤ hi) : OpM P M Γ o (is (.int k (m + n))) := by
  have := OpM.add (P := P) ho hx hy
  rwa [b.wrap h0 h1] at this
theorem OpM.subI (b : Bd k lo hi) (ho : o.op = .binOp .sub t x y u) (hx : Has M Γ x (is (.int k m))) (hy : Has M Γ y (is (.int k n))) (h0 : lo ≤ m - n) (h1 : m - n ≤ hi) : OpM P M Γ o (is (.int k (m - n))) := by
  have := OpM.sub (P := P) ho hx hy
  rwa [b.wrap h0 h1] at this
theorem OpM.convI (b : Bd yk lo hi) (ho : o.op = .convert t u x) (hx : Has M Γ x (is (.int k m))) (ht : (P.underlying t).isSome = true) (hu : P.underlying u = some (.int yk)) (h0 : lo ≤ m) (h1 : m ≤ hi) : OpM P M Γ o (is (.int yk m)) := by
  have := OpM.conv (P := P) ho hx ht hu
  rwa [b.wrap h0 h1] at this

/-! ### 3. min, max; equality of structs -/
theorem run_min2 {w : World} : (Builtin.min_ #[t, t] u #[.int k m, .int k n]).run P w = .ok (.int k (min m n)) w := by
  have : (if n < m then n else m) = min m n := by rw [Int.min_def]; split <;> split <;> omega
  simp [Builtin.min_, Builtin.min2, this]
theorem OpM.min2 {t' : TypeId} (ho : o.op = .call ⟨.builtin .min, #[x, y], #[t, t']⟩) (hx : Has M Γ x (is (.int k m))) (hy : Has M Γ y (is (.int k n))) : OpM P M Γ o (is (.int k (min m n))) :=
  OpM.isv fun a w κ hm hr => by
    have e1 := hx.val hm hr (by simp [ho, Op.operands, Call.operands])
    have e2 := hy.val hm hr (by simp [ho, Op.operands, Call.operands])
    have : (if n < m then n else m) = min m n := by rw [Int.min_def]; split <;> split <;> omega
    unfold execOp
    rw [ho]
    simp [resolve, invoke, builtin, e1, e2, Builtin.min_, Builtin.min2, this]
theorem OpM.max2 {t' : TypeId} (ho : o.op = .call ⟨.builtin .max, #[x, y], #[t, t']⟩) (hx : Has M Γ x (is (.int k m))) (hy : Has M Γ y (is (.int k n))) : OpM P M Γ o (is (.int k (max m n))) :=
  OpM.isv fun a w κ hm hr => by
    have e1 := hx.val hm hr (by simp [ho, Op.operands, Call.operands])
    have e2 := hy.val hm hr (by simp [ho, Op.operands, Call.operands])
    have : (if n > m then n else m) = max m n := by rw [Int.max_def]; split <;> split <;> omega
    unfold execOp
    rw [ho]
    simp [resolve, invoke, builtin, e1, e2, Builtin.max_, Builtin.max2, this]
theorem OpM.min3 {z : Operand} {l : Int} {t' t'' : TypeId} (ho : o.op = .call ⟨.builtin .min, #[x, y, z], #[t, t', t'']⟩) (hx : Has M Γ x (is (.int k m))) (hy : Has M Γ y (is (.int k n))) (hz : Has M Γ z (is (.int k l))) : OpM P M Γ o (is (.int k (min (min m n) l))) :=
  OpM.isv fun a w κ hm hr => by
    have e1 := hx.val hm hr (by simp [ho, Op.operands, Call.operands])
    have e2 := hy.val hm hr (by simp [ho, Op.operands, Call.operands])
    have e3 := hz.val hm hr (by simp [ho, Op.operands, Call.operands])
    have f : ∀ m n : Int, (if n < m then n else m) = min m n := by intro m n; rw [Int.min_def]; split <;> split <;> omega
    unfold execOp
    rw [ho]
    simp [resolve, invoke, builtin, e1, e2, e3, Builtin.min_, Builtin.min2, f]
theorem OpM.max3 {z : Operand} {l : Int} {t' t'' : TypeId} (ho : o.op = .call ⟨.builtin .max, #[x, y, z], #[t, t', t'']⟩) (hx : Has M Γ x (is (.int k m))) (hy : Has M Γ y (is (.int k n))) (hz : Has M Γ z (is (.int k l))) : OpM P M Γ o (is (.int k (max (max m n) l))) :=
  OpM.isv fun a w κ hm hr => by
    have e1 := hx.val hm hr (by simp [ho, Op.operands, Call.operands])
    have e2 := hy.val hm hr (by simp [ho, Op.operands, Call.operands])
    have e3 := hz.val hm hr (by simp [ho, Op.operands, Call.operands])
    have f : ∀ m n : Int, (if n > m then n else m) = max m n := by intro m n; rw [Int.max_def]; split <;> split <;> omega
    unfold execOp
    rw [ho]
    simp [resolve, invoke, builtin, e1, e2, e3, Builtin.max_, Builtin.max2, f]
/-- equality of two structs, whose run is a closed fact over their cells -/
theorem OpM.eqlS {cs ds : Array Value} {b : Bool} (ho : o.op = .binOp .eql t x y u) (hx : Has M Γ x (is (.agg cs))) (hy : Has M Γ y (is (.agg ds))) (hg : P.eqGuardType P.depth t = false)
    (h : ∀ w, (Op.equalIn 10000 t (.agg cs) (.agg ds)).run P w = .ok b w) : OpM P M Γ o (is (.bool b)) :=
  OpM.bin .eql ho hx hy fun w => by
    rw [Sem.run_bind, run_eqGuard_agg w .eql t x y cs ds hg, Result.andThen_ok, run_eql_struct w t cs ds, h w]
    rfl
theorem OpM.neqS {cs ds : Array Value} {b : Bool} (ho : o.op = .binOp .neq t x y u) (hx : Has M Γ x (is (.agg cs))) (hy : Has M Γ y (is (.agg ds))) (hg : P.eqGuardType P.depth t = false)
    (h : ∀ w, (Op.equalIn 10000 t (.agg cs) (.agg ds)).run P w = .ok b w) : OpM P M Γ o (is (.bool !b)) :=
  OpM.bin .neq ho hx hy fun w => by
    rw [Sem.run_bind, run_eqGuard_agg w .neq t x y cs ds hg, Result.andThen_ok, run_neq_struct w t cs ds, h w]
    rfl
end
end Go.Proofs.Ytemkogoclljhpaa.L
