/- Structs built of parts known by facts; pointers into own slices. -/
import Derived.Test.YtemkogoclljhpaaLU
namespace Go.Proofs.Ytemkogoclljhpaa.L
open Go
set_option linter.unusedVariables false
set_option linter.unusedSimpArgs false
set_option linter.unusedSectionVars false

/-! ### 1. Parts of a struct by facts -/
inductive HasPR (M : Mem) (Γ : Env) : List (Nat × Operand) → List (Nat × VP) → Prop where
  | nil : HasPR M Γ [] []
  | cons {i : Nat} {x : Operand} {xs : List (Nat × Operand)} {R : VP} {Rs : List (Nat × VP)} (h : Has M Γ x R) (r : HasPR M Γ xs Rs) : HasPR M Γ ((i, x) :: xs) ((i, R) :: Rs)
inductive AllPR (w : World) : List (Nat × VP) → List (Nat × Value) → Prop where
  | nil : AllPR w [] []
  | cons {i : Nat} {R : VP} {Rs : List (Nat × VP)} {v : Value} {vs : List (Nat × Value)} (h : R v w) (r : AllPR w Rs vs) : AllPR w ((i, R) :: Rs) ((i, v) :: vs)
theorem HasPR.get {M : Mem} {Γ : Env} {xs : List (Nat × Operand)} {Rs : List (Nat × VP)} (h : HasPR M Γ xs Rs) {a : Act} {w : World} {κ : Nat → Nat} {ys : List Operand} (m : MemOk κ M w) (r : RegOn (live κ) Γ ys a w) (hs : ∀ x ∈ xs, x.2 ∈ ys) :
    ∀ w', Keeps (live κ) w w' → AllPR w' Rs (xs.map fun (i, x) => (i, a.eval x)) := by
  induction h with
  | nil => intro w' _; exact .nil
  | cons h k ih =>
    rename_i i x xs R Rs
    intro w' kw
    exact .cons (h.box m r (hs (i, x) (by simp)) w' kw) (ih (fun x hx => hs x (by simp [hx])) w' kw)
section
variable {P : Program} {M : Mem} {Γ : Env} {o : Oper} {t : TypeId}
theorem OpM.buildF {ps : Array (Nat × Operand)} {Rs : List (Nat × VP)} {Ss : List VP} (ho : o.op = .build t ps) (hp : HasPR M Γ ps.toList Rs)
    (hb : ∀ w vs, AllPR w Rs vs → ∃ cs : List Value, P.built t vs = some cs.toArray ∧ All2 w Ss cs) : OpM P M Γ o (AggR Ss) :=
  OpM.pure fun a w κ _ hm hr => by
    have hg := hp.get hm hr (by intro x hx; simp [ho, Op.operands]; exact ⟨x.1, by simpa using hx⟩)
    have e : (ps.map fun (i, x) => (i, a.eval x)).toList = ps.toList.map fun (i, x) => (i, a.eval x) := by rw [Array.toList_map]
    obtain ⟨cs, hbt, _⟩ := hb w _ (hg w (Keeps.refl _ _))
    refine ⟨.agg cs.toArray, ?_, fun w' k => ?_⟩
    · unfold execOp
      rw [ho]
      simp only
      rw [Sem.run_bind, run_build w t _ cs.toArray (by rw [e]; exact hbt)]
      rfl
    · obtain ⟨cs', hbt', hall⟩ := hb w' _ (hg w' k)
      rw [hbt] at hbt'
      have : cs = cs' := by simpa using hbt'
      subst this
      exact ⟨cs, rfl, hall⟩
variable {B : Base} {ops : Array Oper} {l : List Oper} {Q : Exit → Act → World → Prop}
/-- an operation behind a guard that lets it by -/
theorem TrL.unguard {j d : Nat} {want : Bool} (hg : o.guard = some (j, want)) (hd : (ops[j]?).bind (·.dst) = some d) (hb : Γ.get d = some (is (.bool want)))
    (k : TrL B P ops ({ o with guard := none } :: l) M Γ Q) : TrL B P ops (o :: l) M Γ Q := fun a w s => by
  have h2 := k a w s
  obtain ⟨κ, g, m, r⟩ := s.ex
  have hv : a.eval (.tmp d) = .bool want := (r d _ hb).now
  have hy := yielded_of hd hv (eval_lt hv)
  simp only [asB] at hy
  unfold wpList at h2 ⊢
  rw [if_pos (by simp [Region.wanted, hg, hy])]
  rw [if_pos (by simp [Region.wanted])] at h2
  exact h2
end
end Go.Proofs.Ytemkogoclljhpaa.L
