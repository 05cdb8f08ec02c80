/- Functions: what is asked of the arguments, what holds of the result; calls, entries, returns. This call's own variables in memory. -/
import Derived.Test.YtemkogoclljhpaaLD
namespace Go.Proofs.Ytemkogoclljhpaa.L
open Go
set_option linter.unusedVariables false
set_option linter.unusedSimpArgs false

/-! ### 1. Functions that leave alone what was there -/
inductive ArgsOk (S : Foot) (w : World) : List VP → List Value → Prop where
  | nil : ArgsOk S w [] []
  | cons {R : VP} {Rs : List VP} {v : Value} {vs : List Value} (h : Box S R v w) (r : ArgsOk S w Rs vs) : ArgsOk S w (R :: Rs) (v :: vs)
structure FnP (P : Program) (f : FuncId) (As : List VP) (R : VP) : Prop where
  name : nameB P f = true
  calls : ∀ (args : Array Value) (w : World) (S : Foot), (∀ b, w.heap.size ≤ b → ¬ S b) → ArgsOk S w As args.toList →
    Calls P f args w fun e w' => ∃ v, e = .returned v ∧ Keeps (fun _ => False) w w' ∧ Box S R v w'

theorem FnP.post {P : Program} {f : FuncId} {As : List VP} {R R' : VP} (h : FnP P f As R) (i : ∀ v w, R v w → R' v w) : FnP P f As R' :=
  ⟨h.name, fun args w S hS ha => (h.calls args w S hS ha).mono fun e w' ⟨v, e1, k, b⟩ => ⟨v, e1, k, b.map i⟩⟩

theorem run_callFunc {P : Program} {f : FuncId} (h : nameB P f = true) (args : Array Value) (w : World) : (callFunc f args).run P w = .ok (.enter f args) w := by
  unfold nameB at h
  cases hf : P.funcs[f]? with
  | none => rw [hf] at h; cases h
  | some fn =>
    rw [hf] at h
    simp only [Bool.and_eq_true, Bool.not_eq_true'] at h
    cases hb : fn.body with
    | none => rw [hb] at h; simp at h
    | some c =>
      have h1 : ¬ fn.name = "runtime.NumGoroutine" := by simpa using h.1
      simp [callFunc, hf, hb, h1]

inductive HasAs (M : Mem) (Γ : Env) : List Operand → List VP → Prop where
  | nil : HasAs M Γ [] []
  | cons {x : Operand} {xs : List Operand} {R : VP} {Rs : List VP} (h : Has M Γ x R) (r : HasAs M Γ xs Rs) : HasAs M Γ (x :: xs) (R :: Rs)
theorem HasAs.args {M : Mem} {Γ : Env} {xs : List Operand} {Rs : List VP} (h : HasAs M Γ xs Rs) {a : Act} {w : World} {κ : Nat → Nat} {ys : List Operand} (m : MemOk κ M w) (r : RegOn (live κ) Γ ys a w) (hs : ∀ x ∈ xs, x ∈ ys) : ArgsOk (live κ) w Rs (xs.map a.eval) := by
  induction h with
  | nil => exact .nil
  | cons h k ih => exact .cons (h.box m r (hs _ (by simp))) (ih fun x hx => hs x (by simp [hx]))
theorem ArgsOk.append {S : Foot} {w : World} {As Bs : List VP} {vs us : List Value} (h : ArgsOk S w As vs) (k : ArgsOk S w Bs us) : ArgsOk S w (As ++ Bs) (vs ++ us) := by
  induction h with
  | nil => exact k
  | cons h r ih => exact .cons h ih
theorem ArgsOk.of_is {S : Foot} {w : World} : ∀ vs : List Value, ArgsOk S w (vs.map is) vs
  | [] => .nil
  | v :: vs => .cons Box.is (ArgsOk.of_is vs)

section
variable {P : Program} {M : Mem} {Γ : Env} {o : Oper}
/-- what the operation of a call comes to -/
theorem run_call {g : Operand} {xs : Array Operand} {ts : Array TypeId} {f : FuncId} {first caps : List Value} (ho : o.op = .call ⟨.value g, xs, ts⟩) (hn : nameB P f = true) {a : Act} {w : World}
    (hg : a.eval g = .func (.func f) first.toArray caps.toArray) : (execOp a.eval o).run P w = .ok (.enter f (first ++ xs.toList.map a.eval ++ caps).toArray) w := by
  unfold execOp
  rw [ho]
  simp only [resolve, hg, Deferred.ofValue, Sem.run_bind, Sem.run_pure, Result.andThen_ok, invoke]
  rw [run_callFunc hn]
  congr 2
  apply Array.toList_inj.1
  simp
theorem OpM.callV {g : Operand} {xs : Array Operand} {ts : Array TypeId} {f : FuncId} {first caps : List Value} {As : List VP} {R : VP} (ho : o.op = .call ⟨.value g, xs, ts⟩)
    (hg : Has M Γ g (is (.func (.func f) first.toArray caps.toArray))) (hf : FnP P f (first.map is ++ As ++ caps.map is) R) (hx : HasAs M Γ xs.toList As) : OpM P M Γ o R := by
  intro a w κ Q K hw hm hr hK
  unfold Oper.wp
  rw [run_call ho hf.name (hg.val hm hr (by simp [ho, Op.operands, Call.operands])), Oper.upon_enter]
  refine (hf.calls _ w (live κ) (fun b hb hl => hl (hw b hb)) ?_).mono fun e w' he => ?_
  · exact ((ArgsOk.of_is first).append (hx.args hm hr (by intro x hx; rw [ho]; simp [Op.operands, Call.operands]; exact .inr (by simpa using hx)))).append (ArgsOk.of_is caps)
  · obtain ⟨v, rfl, k, hR⟩ := he
    exact hK v w' k hR
/-- a call by name -/
theorem OpM.call {xs : Array Operand} {ts : Array TypeId} {f : FuncId} {As : List VP} {R : VP} (ho : o.op = .call ⟨.value (.func f), xs, ts⟩) (hf : FnP P f As R) (hx : HasAs M Γ xs.toList As) : OpM P M Γ o R :=
  OpM.callV (first := []) (caps := []) ho (.of rfl) (by simpa using hf) hx
end

/-! ### 2. Entry -/
def envOf : Nat → List VP → Env
  | _, [] => []
  | k, R :: Rs => (k, R) :: envOf (k + 1) Rs
open Classical in
noncomputable def base (N : Nat) (w : World) (S : Foot) : Base := ⟨N, Nat.ble 2, w, fun b => if S b then 1 else 0⟩
/-- what a return owes -/
def Ret (P : Program) (fn : Func) (B : Base) (R : VP) : Exit → Act → World → Prop :=
  bodyPost P fn fun e w' => ∃ v, e = .returned v ∧ Keeps (fun b => B.own (B.κ0 b) = true) B.w0 w' ∧ Box (fun b => b < B.w0.heap.size ∧ B.κ0 b = 1) R v w'

theorem reg_args {S : Foot} {w : World} {As : List VP} {vs : List Value} (h : ArgsOk S w As vs) : ∀ (k : Nat) (a : Act), (∀ i, i < vs.length → a.eval (.tmp (k + i)) = vs.getD i undef) → RegOk S (envOf k As) a w := by
  induction h with
  | nil => intro k a _ t R h; simp [envOf, Env.get] at h
  | cons h r ih =>
    rename_i R0 Rs v vs
    intro k a ha t R ht
    simp only [envOf, Env.get] at ht
    cases hb : Nat.beq k t with
    | true =>
      rw [hb] at ht
      simp only [cond_true, Option.some.injEq] at ht
      subst ht
      obtain rfl := beq_true hb
      have := ha 0 (by simp)
      simp only [Nat.add_zero] at this
      rw [this]
      exact h
    | false =>
      rw [hb] at ht
      refine ih (k + 1) a (fun i hi => ?_) t R ht
      have := ha (i + 1) (by simpa using hi)
      rw [show k + 1 + i = k + (i + 1) by omega, this]
      simp
theorem post_mono {P : Program} {fn : Func} {R R' : Ending → World → Prop} (h : ∀ e w, R e w → R' e w) {e : Exit} {a : Act} {w : World} (q : bodyPost P fn R e a w) : bodyPost P fn R' e a w := by
  cases e with
  | normal => exact ⟨q.1, let ⟨v, h1, h2⟩ := q.2; ⟨v, h1, h _ _ h2⟩⟩
  | ret => exact ⟨q.1, let ⟨v, h1, h2⟩ := q.2; ⟨v, h1, h _ _ h2⟩⟩
  | panic ch => exact ⟨q.1, h _ _ q.2⟩
  | exit i => exact q
  | goto i => exact q
  | outgrown => exact h _ _ q
theorem FnP.mk' {P : Program} {f : FuncId} {fn : Func} {c : Code} {As : List VP} {R : VP} (hf : P.funcs[f]? = some fn) (hn : nameB P f = true) (hb : fn.body = some c) {N : Nat} (hN : fn.ntmps = N) (hA : Nat.ble As.length N = true)
    (h : ∀ B : Base, B.N = N → (∀ b, B.κ0 b < 2) → Tr ⟨N, Nat.ble 2, B.w0, B.κ0⟩ P [] (envOf 0 As) c (Ret P fn ⟨N, Nat.ble 2, B.w0, B.κ0⟩ R)) : FnP P f As R := by
  refine ⟨hn, fun args w S hS ha => calls_of_wp hf hb ?_⟩
  have hB := h (base N w S) rfl (by intro b; simp only [base]; split <;> omega)
  have hlen : args.size = As.length := by
    clear hB
    have : ∀ {As : List VP} {vs : List Value}, ArgsOk S w As vs → vs.length = As.length := by
      intro As vs h
      induction h with
      | nil => rfl
      | cons h r ih => simp [ih]
    have := this ha
    simpa using this
  have hA' : As.length ≤ N := by simpa [Nat.ble_eq] using hA
  have hlive : ∀ b, live (base N w S).κ0 b ↔ S b := by intro b; simp only [live, base]; split <;> simp_all
  refine Code.wp_mono (fun e a w' q => ?_) (hB _ w ⟨?_, rfl, (base N w S).κ0, ⟨fun n h => by simpa [Nat.ble_eq] using h, fun b hb => ?_, Keeps.refl _ _, fun _ _ _ => rfl⟩, fun l φ _ hl => by simp [Mem.get] at hl, ?_⟩)
  · refine post_mono (fun e w'' hh => ?_) q
    obtain ⟨v, e1, k, b⟩ := hh
    refine ⟨v, e1, k.mono fun b _ h2 => ?_, fun w3 k3 => b w3 (k3.mono fun b _ hs => ⟨?_, ?_⟩)⟩
    · have : (base N w S).κ0 b < 2 := by simp only [base]; split <;> omega
      exact absurd (show 2 ≤ (base N w S).κ0 b from Nat.le_of_ble_eq_true h2) (by omega)
    · exact Classical.byContradiction fun hn => hS b (Nat.not_lt.1 hn) hs
    · show (base N w S).κ0 b = 1
      simp only [base]; rw [if_pos hs]
  · simp [hN, hlen]; omega
  · simp only [base]; rw [if_neg (hS b hb)]
  · refine reg_args (S := live (base N w S).κ0) (vs := args.toList) ?_ 0 _ fun i hi => ?_
    · have : live (base N w S).κ0 = S := funext fun b => propext (hlive b)
      rw [this]; exact ha
    · simp only [Nat.zero_add, Act.eval]
      have hi' : i < args.size := by simpa using hi
      rw [Array.getD_eq_getD_getElem?, Array.getElem?_append_left hi', List.getD_eq_getElem?_getD]
      simp

/-! ### 3. Returns -/
section
variable {P : Program} {M : Mem} {Γ : Env} {fn : Func} {B : Base} {R : VP}
/-- a result's variable -/
def ResV (P : Program) (M : Mem) (Γ : Env) (r : ResultVar) (R : VP) : Prop := ∀ (a : Act) (w : World) (κ : Nat → Nat), Wf κ w → MemOk κ M w → RegOk (live κ) Γ a w →
  ∃ v, (match r with | .tmp t => (pure (a.tmps.getD t undef) : Sem Value) | .cell x t => do loadVar t (← asAddr (a.tmps.getD x undef))).run P w = .ok v w ∧ Box (live κ) R v w
theorem ResV.tmp {t : Nat} (h : Γ.get t = some R) : ResV P M Γ (.tmp t) R := fun a w κ _ _ r => ⟨_, rfl, r t R h⟩
theorem ResV.cellN {t n : Nat} {ty : TypeId} {Rs : List VP} {ds : List Value} (h : Γ.get t = some (Cells Rs)) (ht : aggB P ty n = true) (hd : Rs.take n = ds.map is) (hn : ds.length = n) : ResV P M Γ (.cell t ty) (is (.agg ds.toArray)) := fun a w κ _ _ r => by
  obtain ⟨ad, cs, e, hf⟩ := Cells.fix (r t _ h)
  have hall := (hf w (Keeps.refl _ _)).1
  have hc := (hf w (Keeps.refl _ _)).2
  have e1 : cs.take n = ds := (hd ▸ hall.take n).is
  have hl := run_loadVarN (P := P) (w := w) (n := n) (cs := ds) ht hn (e1 ▸ hc.take n)
  refine ⟨.agg ds.toArray, ?_, Box.is⟩
  have e2 : a.tmps.getD t undef = .pointer (some ad) := e
  simp only [e2, asAddr, Sem.run_bind, Sem.run_pure, Result.andThen_ok, hl]
inductive ResL (P : Program) (M : Mem) (Γ : Env) : List ResultVar → List VP → Prop where
  | nil : ResL P M Γ [] []
  | cons {r : ResultVar} {rs : List ResultVar} {R : VP} {Rs : List VP} (h : ResV P M Γ r R) (k : ResL P M Γ rs Rs) : ResL P M Γ (r :: rs) (R :: Rs)
def ofAll : List VP → VP
  | [R] => R
  | Rs => Tup Rs
theorem ResL.run {rs : List ResultVar} {Rs : List VP} (h : ResL P M Γ rs Rs) {a : Act} {w : World} {κ : Nat → Nat} (hw : Wf κ w) (hm : MemOk κ M w) (hr : RegOk (live κ) Γ a w) :
    ∃ vs : List Value, ((rs.mapM fun | .tmp t => (pure (a.tmps.getD t undef) : Sem Value) | .cell x t => do loadVar t (← asAddr (a.tmps.getD x undef))) : Sem (List Value)).run P w = .ok vs w ∧ vs.length = Rs.length ∧ ∀ w', Keeps (live κ) w w' → All2 w' Rs vs := by
  induction h with
  | nil => exact ⟨[], by simp, rfl, fun _ _ => .nil⟩
  | cons h k ih =>
    obtain ⟨vs, h1, h2, h3⟩ := ih
    obtain ⟨v, h4, h5⟩ := h a w κ hw hm hr
    refine ⟨v :: vs, ?_, by simp [h2], fun w' k => .cons (h5 w' k) (h3 w' k)⟩
    rw [List.mapM_cons]
    simp only [Sem.run_bind, h4, Result.andThen_ok, h1]
    rfl
def packV : List Value → Value
  | [v] => v
  | vs => .tuple vs.toArray
theorem packV_eq (vs : List Value) : (if h : vs.toArray.size = 1 then vs.toArray[0] else Value.tuple vs.toArray) = packV vs := by
  match vs with
  | [] => rfl
  | [v] => rfl
  | v :: u :: vs => rw [dif_neg (by simp)]; rfl
theorem ofAll_pack {w : World} {Rs : List VP} {vs : List Value} (h : All2 w Rs vs) : ofAll Rs (packV vs) w := by
  cases h with
  | nil => exact ⟨[], rfl, .nil⟩
  | cons h1 r =>
    cases r with
    | nil => exact h1
    | cons h2 r => exact ⟨_, rfl, .cons h1 (.cons h2 r)⟩
theorem Fin.ret {rs : List ResultVar} {Rs : List VP} (hres : fn.results = rs.toArray) (h : ResL P M Γ rs Rs) (hR : ∀ v w, ofAll Rs v w → R v w) : Fin B M Γ .ret (Ret P fn B R) := by
  intro a w s
  obtain ⟨κ, g, m, r⟩ := s.ex
  obtain ⟨vs, h1, h2, h3⟩ := h.run g.wf m r
  have hrun : (results fn a.tmps).run P w = .ok (packV vs) w := by
    unfold results
    rw [hres, List.mapM_toArray]
    simp only [Sem.run_bind, Sem.run_map]
    refine (congrArg (fun r : Result (List Value) => (r.andThen fun a w' => Result.ok a.toArray w').andThen fun (a : Array Value) w' => Sem.run P (pure (if h : a.size = 1 then a[0] else Value.tuple a)) w') h1).trans ?_
    simp only [Result.andThen_ok, Sem.run_pure, packV_eq]
  refine ⟨s.defers, _, hrun, _, rfl, g.keeps, fun w' k => hR _ _ (ofAll_pack (h3 w' (k.mono fun b _ hl => ?_)))⟩
  have : κ b = 1 := by rw [g.old b hl.1 (by rw [hl.2]; cases h : B.own 1 with | false => rfl | true => exact absurd (g.two 1 h) (by omega)), hl.2]
  unfold live
  omega
end
end Go.Proofs.Ytemkogoclljhpaa.L
