/- One operation: what its result is good for. A statement's operations, in the text's order; and in whatever order is drawn. -/
import Derived.Test.YtemkogoclljhpaaLA
namespace Go.Proofs.Ytemkogoclljhpaa.L
open Go
set_option linter.unusedVariables false

def guardOpd (ops : Array Oper) (o : Oper) : List Operand :=
  match o.guard with
  | none => []
  | some (j, _) => match (ops[j]?).bind (·.dst) with
    | some d => [.tmp d]
    | none => []
def reads (ops : Array Oper) (o : Oper) : List Operand := o.op.operands.toList ++ guardOpd ops o

/-- an operation that has no guard, or whose guard lets it by -/
def OpM (P : Program) (M : Mem) (Γ : Env) (o : Oper) (R : VP) : Prop :=
  ∀ (a : Act) (w : World) (κ : Nat → Nat) (Q : Exit → Act → World → Prop) (K : Act → World → Prop), Wf κ w → MemOk κ M w → RegOn (live κ) Γ o.op.operands.toList a w →
    (∀ v w', Keeps (fun _ => False) w w' → Box (live κ) R v w' → K (a.put o.dst v) w') → o.wp P a w K Q

def OpG (P : Program) (M : Mem) (ops : Array Oper) (Γ : Env) (o : Oper) (R : VP) : Prop :=
  ∀ (a : Act) (w : World) (κ : Nat → Nat) (Q : Exit → Act → World → Prop) (K : Act → World → Prop), Wf κ w → MemOk κ M w → RegOn (live κ) Γ (reads ops o) a w →
    (∀ v w', Keeps (fun _ => False) w w' → Box (live κ) R v w' → K (a.put o.dst v) w') →
    if Region.wanted o (yielded ops a.tmps) then o.wp P a w K Q else K (a.put o.dst undef) w

/-- the fact on the slot of an operation behind a guard -/
def Cond (p : Prop) (R : VP) : VP := fun v w => (p → R v w) ∧ (¬ p → v = undef)

section
variable {P : Program} {M : Mem} {Γ : Env} {ops : Array Oper} {o : Oper} {R : VP}

theorem OpG.plain (hg : o.guard = none) (h : OpM P M Γ o R) : OpG P M ops Γ o R := by
  intro a w κ Q K hw hm hr hK
  rw [if_pos (by simp [Region.wanted, hg])]
  exact h a w κ Q K hw hm (fun x hx => hr x (List.mem_append_left _ hx)) hK

def asB : Value → Option Bool | .bool b => some b | _ => none
theorem yielded_of {a : Act} {j d : Nat} (hd : (ops[j]?).bind (·.dst) = some d) {v : Value} (hv : a.eval (.tmp d) = v) (hu : v ≠ undef → d < a.tmps.size) :
    yielded ops a.tmps j = asB v := by
  have y : yielded ops a.tmps j = (a.tmps[d]?).bind asB := by
    unfold yielded
    rw [hd]
    simp only [Option.bind_some]
    cases a.tmps[d]? with
    | none => rfl
    | some v => cases v <;> rfl
  rw [y]
  by_cases hlt : d < a.tmps.size
  · have : a.tmps[d]? = some v := by
      rw [Array.getElem?_eq_getElem hlt]
      have : a.eval (.tmp d) = a.tmps[d] := by simp [Act.eval, hlt]
      rw [← hv, this]
    rw [this]; rfl
  · have hvu : v = undef := Classical.byContradiction fun h => hlt (hu h)
    subst hvu
    rw [Array.getElem?_eq_none (by omega)]
    rfl
theorem eval_lt {a : Act} {d : Nat} {v : Value} (hv : a.eval (.tmp d) = v) : v ≠ undef → d < a.tmps.size := by
  intro h
  rcases Nat.lt_or_ge d a.tmps.size with h' | h'
  · exact h'
  · exact absurd (by rw [← hv]; simp [Act.eval, Array.getElem?_eq_none h']) h

theorem OpG.guarded {j d : Nat} {want b : Bool} (hg : o.guard = some (j, want)) (hd : (ops[j]?).bind (·.dst) = some d) (hb : Γ.get d = some (is (.bool b)))
    (h : b = want → OpM P M Γ o R) : OpG P M ops Γ o (Cond (b = want) R) := by
  intro a w κ Q K hw hm hr hK
  have hv : a.eval (.tmp d) = .bool b := (hr (.tmp d) (List.mem_append_right _ (by simp [guardOpd, hg, hd])) _ hb).now
  have hy := yielded_of hd hv (eval_lt hv)
  simp only [asB] at hy
  by_cases hbw : b = want
  · rw [if_pos (by simp [Region.wanted, hg, hy, hbw])]
    exact h hbw a w κ Q K hw hm (fun x hx => hr x (List.mem_append_left _ hx)) fun v w' k hR => hK v w' k (hR.map fun v w hR => ⟨fun _ => hR, fun hn => absurd hbw hn⟩)
  · rw [if_neg (by simp [Region.wanted, hg, hy, hbw])]
    exact hK _ _ (Keeps.refl _ _) fun w' _ => ⟨fun h => absurd h hbw, fun _ => rfl⟩

theorem OpG.guarded2 {j d : Nat} {want b : Bool} {p : Prop} (hg : o.guard = some (j, want)) (hd : (ops[j]?).bind (·.dst) = some d) (hb : Γ.get d = some (Cond p (is (.bool b))))
    (h : p → b = want → OpM P M Γ o R) : OpG P M ops Γ o (Cond (p ∧ b = want) R) := by
  intro a w κ Q K hw hm hr hK
  have hv := (hr (.tmp d) (List.mem_append_right _ (by simp [guardOpd, hg, hd])) _ hb).now
  by_cases hp : p ∧ b = want
  · have hv' : a.eval (.tmp d) = .bool b := hv.1 hp.1
    have hy := yielded_of hd hv' (eval_lt hv')
    simp only [asB] at hy
    rw [if_pos (by simp [Region.wanted, hg, hy, hp.2])]
    exact h hp.1 hp.2 a w κ Q K hw hm (fun x hx => hr x (List.mem_append_left _ hx)) fun v w' k hR => hK v w' k (hR.map fun v w hR => ⟨fun _ => hR, fun hn => absurd hp hn⟩)
  · have hn : ¬ Region.wanted o (yielded ops a.tmps) = true := by
      by_cases hp1 : p
      · have hv' : a.eval (.tmp d) = .bool b := hv.1 hp1
        have hy := yielded_of hd hv' (eval_lt hv')
        simp only [asB] at hy
        have hne : ¬ b = want := fun e => hp ⟨hp1, e⟩
        simp [Region.wanted, hg, hy, hne]
      · have hv' : a.eval (.tmp d) = undef := hv.2 hp1
        have hy := yielded_of hd hv' (eval_lt hv')
        simp only [undef, asB] at hy
        simp [Region.wanted, hg, hy]
    rw [if_neg hn]
    exact hK _ _ (Keeps.refl _ _) fun w' _ => ⟨fun h => absurd h hp, fun _ => rfl⟩
end

/-! ### In the text's order -/
def dstOk (d : Option Nat) (n : Nat) : Bool := match d with | none => true | some t => Nat.blt t n
theorem dstOk.to {d : Option Nat} {n : Nat} (h : dstOk d n = true) : ∀ t, d = some t → t < n := by
  rintro t rfl
  have : t + 1 ≤ n := by simpa [dstOk, Nat.blt] using h
  omega

section
variable {B : Base} {P : Program} {M : Mem} {Γ : Env} {Q : Exit → Act → World → Prop} {ops : Array Oper} {o : Oper} {l : List Oper} {R : VP}
theorem TrL.step (h : OpG P M ops Γ o R) (hd : dstOk o.dst B.N = true) (k : TrL B P ops l M (Γ.put o.dst R) Q) : TrL B P ops (o :: l) M Γ Q := by
  intro a w s
  obtain ⟨κ, g, m, r⟩ := s.ex
  refine wpList_step fun K hK => ?_
  refine h a w κ Q K g.wf m (r.on _) fun v w' kp hR => hK _ _ (k _ _ ⟨?_, ?_, κ, ?_, ?_, ?_⟩)
  · rw [put_size]; exact s.size
  · rw [put_defers]; exact s.defers
  · exact (Turn.quiet g.wf kp).good g (by simp)
  · exact m.later g.wf kp
  · exact (r.later kp.none).put (by rw [s.size]; exact dstOk.to hd) hR
/-- the same, the slot said -/
theorem TrL.stepS (d : Nat) (h : OpG P M ops Γ o R) (he : o.dst = some d) (hd : Nat.blt d B.N = true) (k : TrL B P ops l M ((d, R) :: Γ) Q) : TrL B P ops (o :: l) M Γ Q :=
  TrL.step h (by rw [he]; exact hd) (by rw [he]; exact k)
theorem TrL.step0 (h : OpG P M ops Γ o R) (he : o.dst = none) (k : TrL B P ops l M Γ Q) : TrL B P ops (o :: l) M Γ Q :=
  TrL.step h (by rw [he]; rfl) (by rw [he]; exact k)
theorem Fin.keepG {e : Exit} {Γ' : Env} (h : Sub Γ Γ') (k : Fin B M Γ' e Q) : Fin B M Γ e Q := fun a w s => k a w (s.sub (fun _ φ _ hl => ⟨φ, hl, fun _ _ _ h => h⟩) h.to)
end

/-! ### In whatever order -/
inductive Chain (P : Program) (M : Mem) (ops : Array Oper) : List Oper → Env → Env → Prop where
  | nil {Γ : Env} : Chain P M ops [] Γ Γ
  | cons {o : Oper} {l : List Oper} {Γ Γ' : Env} {R : VP} (h : OpG P M ops Γ o R) (k : Chain P M ops l (Γ.put o.dst R) Γ') : Chain P M ops (o :: l) Γ Γ'

theorem Chain.consS {P : Program} {M : Mem} {ops : Array Oper} {o : Oper} {l : List Oper} {Γ Γ' : Env} {R : VP} (d : Nat) (h : OpG P M ops Γ o R) (he : o.dst = some d) (k : Chain P M ops l ((d, R) :: Γ) Γ') : Chain P M ops (o :: l) Γ Γ' :=
  .cons h (by rw [he]; exact k)
def envAt (l : List Oper) (Rs : Nat → VP) (Γ : Env) : Nat → Env
  | 0 => Γ
  | i + 1 => match l[i]? with
    | some o => (envAt l Rs Γ i).put o.dst (Rs i)
    | none => envAt l Rs Γ i
theorem envAt_cons (o : Oper) (l : List Oper) (R : VP) (Rs : Nat → VP) (Γ : Env) : ∀ i, envAt (o :: l) (fun n => match n with | 0 => R | m + 1 => Rs m) Γ (i + 1) = envAt l Rs (Γ.put o.dst R) i
  | 0 => rfl
  | i + 1 => by
    have ih := envAt_cons o l R Rs Γ i
    show (match (o :: l)[i + 1]? with | some o' => _ | none => _) = _
    rw [List.getElem?_cons_succ]
    show _ = (match l[i]? with | some o' => _ | none => _)
    cases l[i]? <;> simp [ih]

theorem Chain.envs {P : Program} {M : Mem} {ops : Array Oper} {l : List Oper} {Γ Γ' : Env} (h : Chain P M ops l Γ Γ') :
    ∃ Rs : Nat → VP, (∀ i o, l[i]? = some o → OpG P M ops (envAt l Rs Γ i) o (Rs i)) ∧ envAt l Rs Γ l.length = Γ' := by
  induction h with
  | nil => exact ⟨fun _ => anyV, by simp, rfl⟩
  | cons h k ih =>
    rename_i o l Γ Γ' R
    obtain ⟨Rs, h1, h2⟩ := ih
    refine ⟨fun n => match n with | 0 => R | m + 1 => Rs m, fun i o' ho => ?_, ?_⟩
    · cases i with
      | zero => simp only [List.getElem?_cons_zero, Option.some.injEq] at ho; subst ho; exact h
      | succ i => rw [envAt_cons]; exact h1 i o' (by simpa using ho)
    · rw [List.length_cons, envAt_cons]; exact h2

theorem envAt_get {l : List Oper} {Rs : Nat → VP} {Γ : Env} {t : Nat} {R : VP} : ∀ j, (envAt l Rs Γ j).get t = some R →
    (∃ i o, i < j ∧ l[i]? = some o ∧ o.dst = some t ∧ R = Rs i) ∨ ((∀ i o, i < j → l[i]? = some o → o.dst ≠ some t) ∧ Γ.get t = some R)
  | 0, h => .inr ⟨fun i o hi => absurd hi (by omega), h⟩
  | j + 1, h => by
    simp only [envAt] at h
    have rest : (envAt l Rs Γ j).get t = some R → (∀ o, l[j]? = some o → o.dst ≠ some t) → (∃ i o, i < j + 1 ∧ l[i]? = some o ∧ o.dst = some t ∧ R = Rs i) ∨ ((∀ i o, i < j + 1 → l[i]? = some o → o.dst ≠ some t) ∧ Γ.get t = some R) := fun h hj => by
      rcases envAt_get j h with ⟨i, o, hi, ho, hd, hR⟩ | ⟨hn, hg⟩
      · exact .inl ⟨i, o, by omega, ho, hd, hR⟩
      · refine .inr ⟨fun i o hi ho => ?_, hg⟩
        by_cases e : i = j
        · subst e; exact hj o ho
        · exact hn i o (by omega) ho
    cases ho : l[j]? with
    | none => rw [ho] at h; exact rest h (by simp [ho])
    | some o =>
      rw [ho] at h
      simp only at h
      cases hd : o.dst with
      | none =>
        rw [hd] at h
        refine rest h fun o' ho' => ?_
        have : o' = o := by simpa [ho] using ho'.symm
        rw [this, hd]
        simp
      | some d =>
        rw [hd] at h
        simp only [Env.put, Env.get] at h
        cases hb : Nat.beq d t with
        | true =>
          rw [hb] at h
          simp only [cond_true, Option.some.injEq] at h
          obtain rfl := beq_true hb
          exact .inl ⟨j, o, by omega, ho, hd, h.symm⟩
        | false =>
          rw [hb] at h
          refine rest h fun o' ho' => ?_
          have : o' = o := by simpa [ho] using ho'.symm
          subst this
          rw [hd]
          simpa using beq_ne hb

/-- an edge that binds, and a way of such edges -/
def Edge1 (ops : Array Oper) (i j : Nat) : Prop := ∃ o, ops[j]? = some o ∧ ∃ e ∈ o.after, Region.binds .any e = true ∧ e.on = i
inductive Path (ops : Array Oper) : Nat → Nat → Prop where
  | one {i j : Nat} (h : Edge1 ops i j) : Path ops i j
  | more {i j k : Nat} (h : Path ops i j) (e : Edge1 ops j k) : Path ops i k

/-- of each operation the set of those that it waits for -/
def bitsOf (acc : List Nat) (o : Oper) : Nat := o.after.toList.foldl (fun s e => if Region.binds .any e then s ||| 2 ^ e.on ||| acc.getD e.on 0 else s) 0
def bitsL : List Oper → List Nat → List Nat
  | [], acc => acc
  | o :: l, acc => bitsL l (acc ++ [bitsOf acc o])

theorem fold_bits (acc : List Nat) (i : Nat) : ∀ (es : List Edge) (s : Nat), (es.foldl (fun s e => if Region.binds .any e then s ||| 2 ^ e.on ||| acc.getD e.on 0 else s) s).testBit i = true →
    s.testBit i = true ∨ ∃ e ∈ es, Region.binds .any e = true ∧ (e.on = i ∨ (acc.getD e.on 0).testBit i = true)
  | [], s, h => .inl h
  | e :: es, s, h => by
    rw [List.foldl_cons] at h
    rcases fold_bits acc i es _ h with h | ⟨e', he', hb, hr⟩
    · by_cases hb : Region.binds .any e = true
      · rw [if_pos hb] at h
        simp only [Nat.testBit_or, Bool.or_eq_true] at h
        rcases h with (h | h) | h
        · exact .inl h
        · exact .inr ⟨e, by simp, hb, .inl (by simpa [Nat.testBit_two_pow] using h)⟩
        · exact .inr ⟨e, by simp, hb, .inr h⟩
      · rw [if_neg hb] at h; exact .inl h
    · exact .inr ⟨e', by simp [he'], hb, hr⟩

theorem bitsL_path (ops : Array Oper) : ∀ (l : List Oper) (acc : List Nat), (∀ j, l[j]? = ops[acc.length + j]?) →
    (∀ j b, acc[j]? = some b → ∀ i, b.testBit i = true → Path ops i j) → ∀ j b, (bitsL l acc)[j]? = some b → ∀ i, b.testBit i = true → Path ops i j
  | [], acc, _, h => h
  | o :: l, acc, hl, h => by
    refine bitsL_path ops l _ (fun j => by have := hl (j + 1); simpa [Nat.add_assoc, Nat.add_comm 1 j] using this) fun j b hj i hi => ?_
    rw [List.getElem?_append] at hj
    split at hj
    · exact h j b hj i hi
    · rename_i hlt
      have ho : ops[acc.length]? = some o := by simpa using (hl 0).symm
      have hj0 : j = acc.length := by
        rcases Nat.eq_or_lt_of_le (Nat.not_lt.1 hlt) with e | e
        · exact e.symm
        · rw [List.getElem?_eq_none (by simp; omega)] at hj; simp at hj
      subst hj0
      simp only [Nat.sub_self, List.getElem?_cons_zero, Option.some.injEq] at hj
      subst hj
      rcases fold_bits acc i _ 0 hi with h0 | ⟨e, he, hb, hr⟩
      · simp at h0
      · have h1 : Edge1 ops e.on acc.length := ⟨o, ho, e, by simpa using he, hb, rfl⟩
        rcases hr with rfl | hr
        · exact .one h1
        · rw [List.getD_eq_getElem?_getD] at hr
          cases hq : acc[e.on]? with
          | none => rw [hq] at hr; simp at hr
          | some b' => rw [hq] at hr; exact .more (h _ _ hq i hr) h1

def tmpOf : Operand → Option Nat | .tmp t => some t | _ => none
/-- the check of a drawn statement: who reads a slot waits for him who writes it, or the other way round; no two write one -/
def fine2 (ops : Array Oper) (bits : List Nat) (i j : Nat) (oi oj : Oper) : Bool :=
  match oi.dst with
  | none => true
  | some d =>
    (if (reads ops oj).any (fun x => match x with | .tmp t => Nat.beq t d | _ => false) then (if Nat.blt i j then (bits.getD j 0).testBit i else (bits.getD i 0).testBit j) else true) &&
    (match oj.dst with | some e => !Nat.beq d e | none => true)
def okB (ops : Array Oper) : Bool :=
  let bits := bitsL ops.toList []
  let z := ops.toList.zipIdx
  z.all fun (oi, i) => (oi.after.toList.all fun e => !Region.binds .any e || Nat.blt e.on i) && z.all fun (oj, j) => Nat.beq i j || fine2 ops bits i j oi oj

structure OkB (ops : Array Oper) : Prop where
  back : ∀ i j, Edge1 ops i j → i < j
  ne : ∀ (i j : Nat) (oi oj : Oper) (d : Nat), ops[i]? = some oi → ops[j]? = some oj → i ≠ j → oi.dst = some d → oj.dst ≠ some d
  before : ∀ (i j : Nat) (oi oj : Oper) (d : Nat), ops[i]? = some oi → ops[j]? = some oj → oi.dst = some d → Operand.tmp d ∈ reads ops oj → (i < j → Path ops i j) ∧ (j < i → Path ops j i)

theorem bits_path {ops : Array Oper} {i j : Nat} (h : ((bitsL ops.toList []).getD j 0).testBit i = true) : Path ops i j := by
  rw [List.getD_eq_getElem?_getD] at h
  cases hq : (bitsL ops.toList [])[j]? with
  | none => rw [hq] at h; simp at h
  | some b => rw [hq] at h; exact bitsL_path ops ops.toList [] (by simp) (by simp) j b hq i h

theorem okB.to {ops : Array Oper} (h : okB ops = true) : OkB ops := by
  unfold okB at h
  simp only [List.all_eq_true, Bool.and_eq_true, Bool.or_eq_true] at h
  have key : ∀ i oi, ops[i]? = some oi → (oi, i) ∈ ops.toList.zipIdx := fun i oi hi => by
    rw [List.mem_zipIdx_iff_getElem?]; simpa using hi
  have two : ∀ i j oi oj, ops[i]? = some oi → ops[j]? = some oj → i ≠ j → fine2 ops (bitsL ops.toList []) i j oi oj = true := fun i j oi oj hi hj hne => by
    rcases (h (oi, i) (key i oi hi)).2 (oj, j) (key j oj hj) with e | e
    · exact absurd (beq_true e) hne
    · exact e
  refine ⟨fun i j ⟨o, ho, e, he, hb, hon⟩ => ?_, fun i j oi oj d hi hj hne hd hd' => ?_, fun i j oi oj d hi hj hd hr => ?_⟩
  · rcases (h (o, j) (key j o ho)).1 e (by simpa using he) with hx | hx
    · simp [hb] at hx
    · rw [← hon]
      have : e.on + 1 ≤ j := by simpa [Nat.blt] using hx
      omega
  · have := two i j oi oj hi hj hne
    simp only [fine2, hd, hd', Bool.and_eq_true] at this
    simp at this
  · have any : (reads ops oj).any (fun x => match x with | .tmp t => Nat.beq t d | _ => false) = true := by
      rw [List.any_eq_true]
      exact ⟨_, hr, by simp⟩
    refine ⟨fun hlt => ?_, fun hlt => ?_⟩
    · have := two i j oi oj hi hj (by omega)
      simp only [fine2, hd, any, if_true, Bool.and_eq_true] at this
      have h1 := this.1
      rw [if_pos (by simp [Nat.blt]; omega)] at h1
      exact bits_path h1
    · have := two i j oi oj hi hj (by omega)
      simp only [fine2, hd, any, if_true, Bool.and_eq_true] at this
      have h1 := this.1
      rw [if_neg (by simp [Nat.blt]; omega)] at h1
      exact bits_path h1

def lst (listed : Array Bool) (i : Nat) : Prop := listed.getD i false = true
def opened (listed : Array Bool) : Nat := (List.range listed.size).countP fun i => !listed.getD i false

theorem lst_lt {listed : Array Bool} {i : Nat} (h : lst listed i) : i < listed.size := by
  unfold lst at h
  rcases Nat.lt_or_ge i listed.size with h' | h'
  · exact h'
  · simp [Array.getElem?_eq_none h'] at h
theorem lst_set {listed : Array Bool} {i j : Nat} : lst (listed.setIfInBounds i true) j ↔ lst listed j ∨ (i = j ∧ i < listed.size) := by
  unfold lst
  by_cases hij : i = j
  · subst hij
    by_cases hlt : i < listed.size
    · simp [hlt]
    · simp [hlt]
  · simp [Array.getElem?_setIfInBounds_ne hij, hij]
theorem countP_lt {α : Type} (p q : α → Bool) : ∀ (l : List α), (∀ x ∈ l, q x = true → p x = true) → (∃ x ∈ l, p x = true ∧ q x = false) → l.countP q < l.countP p
  | [], _, h => by simp at h
  | x :: l, hi, hx => by
    rw [List.countP_cons, List.countP_cons]
    have mono : l.countP q ≤ l.countP p := List.countP_mono_left fun y hy h => hi y (by simp [hy]) h
    by_cases hx' : p x = true ∧ q x = false
    · simp [hx'.1, hx'.2]; omega
    · obtain ⟨y, hy, hp, hq⟩ := hx
      have hyl : y ∈ l := by
        rcases List.mem_cons.1 hy with rfl | h
        · exact absurd ⟨hp, hq⟩ hx'
        · exact h
      have := countP_lt p q l (fun z hz => hi z (by simp [hz])) ⟨y, hyl, hp, hq⟩
      have := hi x (by simp)
      cases hqx : q x with
      | true => have := this hqx; simp [this]; omega
      | false => simp; omega
theorem open_set {listed : Array Bool} {i : Nat} (hlt : i < listed.size) (h : ¬ lst listed i) : opened (listed.setIfInBounds i true) < opened listed := by
  unfold opened
  rw [Array.size_setIfInBounds]
  refine countP_lt _ _ _ (fun x hx hq => ?_) ⟨i, by simpa using hlt, by simpa [lst] using h, ?_⟩
  · have : ¬ lst (listed.setIfInBounds i true) x := by simpa [lst] using hq
    have : ¬ lst listed x := fun h => this (lst_set.2 (.inl h))
    simpa [lst] using this
  · have : lst (listed.setIfInBounds i true) i := lst_set.2 (.inr ⟨rfl, hlt⟩)
    simpa [lst] using this

section
variable {B : Base} {P : Program} {M : Mem} {Γ Γ' : Env} {Q : Exit → Act → World → Prop} {ops : Array Oper} {R : VP}

structure Inv (ops : Array Oper) (Rs : Nat → VP) (N : Nat) (κ : Nat → Nat) (a0 : Act) (w1 : World) (listed : Array Bool) (a : Act) (w : World) : Prop where
  sz : listed.size = ops.size
  size : a.tmps.size = N
  defers : a.defers = []
  keeps : Keeps (fun _ => False) w1 w
  closed : ∀ i j, lst listed j → Path ops i j → lst listed i
  facts : ∀ i o d, ops[i]? = some o → lst listed i → o.dst = some d → Box (live κ) (Rs i) (a.eval (.tmp d)) w
  rest : ∀ t, (∀ i o, ops[i]? = some o → lst listed i → o.dst ≠ some t) → a.eval (.tmp t) = a0.eval (.tmp t)

theorem put_other {a : Act} {d : Option Nat} {t : Nat} {v : Value} (h : d ≠ some t) : (a.put d v).eval (.tmp t) = a.eval (.tmp t) := by
  cases d with
  | none => rfl
  | some d => exact eval_put_ne (by rintro rfl; exact h rfl)

theorem Inv.step {Rs : Nat → VP} {N : Nat} {κ : Nat → Nat} {a0 a : Act} {w1 w w' : World} {listed : Array Bool} (ok : OkB ops) (hwf : Wf κ w1)
    (inv : Inv ops Rs N κ a0 w1 listed a w) {j : Nat} {o : Oper} {v : Value} (hj : j ∈ Region.ready .any ops listed) (ho : ops[j]? = some o) (hN : ∀ t, o.dst = some t → t < N)
    (k : Keeps (fun _ => False) w w') (hv : ∀ d, o.dst = some d → Box (live κ) (Rs j) v w') : Inv ops Rs N κ a0 w1 (listed.setIfInBounds j true) (a.put o.dst v) w' := by
  have hlt : j < listed.size := by rw [inv.sz]; exact (Array.getElem?_eq_some_iff.1 ho).1
  rw [mem_ready] at hj
  obtain ⟨hj0, o', ho', hall⟩ := hj
  have hoo : o' = o := by rw [ho] at ho'; simpa using ho'.symm
  subst hoo
  refine ⟨by rw [Array.size_setIfInBounds]; exact inv.sz, by rw [put_size]; exact inv.size, by rw [put_defers]; exact inv.defers, inv.keeps.trans k, fun i m hm hp => ?_, fun i oi d hi hl hd => ?_, fun t ht => ?_⟩
  · rcases lst_set.1 hm with hm | ⟨rfl, _⟩
    · exact lst_set.2 (.inl (inv.closed i m hm hp))
    · have edge : ∀ i, Edge1 ops i j → lst listed i := fun i ⟨o2, ho2, e, he, hb, hon⟩ => by
        have : o2 = o' := by rw [ho] at ho2; simpa using ho2.symm
        subst this
        exact hon ▸ hall e he hb
      cases hp with
      | one h => exact lst_set.2 (.inl (edge i h))
      | more h e => exact lst_set.2 (.inl (inv.closed _ _ (edge _ e) h))
  · rcases lst_set.1 hl with hl | ⟨rfl, _⟩
    · by_cases hij : i = j
      · subst hij
        have : oi = o' := by rw [ho] at hi; simpa using hi.symm
        subst this
        rw [hd, eval_put_same (by rw [inv.size]; exact hN d hd)]
        exact hv d hd
      · rw [put_other (ok.ne i j oi o' d hi ho hij hd)]
        exact (inv.facts i oi d hi hl hd).later k.none
    · have : oi = o' := by rw [ho] at hi; simpa using hi.symm
      subst this
      rw [hd, eval_put_same (by rw [inv.size]; exact hN d hd)]
      exact hv d hd
  · rw [put_other (ht j o' ho (lst_set.2 (.inr ⟨rfl, hlt⟩)))]
    exact inv.rest t fun i oi hi hl => ht i oi hi (lst_set.2 (.inl hl))

theorem Inv.regOn {Rs : Nat → VP} {N : Nat} {κ : Nat → Nat} {a0 a : Act} {w1 w : World} {listed : Array Bool} (ok : OkB ops)
    (inv : Inv ops Rs N κ a0 w1 listed a w) (h0 : RegOk (live κ) Γ a0 w1) {j : Nat} {o : Oper} (hj : j ∈ Region.ready .any ops listed) (ho : ops[j]? = some o) :
    RegOn (live κ) (envAt ops.toList Rs Γ j) (reads ops o) a w := by
  rw [mem_ready] at hj
  obtain ⟨hj0, o', ho', hall⟩ := hj
  have hoo : o' = o := by rw [ho] at ho'; simpa using ho'.symm
  subst hoo
  have hnot : ¬ lst listed j := fun h => by
    have hlt := lst_lt h
    unfold lst at h
    rw [show listed.getD j true = listed.getD j false by simp [Array.getElem?_eq_getElem hlt]] at hj0
    rw [h] at hj0
    cases hj0
  have edge : ∀ i, Edge1 ops i j → lst listed i := fun i ⟨o2, ho2, e, he, hb, hon⟩ => by
    have : o2 = o' := by rw [ho] at ho2; simpa using ho2.symm
    subst this
    exact hon ▸ hall e he hb
  have path : ∀ i, Path ops i j → lst listed i := fun i hp => by
    cases hp with
    | one h => exact edge i h
    | more h e => exact inv.closed _ _ (edge _ e) h
  intro x hx R hR
  cases x with
  | const v => simp only [Env.opd, Option.some.injEq] at hR; subst hR; exact Box.is
  | global g => simp only [Env.opd, Option.some.injEq] at hR; subst hR; exact Box.is
  | func f => simp only [Env.opd, Option.some.injEq] at hR; subst hR; exact Box.is
  | tmp t =>
    rcases envAt_get j hR with ⟨i, oi, hi, hoi, hd, rfl⟩ | ⟨hn, hg⟩
    · have hoi' : ops[i]? = some oi := by simpa using hoi
      exact inv.facts i oi t hoi' (path i ((ok.before i j oi o' t hoi' ho hd hx).1 hi)) hd
    · rw [inv.rest t fun i oi hi hl hd => ?_]
      · exact (h0 t R hg).later inv.keeps.none
      · rcases Nat.lt_trichotomy i j with h | h | h
        · exact hn i oi h (by simpa using hi) hd
        · subst h; exact hnot hl
        · exact hnot (inv.closed j i hl ((ok.before i j oi o' t hi ho hd hx).2 h))

theorem ready_nil {listed : Array Bool} (ok : OkB ops) (hsz : listed.size = ops.size) (h : Region.ready .any ops listed = []) : ∀ i, i < ops.size → lst listed i := by
  intro i
  induction i using Nat.strongRecOn with
  | _ i ih =>
    intro hi
    refine Classical.byContradiction fun hn => ?_
    have : i ∈ Region.ready .any ops listed := by
      rw [mem_ready]
      refine ⟨?_, ops[i], by simp [hi], fun e he hb => ?_⟩
      · have hlt : i < listed.size := by omega
        rw [show listed.getD i true = listed.getD i false by simp [Array.getElem?_eq_getElem hlt]]
        simpa [lst] using hn
      · have h1 := ok.back e.on i ⟨ops[i], by simp [hi], e, he, hb, rfl⟩
        exact ih e.on h1 (by omega)
    rw [h] at this
    simp at this

theorem wpAny_chain {Rs : Nat → VP} {κ : Nat → Nat} {a0 : Act} {w1 : World} (ok : OkB ops) (hN : ∀ (i : Nat) (o : Oper) (t : Nat), ops[i]? = some o → o.dst = some t → t < B.N)
    (hR : ∀ i o, ops.toList[i]? = some o → OpG P M ops (envAt ops.toList Rs Γ i) o (Rs i)) (g0 : Good B κ w1) (m0 : MemOk κ M w1) (r0 : RegOk (live κ) Γ a0 w1)
    (h : Fin B M (envAt ops.toList Rs Γ ops.toList.length) .normal Q) :
    ∀ (fuel : Nat) (listed : Array Bool) (a : Act) (w : World), opened listed ≤ fuel → Inv ops Rs B.N κ a0 w1 listed a w → wpAny P .any ops Q fuel listed a w := by
  have done : ∀ (listed : Array Bool) (a : Act) (w : World), Region.ready .any ops listed = [] → Inv ops Rs B.N κ a0 w1 listed a w → Q .normal a w := fun listed a w hr inv => by
    have all := ready_nil ok inv.sz hr
    refine h a w ⟨inv.size, inv.defers, κ, (Turn.quiet g0.wf inv.keeps).good g0 (by simp), m0.later g0.wf inv.keeps, fun t R ht => ?_⟩
    rcases envAt_get _ ht with ⟨i, oi, hi, hoi, hd, rfl⟩ | ⟨hn, hg⟩
    · have hoi' : ops[i]? = some oi := by simpa using hoi
      exact inv.facts i oi t hoi' (all i (by simpa using hi)) hd
    · rw [inv.rest t fun i oi hi hl hd => hn i oi (by have := (Array.getElem?_eq_some_iff.1 hi).1; simpa using this) (by simpa using hi) hd]
      exact (r0 t R hg).later inv.keeps.none
  intro fuel
  induction fuel with
  | zero =>
    intro listed a w hf inv
    have hr : Region.ready .any ops listed = [] := by
      cases hr : Region.ready .any ops listed with
      | nil => rfl
      | cons j js =>
        have hj : j ∈ Region.ready .any ops listed := by rw [hr]; simp
        rw [mem_ready] at hj
        obtain ⟨hj0, o, ho, _⟩ := hj
        have hlt : j < listed.size := by rw [inv.sz]; exact (Array.getElem?_eq_some_iff.1 ho).1
        have hpos : 0 < opened listed := by
          unfold opened
          rw [List.countP_pos_iff]
          refine ⟨j, by simpa using hlt, ?_⟩
          rw [show listed.getD j false = listed.getD j true by simp [Array.getElem?_eq_getElem hlt], hj0]
          rfl
        omega
    exact ⟨hr, done listed a w hr inv⟩
  | succ fuel ih =>
    intro listed a w hf inv
    refine ⟨fun hr => done listed a w hr inv, fun j hj => ?_⟩
    have hj' := hj
    rw [mem_ready] at hj'
    obtain ⟨hj0, o, ho, _⟩ := hj'
    have hlt : j < listed.size := by rw [inv.sz]; exact (Array.getElem?_eq_some_iff.1 ho).1
    have hnot : ¬ lst listed j := fun h => by
      unfold lst at h
      rw [show listed.getD j true = listed.getD j false by simp [Array.getElem?_eq_getElem hlt]] at hj0
      rw [h] at hj0
      cases hj0
    have hopen := open_set hlt hnot
    have hg := hR j o (by simpa using ho)
    have hwf : Wf κ w := (Turn.quiet g0.wf inv.keeps).wf
    have step := hg a w κ Q (wpAny P .any ops Q fuel (listed.setIfInBounds j true)) hwf (m0.later g0.wf inv.keeps) (inv.regOn ok r0 hj ho)
      fun v w' k hv => ih _ _ _ (by omega) (inv.step ok g0.wf hj ho (fun t ht => hN j o t ho ht) k fun d _ => hv)
    unfold wpOp
    rw [ho]
    simp only
    split
    · rename_i hw; rw [if_pos hw] at step; exact .inl step
    · rename_i hw; rw [if_neg hw] at step; exact step

def dstsOk (ops : Array Oper) (n : Nat) : Bool := ops.toList.all fun o => dstOk o.dst n
theorem Tr.regionD {i : Nat} (hm : P.follows .mixedOrders = true) (hok : okB ops = true) (hd : dstsOk ops B.N = true) (hc : Chain P M ops ops.toList Γ Γ') (h : Fin B M Γ' .normal Q) :
    Tr B P M Γ (.region i ops true) Q := by
  intro a w s
  obtain ⟨κ, g, m, r⟩ := s.ex
  obtain ⟨Rs, hR, rfl⟩ := hc.envs
  have ok := okB.to hok
  have k : Keeps (fun _ => False) w { w with drawn := w.drawn + 1 } := ⟨Nat.le_refl _, fun _ _ _ => rfl, rfl, rfl, rfl⟩
  have hnone : ∀ i, ¬ lst (Array.replicate ops.size false) i := fun i h => by
    unfold lst at h
    rw [Array.getD_eq_getD_getElem?, Array.getElem?_replicate] at h
    split at h <;> simp at h
  refine wp_region_any hm (wpAny_chain ok (fun i o t ho ht => ?_) hR ((Turn.quiet g.wf k).good g (by simp)) (m.later g.wf k) (r.later k.none) h _ _ _ _ ?_ ?_)
  · unfold dstsOk at hd
    rw [List.all_eq_true] at hd
    exact dstOk.to (hd o (by have := List.mem_of_getElem? (show ops.toList[i]? = some o by simpa using ho); exact this)) t ht
  · unfold opened
    refine Nat.le_trans List.countP_le_length ?_
    simp
  · exact ⟨by simp, s.size, s.defers, Keeps.refl _ _, fun i j h => absurd h (hnone j), fun i o d _ h => absurd h (hnone i), fun t _ => rfl⟩
/-- the same, what follows said as one goes -/
def ChainK (P : Program) (M : Mem) (ops : Array Oper) (l : List Oper) (Γ : Env) (K : Env → Prop) : Prop := ∃ Γ', Chain P M ops l Γ Γ' ∧ K Γ'
theorem ChainK.nil {K : Env → Prop} (h : K Γ) : ChainK P M ops [] Γ K := ⟨Γ, .nil, h⟩
theorem ChainK.consS {o : Oper} {l : List Oper} {K : Env → Prop} (d : Nat) (h : OpG P M ops Γ o R) (he : o.dst = some d) (k : ChainK P M ops l ((d, R) :: Γ) K) : ChainK P M ops (o :: l) Γ K := by
  obtain ⟨Γ', h1, h2⟩ := k
  exact ⟨Γ', .consS d h he h1, h2⟩
theorem Tr.regionK {i : Nat} (hm : P.follows .mixedOrders = true) (hok : okB ops = true) (hd : dstsOk ops B.N = true) (h : ChainK P M ops ops.toList Γ (fun Γ' => Fin B M Γ' .normal Q)) : Tr B P M Γ (.region i ops true) Q := by
  obtain ⟨Γ', h1, h2⟩ := h
  exact Tr.regionD hm hok hd h1 h2
end
end Go.Proofs.Ytemkogoclljhpaa.L
