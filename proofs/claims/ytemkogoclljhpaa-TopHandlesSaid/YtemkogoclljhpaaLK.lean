/- Own memory given up; facts with an unknown; comparisons with nil; parts of slices. -/
import Derived.Test.YtemkogoclljhpaaLJ
namespace Go.Proofs.Ytemkogoclljhpaa.L
open Go
set_option linter.unusedVariables false
set_option linter.unusedSimpArgs false

section
variable {B : Base} {P : Program} {M : Mem} {Γ : Env} {Q : Exit → Act → World → Prop} {ops : Array Oper} {o : Oper} {l : List Oper} {R : VP}
/-! ### 1. Own memory that nobody writes any more -/
theorem St.freezeF {φ : RP} {v : Value} {a : Act} {w : World} (s : St B M Γ a w) {n : Nat} (hn : B.own n = true) (hm : M.get n = some φ) (i : ∀ F L w, φ F L w → R v w) : St B ((n, Fact R v) :: M) Γ a w := by
  obtain ⟨κ, g, m, r⟩ := s.ex
  have h2n := g.two _ hn
  have turn : Turn (fun x => x = n) κ (fun b => if κ b = n then 0 else κ b) w w :=
    ⟨by omega, by omega, Keeps.refl _ _, fun b hb => by show (if κ b = n then 0 else κ b) = 0; rw [g.wf b hb]; split <;> rfl, fun b _ h0 => by show (if κ b = n then 0 else κ b) = 0; rw [h0]; split <;> rfl,
      fun l hl h0 b => by show (if κ b = n then 0 else κ b) = l ↔ _; split <;> omega⟩
  refine ⟨s.size, s.defers, _, turn.good g (by rintro l rfl; exact hn), m.turn turn (fun l' φ h2 hg hne => ?_) (fun l' ψ h2 hg hs => ?_), r.turn turn⟩
  · have : Nat.beq n l' = false := by
      cases h : Nat.beq n l' with
      | false => rfl
      | true => exact absurd (beq_true h).symm hne
    simpa [Mem.get, this] using hg
  · subst hs
    simp only [Mem.get, Nat.beq_eq, decide_true, cond_true] at hg
    have : ψ = Fact R v := by simpa using hg.symm
    subst this
    intro L w' hL k
    refine ⟨fun b hb => ?_, fun w'' k' => ?_⟩
    · have : (if κ b = l' then 0 else κ b) = l' := hb
      split at this <;> omega
    · have hl0 : ∀ b, (if κ b = l' then 0 else κ b) ≠ 0 → κ b ≠ 0 ∧ κ b ≠ l' := fun b hb => by split at hb <;> omega
      exact i _ _ _ (m l' _ h2 hm L w'' (fun b hb h => (hl0 b (hL b hb h)).1) (k.then k' (fun b _ h => hl0 b h.1) fun b hb h => hl0 b (hL b hb h)))
theorem Tr.freezeF {c : Code} {φ : RP} (n : Nat) {v : Value} (hm : M.get n = some φ) (i : ∀ F L w, φ F L w → R v w) (hn : B.own n = true) (k : Tr B P ((n, Fact R v) :: M) Γ c Q) : Tr B P M Γ c Q := fun a w s => k a w (s.freezeF (by simpa [Nat.ble_eq] using hn) hm i)
theorem Fin.freezeF {e : Exit} {φ : RP} (n : Nat) {v : Value} (hm : M.get n = some φ) (i : ∀ F L w, φ F L w → R v w) (hn : B.own n = true) (k : Fin B ((n, Fact R v) :: M) Γ e Q) : Fin B M Γ e Q := fun a w s => k a w (s.freezeF (by simpa [Nat.ble_eq] using hn) hm i)
theorem TrL.freezeF {φ : RP} (n : Nat) {v : Value} (hm : M.get n = some φ) (i : ∀ F L w, φ F L w → R v w) (hn : B.own n = true) (k : TrL B P ops l ((n, Fact R v) :: M) Γ Q) : TrL B P ops l M Γ Q := fun a w s => k a w (s.freezeF (by simpa [Nat.ble_eq] using hn) hm i)
theorem blkR_cells {b : Nat} {Rs : List VP} {T : TypeId} : ∀ F L w, BlkR b Rs T F L w → Cells Rs (.pointer (some ⟨b, 0, none⟩)) w := fun F L w ⟨_, cs, hh, ha⟩ =>
  ⟨_, rfl, cs, ha w (Keeps.refl _ _), by have := blk_cells (off := 0) hh; simpa using this⟩

/-! ### 2. A fact with an unknown -/
def ExP {β : Type} (f : β → Value) (p : β → Prop) : VP := fun v _ => ∃ x, v = f x ∧ p x
theorem St.exP {β : Type} {f : β → Value} {p : β → Prop} {a : Act} {w : World} (s : St B M Γ a w) {t : Nat} (ht : Γ.get t = some (ExP f p)) : ∃ x, p x ∧ St B M ((t, is (f x)) :: Γ) a w := by
  obtain ⟨κ, g, m, r⟩ := s.ex
  obtain ⟨x, e, hp⟩ := (r t _ ht).now
  refine ⟨x, hp, s.size, s.defers, κ, g, m, fun u R' hu => ?_⟩
  simp only [Env.get] at hu
  cases hb : Nat.beq t u with
  | true =>
    rw [hb] at hu
    simp only [cond_true, Option.some.injEq] at hu
    subst hu
    obtain rfl := beq_true hb
    rw [e]
    exact Box.is
  | false =>
    rw [hb] at hu
    exact r u R' hu
theorem Tr.exP {β : Type} {f : β → Value} {p : β → Prop} {c : Code} (t : Nat) (ht : Γ.get t = some (ExP f p)) (k : ∀ x, p x → Tr B P M ((t, is (f x)) :: Γ) c Q) : Tr B P M Γ c Q := fun a w s => let ⟨x, hp, s'⟩ := s.exP ht; k x hp a w s'
theorem TrL.exP {β : Type} {f : β → Value} {p : β → Prop} (t : Nat) (ht : Γ.get t = some (ExP f p)) (k : ∀ x, p x → TrL B P ops l M ((t, is (f x)) :: Γ) Q) : TrL B P ops l M Γ Q := fun a w s => let ⟨x, hp, s'⟩ := s.exP ht; k x hp a w s'
theorem Fin.exP {β : Type} {f : β → Value} {p : β → Prop} {e : Exit} (t : Nat) (ht : Γ.get t = some (ExP f p)) (k : ∀ x, p x → Fin B M ((t, is (f x)) :: Γ) e Q) : Fin B M Γ e Q := fun a w s => let ⟨x, hp, s'⟩ := s.exP ht; k x hp a w s'

/-! ### 3. Comparisons with nil -/
variable {x y : Operand} {t u e : TypeId}
theorem run_eqPN (d : Nat) (w : World) {p : Option Addr} (ht : P.underlying t = some (.pointer e)) : (Op.equalIn (d + 1) t (.pointer p) (.pointer none)).run P w = .ok p.isNone w := by
  cases p <;> simp [Op.equalIn, run_underlying ht]
theorem run_eqMN (d : Nat) (w : World) {p : Option Nat} {kt : TypeId} (ht : P.underlying t = some (.map kt e)) : (Op.equalIn (d + 1) t (.map p) (.map none)).run P w = .ok p.isNone w := by
  cases p <;> simp [Op.equalIn, run_underlying ht]
theorem run_eqSN (d : Nat) (w : World) {p : Option Addr} {m c : Nat} (ht : P.underlying t = some (.slice e)) : (Op.equalIn (d + 1) t (.slice p m c) (.slice none 0 0)).run P w = .ok p.isNone w := by
  cases p <;> simp [Op.equalIn, run_underlying ht]
theorem OpM.eqlPN {p : Option Addr} (ho : o.op = .binOp .eql t x y u) (hx : Has M Γ x (is (.pointer p))) (hy : Has M Γ y (is (.pointer none))) (ht : P.underlying t = some (.pointer e)) : OpM P M Γ o (is (.bool p.isNone)) :=
  OpM.bin .eql ho hx hy fun w => by rw [eqGuard_at_pointer]; simp [binOp, Op.equal, Op.maxDepth, run_eqPN 9999 w ht]
theorem OpM.neqPN {p : Option Addr} (ho : o.op = .binOp .neq t x y u) (hx : Has M Γ x (is (.pointer p))) (hy : Has M Γ y (is (.pointer none))) (ht : P.underlying t = some (.pointer e)) : OpM P M Γ o (is (.bool (!p.isNone))) :=
  OpM.bin .neq ho hx hy fun w => by rw [eqGuard_at_pointer]; simp [binOp, Op.equal, Op.maxDepth, run_eqPN 9999 w ht]
theorem OpM.eqlMN {p : Option Nat} {kt : TypeId} (ho : o.op = .binOp .eql t x y u) (hx : Has M Γ x (is (.map p))) (hy : Has M Γ y (is (.map none))) (ht : P.underlying t = some (.map kt e)) : OpM P M Γ o (is (.bool p.isNone)) :=
  OpM.bin .eql ho hx hy fun w => by rw [eqGuard_at_map]; simp [binOp, Op.equal, Op.maxDepth, run_eqMN 9999 w ht]
theorem OpM.eqlSN {A : Option Addr} {m c : Nat} (ho : o.op = .binOp .eql t x y u) (hx : Has M Γ x (is (.slice A m c))) (hy : Has M Γ y (is (.slice none 0 0))) (ht : P.underlying t = some (.slice e)) : OpM P M Γ o (is (.bool A.isNone)) :=
  OpM.bin .eql ho hx hy fun w => by rw [eqGuard_at_slice]; simp [binOp, Op.equal, Op.maxDepth, run_eqSN 9999 w ht]
/-- a slice of which only the elements are known -/
theorem OpM.eqlLN {τ : Type} {K : Rep τ} {xs : List τ} (ho : o.op = .binOp .eql t x y u) (hx : Has M Γ x (Lst K xs)) (hy : Has M Γ y (is (.slice none 0 0))) (ht : P.underlying t = some (.slice e)) : OpM P M Γ o (ExP .bool (fun b => b = true → xs = [])) :=
  OpM.pure fun a w κ hw hm hr => by
    obtain ⟨A, c, ev, hc, hA⟩ := (hx.box hm hr (by simp [ho, Op.operands])).now
    have hy' := hy.val hm hr (by simp [ho, Op.operands])
    refine ⟨.bool A.isNone, ?_, fun _ _ => ⟨_, rfl, fun hb => ?_⟩⟩
    · unfold execOp
      rw [ho]
      simp only [ev, hy']
      rw [eqGuard_at_slice]
      simp [binOp, Op.equal, Op.maxDepth, run_eqSN 9999 w ht]
    · cases A with
      | some a => simp at hb
      | none =>
        rcases Nat.eq_zero_or_pos xs.length with h | h
        · exact List.eq_nil_of_length_eq_zero h
        · obtain ⟨ad, h', _⟩ := hA h; cases h'

/-! ### 4. A part of a slice -/
theorem run_sliceAt {k k' : IntKind} {A : Option Addr} {m c : Nat} {i j : Int} {sz : Nat} (ht : P.underlying t = some (.slice e)) (hs : sizeB P e sz = true) (h0 : 0 ≤ i) (h1 : i ≤ j) (h2 : j ≤ c) (w : World) :
    (Instr.sliceAt t (.slice A m c) (some (.int k i)) (some (.int k' j)) none).run P w = .ok (.slice (if c = i.toNat then A else A.map (·.add (i.toNat * sz))) (j.toNat - i.toNat) (c - i.toNat)) w := by
  simp [Instr.sliceAt, Instr.slice, run_underlying ht, Instr.sliceBounds, Instr.sliceBound, asIntOf, run_sizeOf hs, h0, h1, h2, show 0 ≤ j by omega]
  omega
theorem run_sliceTo {k' : IntKind} {A : Option Addr} {m c : Nat} {j : Int} {sz : Nat} (ht : P.underlying t = some (.slice e)) (hs : sizeB P e sz = true) (h1 : 0 ≤ j) (h2 : j ≤ c) (w : World) :
    (Instr.sliceAt t (.slice A m c) none (some (.int k' j)) none).run P w = .ok (.slice (if c = 0 then A else A.map (·.add 0)) j.toNat c) w := by
  simp [Instr.sliceAt, Instr.slice, run_underlying ht, Instr.sliceBounds, Instr.sliceBound, asIntOf, run_sizeOf hs, h1, h2]
theorem run_sliceFrom {k : IntKind} {A : Option Addr} {m c : Nat} {i : Int} {sz : Nat} (ht : P.underlying t = some (.slice e)) (hs : sizeB P e sz = true) (h0 : 0 ≤ i) (h1 : i ≤ m) (w : World) :
    (Instr.sliceAt t (.slice A m c) (some (.int k i)) none none).run P w = .ok (.slice (if c = i.toNat then A else A.map (·.add (i.toNat * sz))) (m - i.toNat) (c - i.toNat)) w := by
  simp [Instr.sliceAt, Instr.slice, run_underlying ht, Instr.sliceBounds, Instr.sliceBound, asIntOf, run_sizeOf hs, h0, h1]
/-- what part of a slice that is only read -/
theorem lst_part {τ : Type} {K : Rep τ} {xs : List τ} {v : Value} {w : World} (h : Lst K xs v w) {A : Option Addr} {c lo hi : Nat} (ev : v = .slice A xs.length c) (h1 : lo ≤ hi) (h2 : hi ≤ xs.length) :
    Lst K ((xs.take hi).drop lo) (.slice (if c = lo then A else A.map (·.add (lo * K.n))) (hi - lo) (c - lo)) w := by
  obtain ⟨A', c', e', hc, hA⟩ := h
  rw [ev] at e'
  simp only [Value.slice.injEq, true_and] at e'
  obtain ⟨rfl, rfl⟩ := e'
  have hl : ((xs.take hi).drop lo).length = hi - lo := by simp; omega
  refine ⟨_, _, by rw [hl], by omega, fun hp => ?_⟩
  rw [hl] at hp
  obtain ⟨ad, rfl, hat⟩ := hA (by omega)
  refine ⟨_, by rw [if_neg (by omega)]; rfl, fun i x hx => ?_⟩
  rw [List.getElem?_drop, List.getElem?_take] at hx
  split at hx
  · obtain ⟨cs, h3, h4⟩ := hat _ x hx
    refine ⟨cs, h3, ?_⟩
    rw [add_add, ← Nat.add_mul]
    exact h4
  · cases hx
variable {τ : Type} {K : Rep τ} {xs : List τ}
theorem OpM.sliceL {k k' : IntKind} {z : Operand} {i j : Int} (ho : o.op = .slice t x (some y) (some z) none) (hx : Has M Γ x (Lst K xs)) (hy : Has M Γ y (is (.int k i))) (hz : Has M Γ z (is (.int k' j))) (ht : P.underlying t = some (.slice e)) (hs : sizeB P e K.n = true)
    (h0 : 0 ≤ i) (h1 : i ≤ j) (h2 : j ≤ xs.length) : OpM P M Γ o (Lst K ((xs.take j.toNat).drop i.toNat)) :=
  OpM.pure fun a w κ hw hm hr => by
    have hb := hx.box hm hr (by simp [ho, Op.operands])
    obtain ⟨A, c, ev, hc, hA⟩ := hb.now
    refine ⟨_, ?_, fun w' k => lst_part (hb w' k) ev (by omega) (by omega)⟩
    unfold execOp
    rw [ho]
    simp only [ev, hy.val hm hr (by simp [ho, Op.operands]), hz.val hm hr (by simp [ho, Op.operands]), Option.map_some, Option.map_none, Sem.run_bind, run_sliceAt ht hs h0 h1 (show j ≤ (c : Int) by omega) w, Result.andThen_ok]
    rfl
theorem OpM.sliceTo {k' : IntKind} {z : Operand} {j : Int} (ho : o.op = .slice t x none (some z) none) (hx : Has M Γ x (Lst K xs)) (hz : Has M Γ z (is (.int k' j))) (ht : P.underlying t = some (.slice e)) (hs : sizeB P e K.n = true)
    (h1 : 0 ≤ j) (h2 : j ≤ xs.length) : OpM P M Γ o (Lst K (xs.take j.toNat)) :=
  OpM.pure fun a w κ hw hm hr => by
    have hb := hx.box hm hr (by simp [ho, Op.operands])
    obtain ⟨A, c, ev, hc, hA⟩ := hb.now
    refine ⟨_, ?_, fun w' k => by have := lst_part (hb w' k) ev (lo := 0) (hi := j.toNat) (by omega) (by omega); simpa using this⟩
    unfold execOp
    rw [ho]
    simp only [ev, hz.val hm hr (by simp [ho, Op.operands]), Option.map_some, Option.map_none, Sem.run_bind, run_sliceTo ht hs h1 (show j ≤ (c : Int) by omega) w, Result.andThen_ok]
    simp
theorem OpM.sliceFrom {k : IntKind} {i : Int} (ho : o.op = .slice t x (some y) none none) (hx : Has M Γ x (Lst K xs)) (hy : Has M Γ y (is (.int k i))) (ht : P.underlying t = some (.slice e)) (hs : sizeB P e K.n = true)
    (h0 : 0 ≤ i) (h1 : i ≤ xs.length) : OpM P M Γ o (Lst K (xs.drop i.toNat)) :=
  OpM.pure fun a w κ hw hm hr => by
    have hb := hx.box hm hr (by simp [ho, Op.operands])
    obtain ⟨A, c, ev, hc, hA⟩ := hb.now
    refine ⟨_, ?_, fun w' k => by have := lst_part (hb w' k) ev (lo := i.toNat) (hi := xs.length) (by omega) (by omega); rwa [List.take_of_length_le (Nat.le_refl _)] at this⟩
    unfold execOp
    rw [ho]
    simp only [ev, hy.val hm hr (by simp [ho, Op.operands]), Option.map_some, Option.map_none, Sem.run_bind, run_sliceFrom ht hs h0 h1 w, Result.andThen_ok]
    rfl
end
end Go.Proofs.Ytemkogoclljhpaa.L
