/- The logic of these proofs: what holds of slots and of memory between two pieces of code. Facts on memory are kept under every later world that leaves alone what the fact speaks of; so the order in which a statement's operations are drawn does not matter. -/
import Derived.Tactics
import Derived.Orders
import Derived.KernelRfl
import Derived.Test.YtemkogoclljhpaaLQ
namespace Go.Proofs.Ytemkogoclljhpaa.L
open Go
set_option linter.unusedVariables false

/-! ### 1. Worlds -/
abbrev Foot := Nat → Prop

/-- every block outside S is as it was; the streams too -/
structure Keeps (S : Foot) (w w' : World) : Prop where
  size : w.heap.size ≤ w'.heap.size
  block : ∀ b, b < w.heap.size → ¬ S b → w'.heap[b]? = w.heap[b]?
  tape : w'.tape = w.tape
  os : w'.os = w.os
  output : w'.output = w.output

theorem Keeps.refl (S : Foot) (w : World) : Keeps S w w := ⟨Nat.le_refl _, fun _ _ _ => rfl, rfl, rfl, rfl⟩
theorem Keeps.mono {S S' : Foot} {w w' : World} (h : Keeps S w w') (hs : ∀ b, b < w.heap.size → S b → S' b) : Keeps S' w w' :=
  ⟨h.size, fun b hb hn => h.block b hb fun hs' => hn (hs b hb hs'), h.tape, h.os, h.output⟩
theorem Keeps.trans {S : Foot} {w w1 w2 : World} (h : Keeps S w w1) (k : Keeps S w1 w2) : Keeps S w w2 :=
  ⟨Nat.le_trans h.size k.size, fun b hb hn => (k.block b (Nat.lt_of_lt_of_le hb h.size) hn).trans (h.block b hb hn), k.tape.trans h.tape, k.os.trans h.os, k.output.trans h.output⟩
/-- two steps, where the second may turn new blocks besides -/
theorem Keeps.then {S S1 L : Foot} {w w1 w2 : World} (k : Keeps S1 w w1) (h : Keeps L w1 w2) (h1 : ∀ b, b < w.heap.size → S1 b → S b) (h2 : ∀ b, b < w.heap.size → L b → S b) : Keeps S w w2 :=
  ⟨Nat.le_trans k.size h.size, fun b hb hn => (h.block b (Nat.lt_of_lt_of_le hb k.size) fun hl => hn (h2 b hb hl)).trans (k.block b hb fun hs => hn (h1 b hb hs)), h.tape.trans k.tape, h.os.trans k.os, h.output.trans k.output⟩
theorem Keeps.none {S : Foot} {w w' : World} (h : Keeps (fun _ => False) w w') : Keeps S w w' := h.mono fun _ _ h => h.elim

/-! ### 2. Facts -/
abbrev VP := Value → World → Prop
def Box (S : Foot) (R : VP) : VP := fun v w => ∀ w', Keeps S w w' → R v w'
def is (v : Value) : VP := fun u _ => u = v
def When (p : Prop) (R : VP) : VP := fun v w => p → R v w
def anyV : VP := fun _ _ => True
theorem Box.now {S : Foot} {R : VP} {v : Value} {w : World} (h : Box S R v w) : R v w := h w (Keeps.refl S w)
theorem Box.later {S : Foot} {R : VP} {v : Value} {w w' : World} (h : Box S R v w) (k : Keeps S w w') : Box S R v w' := fun w'' k' => h w'' (k.trans k')
theorem Box.is {S : Foot} {v : Value} {w : World} : Box S (is v) v w := fun _ _ => rfl
theorem Box.map {S : Foot} {R R' : VP} {v : Value} {w : World} (h : Box S R v w) (i : ∀ v w, R v w → R' v w) : Box S R' v w := fun w' k => i _ _ (h w' k)
theorem Box.less {S S' : Foot} {R : VP} {v : Value} {w : World} (h : Box S R v w) (hs : ∀ b, b < w.heap.size → S' b → S b) : Box S' R v w := fun w' k => h w' (k.mono hs)

abbrev Env := List (Nat × VP)
def Env.get : Env → Nat → Option VP
  | [], _ => none
  | (s, R) :: Γ, t => bif Nat.beq s t then some R else Env.get Γ t
def Env.opd (Γ : Env) : Operand → Option VP
  | .tmp t => Γ.get t
  | .const v => some (is v)
  | .global g => some (is (.pointer (some ⟨g, 0, none⟩)))
  | .func f => some (is (.func (.func f) #[] #[]))
def Env.put (Γ : Env) (d : Option Nat) (R : VP) : Env := match d with | some t => (t, R) :: Γ | none => Γ

def RegOk (S : Foot) (Γ : Env) (a : Act) (w : World) : Prop := ∀ t R, Γ.get t = some R → Box S R (a.eval (.tmp t)) w
/-- the same for some operands alone -/
def RegOn (S : Foot) (Γ : Env) (xs : List Operand) (a : Act) (w : World) : Prop := ∀ x, x ∈ xs → ∀ R, Γ.opd x = some R → Box S R (a.eval x) w
theorem RegOk.opd {S : Foot} {Γ : Env} {a : Act} {w : World} (h : RegOk S Γ a w) {x : Operand} {R : VP} (hx : Γ.opd x = some R) : Box S R (a.eval x) w := by
  cases x with
  | tmp t => exact h t R hx
  | const v => simp only [Env.opd, Option.some.injEq] at hx; subst hx; exact Box.is
  | global g => simp only [Env.opd, Option.some.injEq] at hx; subst hx; exact Box.is
  | func f => simp only [Env.opd, Option.some.injEq] at hx; subst hx; exact Box.is
theorem RegOk.on {S : Foot} {Γ : Env} {a : Act} {w : World} (h : RegOk S Γ a w) (xs : List Operand) : RegOn S Γ xs a w := fun _ _ _ hx => h.opd hx
theorem RegOk.later {S : Foot} {Γ : Env} {a : Act} {w w' : World} (h : RegOk S Γ a w) (k : Keeps S w w') : RegOk S Γ a w' := fun t R ht => (h t R ht).later k

/-! ### 3. What is owned: each block bears a label: 0: never written again; 1: the caller's; from 2 on: this call's own -/
/-- of the blocks that are its own, and of those that may yet be written -/
abbrev RP := Foot → Foot → World → Prop
abbrev Mem := List (Nat × RP)
def Mem.get : Mem → Nat → Option RP
  | [], _ => none
  | (s, φ) :: M, l => bif Nat.beq s l then some φ else Mem.get M l
def live (κ : Nat → Nat) : Foot := fun b => κ b ≠ 0
def ResOk (κ : Nat → Nat) (l : Nat) (φ : RP) (w : World) : Prop := ∀ (L : Foot) w', (∀ b, b < w.heap.size → L b → κ b ≠ 0) → Keeps (fun b => κ b ≠ 0 ∧ κ b ≠ l) w w' → φ (fun b => κ b = l) L w'
def MemOk (κ : Nat → Nat) (M : Mem) (w : World) : Prop := ∀ l φ, 2 ≤ l → M.get l = some φ → ResOk κ l φ w
def Wf (κ : Nat → Nat) (w : World) : Prop := ∀ b, w.heap.size ≤ b → κ b = 0
theorem ResOk.now {κ : Nat → Nat} {l : Nat} {φ : RP} {w : World} (h : ResOk κ l φ w) : φ (fun b => κ b = l) (live κ) w := h _ w (fun _ _ h => h) (Keeps.refl _ w)

structure Base where
  N : Nat
  own : Nat → Bool
  w0 : World
  κ0 : Nat → Nat

structure Good (B : Base) (κ : Nat → Nat) (w : World) : Prop where
  two : ∀ n, B.own n = true → 2 ≤ n
  wf : Wf κ w
  keeps : Keeps (fun b => B.own (B.κ0 b) = true) B.w0 w
  old : ∀ b, b < B.w0.heap.size → B.own (B.κ0 b) = false → κ b = B.κ0 b

structure St (B : Base) (M : Mem) (Γ : Env) (a : Act) (w : World) : Prop where
  size : a.tmps.size = B.N
  defers : a.defers = []
  ex : ∃ κ, Good B κ w ∧ MemOk κ M w ∧ RegOk (live κ) Γ a w

/-- From (κ, w) to (κ', w'): only blocks whose label is in S have turned, or been given other labels; new ones may bear any. -/
structure Turn (S : Nat → Prop) (κ κ' : Nat → Nat) (w w' : World) : Prop where
  no0 : ¬ S 0
  no1 : ¬ S 1
  keeps : Keeps (fun b => S (κ b)) w w'
  wf : Wf κ' w'
  nought : ∀ b, b < w.heap.size → κ b = 0 → κ' b = 0
  other : ∀ l, ¬ S l → l ≠ 0 → ∀ b, κ' b = l ↔ κ b = l

theorem Turn.box {S : Nat → Prop} {κ κ' : Nat → Nat} {w w' : World} (h : Turn S κ κ' w w') {R : VP} {v : Value} (hb : Box (live κ) R v w) : Box (live κ') R v w' := by
  intro w'' k
  refine hb w'' ⟨Nat.le_trans h.keeps.size k.size, fun b hlt hn => ?_, k.tape.trans h.keeps.tape, k.os.trans h.keeps.os, k.output.trans h.keeps.output⟩
  have h0 : κ b = 0 := by unfold live at hn; omega
  rw [k.block b (Nat.lt_of_lt_of_le hlt h.keeps.size) (by unfold live; rw [h.nought b hlt h0]; simp), h.keeps.block b hlt (by rw [h0]; exact h.no0)]
theorem Turn.res {S : Nat → Prop} {κ κ' : Nat → Nat} {w w' : World} (h : Turn S κ κ' w w') {l : Nat} {φ : RP} (hl : ¬ S l) (h0 : l ≠ 0) (hb : ResOk κ l φ w) : ResOk κ' l φ w' := by
  intro L w'' hL k
  have e : (fun b => κ' b = l) = fun b => κ b = l := funext fun b => propext (h.other l hl h0 b)
  rw [e]
  refine hb L w'' (fun b hlt hl' h0' => hL b (Nat.lt_of_lt_of_le hlt h.keeps.size) hl' (h.nought b hlt h0')) ⟨Nat.le_trans h.keeps.size k.size, fun b hlt hn => ?_, k.tape.trans h.keeps.tape, k.os.trans h.keeps.os, k.output.trans h.keeps.output⟩
  by_cases hz : κ b = 0
  · rw [k.block b (Nat.lt_of_lt_of_le hlt h.keeps.size) (by rw [h.nought b hlt hz]; simp), h.keeps.block b hlt (by rw [hz]; exact h.no0)]
  · have hk : κ b = l := by
      by_cases hk : κ b = l
      · exact hk
      · exact absurd ⟨hz, hk⟩ hn
    rw [k.block b (Nat.lt_of_lt_of_le hlt h.keeps.size) (by rw [(h.other l hl h0 b).2 hk]; simp), h.keeps.block b hlt (by rw [hk]; exact hl)]
theorem Turn.good {S : Nat → Prop} {B : Base} {κ κ' : Nat → Nat} {w w' : World} (h : Turn S κ κ' w w') (g : Good B κ w) (hS : ∀ l, S l → B.own l = true) : Good B κ' w' := by
  refine ⟨g.two, h.wf, ⟨Nat.le_trans g.keeps.size h.keeps.size, fun b hlt hn => ?_, h.keeps.tape.trans g.keeps.tape, h.keeps.os.trans g.keeps.os, h.keeps.output.trans g.keeps.output⟩, fun b hlt h2 => ?_⟩
  · have hb : κ b = B.κ0 b := g.old b hlt (by simpa using hn)
    rw [h.keeps.block b (Nat.lt_of_lt_of_le hlt g.keeps.size) (fun hs => hn (hb ▸ hS _ hs)), g.keeps.block b hlt hn]
  · have hb : κ b = B.κ0 b := g.old b hlt h2
    have hlt' := Nat.lt_of_lt_of_le hlt g.keeps.size
    by_cases h0 : B.κ0 b = 0
    · rw [h.nought b hlt' (by omega), h0]
    · exact (h.other (B.κ0 b) (fun hs => by have := hS _ hs; rw [h2] at this; cases this) h0 b).2 hb

/-- nothing that was there has turned -/
theorem Turn.quiet {κ : Nat → Nat} {w w' : World} (hw : Wf κ w) (k : Keeps (fun _ => False) w w') : Turn (fun _ => False) κ κ w w' :=
  ⟨id, id, k, fun b hb => hw b (Nat.le_trans k.size hb), fun _ _ h => h, fun _ _ _ _ => Iff.rfl⟩
theorem MemOk.later {κ : Nat → Nat} {M : Mem} {w w' : World} (h : MemOk κ M w) (hw : Wf κ w) (k : Keeps (fun _ => False) w w') : MemOk κ M w' :=
  fun l φ h2 hl => (Turn.quiet hw k).res (by simp) (by omega) (h l φ h2 hl)

/-! ### 4. Slots -/
theorem eval_put_same {a : Act} {d : Nat} {v : Value} (h : d < a.tmps.size) : (a.put (some d) v).eval (.tmp d) = v := by
  simp [Act.put, Act.eval, h]
theorem eval_put_ne {a : Act} {d t : Nat} {v : Value} (h : d ≠ t) : (a.put (some d) v).eval (.tmp t) = a.eval (.tmp t) := by
  simp [Act.put, Act.eval, Array.getElem?_setIfInBounds_ne h]
theorem put_size (a : Act) (d : Option Nat) (v : Value) : (a.put d v).tmps.size = a.tmps.size := by
  cases d <;> simp [Act.put]
theorem put_defers (a : Act) (d : Option Nat) (v : Value) : (a.put d v).defers = a.defers := by
  cases d <;> simp [Act.put]

theorem beq_true {m n : Nat} (h : Nat.beq m n = true) : m = n := Nat.eq_of_beq_eq_true h
theorem beq_ne {m n : Nat} (h : Nat.beq m n = false) : m ≠ n := fun e => by subst e; simp at h

theorem RegOk.put {S : Foot} {Γ : Env} {a : Act} {w : World} (h : RegOk S Γ a w) {d : Option Nat} {v : Value} {R : VP} (hd : ∀ t, d = some t → t < a.tmps.size) (hv : Box S R v w) : RegOk S (Γ.put d R) (a.put d v) w := by
  cases d with
  | none => exact h
  | some d =>
    intro t R' ht
    simp only [Env.put, Env.get] at ht
    cases hb : Nat.beq d t with
    | true =>
      rw [hb] at ht
      simp only [cond_true, Option.some.injEq] at ht
      subst ht
      obtain rfl := beq_true hb
      rw [eval_put_same (hd _ rfl)]
      exact hv
    | false =>
      rw [hb] at ht
      simp only [cond_false] at ht
      rw [eval_put_ne (beq_ne hb)]
      exact h t R' ht

theorem MemOk.turn {S : Nat → Prop} {κ κ' : Nat → Nat} {M M' : Mem} {w w' : World} (h : MemOk κ M w) (t : Turn S κ κ' w w')
    (hM : ∀ l φ, 2 ≤ l → M'.get l = some φ → ¬ S l → M.get l = some φ) (hS : ∀ l φ, 2 ≤ l → M'.get l = some φ → S l → ResOk κ' l φ w') : MemOk κ' M' w' := by
  intro l φ h2 hl
  by_cases hs : S l
  · exact hS l φ h2 hl hs
  · exact t.res hs (by omega) (h l φ h2 (hM l φ h2 hl hs))
theorem RegOk.turn {S : Nat → Prop} {κ κ' : Nat → Nat} {Γ : Env} {a : Act} {w w' : World} (h : RegOk (live κ) Γ a w) (t : Turn S κ κ' w w') : RegOk (live κ') Γ a w' :=
  fun s R hs => t.box (h s R hs)

/-! ### 5. Code -/
section
variable {B : Base} {P : Program} {M : Mem} {Γ : Env} {Q : Exit → Act → World → Prop}

def Tr (B : Base) (P : Program) (M : Mem) (Γ : Env) (c : Code) (Q : Exit → Act → World → Prop) : Prop := ∀ a w, St B M Γ a w → c.wp P Q a w
def Fin (B : Base) (M : Mem) (Γ : Env) (e : Exit) (Q : Exit → Act → World → Prop) : Prop := ∀ a w, St B M Γ a w → Q e a w
def TrL (B : Base) (P : Program) (ops : Array Oper) (l : List Oper) (M : Mem) (Γ : Env) (Q : Exit → Act → World → Prop) : Prop := ∀ a w, St B M Γ a w → wpList P ops Q l a w

theorem Tr.seq {x y : Code} (h : Tr B P M Γ x (Exit.then (y.wp P Q) Q)) : Tr B P M Γ (.seq x y) Q := fun a w s => wp_seq (h a w s)
theorem Tr.block {i : Nat} {c : Code} (h : Tr B P M Γ c (Exit.inBlock i Q)) : Tr B P M Γ (.block i c) Q := fun a w s => wp_block (h a w s)
theorem Tr.skip (h : Fin B M Γ .normal Q) : Tr B P M Γ .skip Q := fun a w s => wp_skip (h a w s)
theorem Tr.label {l : Nat} (h : Fin B M Γ .normal Q) : Tr B P M Γ (.label l) Q := fun a w s => wp_label (h a w s)
theorem Tr.exit {i : Nat} (h : Fin B M Γ (.exit i) Q) : Tr B P M Γ (.exit i) Q := fun a w s => wp_exit (h a w s)
theorem Tr.goto {i : Nat} (h : Fin B M Γ (.goto i) Q) : Tr B P M Γ (.goto i) Q := fun a w s => wp_goto (h a w s)
theorem Tr.ret (h : Fin B M Γ .ret Q) : Tr B P M Γ .ret Q := fun a w s => wp_ret (h a w s)
theorem Tr.region {i : Nat} {ops : Array Oper} (h : TrL B P ops ops.toList M Γ Q) : Tr B P M Γ (.region i ops false) Q := fun a w s => wp_region_list (h a w s)
theorem Tr.cond {c : Operand} {b : Bool} {x y : Code} (hc : Γ.opd c = some (is (.bool b))) (ht : b = true → Tr B P M Γ x Q) (hf : b = false → Tr B P M Γ y Q) : Tr B P M Γ (.cond c x y) Q := by
  intro a w s
  obtain ⟨κ, g, m, r⟩ := s.ex
  have e : a.eval c = .bool b := (r.opd hc).now
  exact wp_cond_split e (fun hb => ht hb a w s) (fun hb => hf hb a w s)
theorem TrL.nil {ops : Array Oper} (h : Fin B M Γ .normal Q) : TrL B P ops [] M Γ Q := h

theorem Fin.next {y : Code} (h : Tr B P M Γ y Q) : Fin B M Γ .normal (Exit.then (y.wp P Q) Q) := h
theorem Fin.thenExit {K : Act → World → Prop} {i : Nat} (h : Fin B M Γ (.exit i) Q) : Fin B M Γ (.exit i) (Exit.then K Q) := h
theorem Fin.thenRet {K : Act → World → Prop} (h : Fin B M Γ .ret Q) : Fin B M Γ .ret (Exit.then K Q) := h
theorem Fin.thenGoto {K : Act → World → Prop} {i : Nat} (h : Fin B M Γ (.goto i) Q) : Fin B M Γ (.goto i) (Exit.then K Q) := h
theorem Fin.blockNormal {i : Nat} (h : Fin B M Γ .normal Q) : Fin B M Γ .normal (Exit.inBlock i Q) := h
theorem Fin.blockRet {i : Nat} (h : Fin B M Γ .ret Q) : Fin B M Γ .ret (Exit.inBlock i Q) := h
theorem Fin.blockGoto {i j : Nat} (h : Fin B M Γ (.goto j) Q) : Fin B M Γ (.goto j) (Exit.inBlock i Q) := h
theorem Fin.blockOut {i : Nat} (h : Fin B M Γ .normal Q) : Fin B M Γ (.exit i) (Exit.inBlock i Q) := fun a w s => by
  show (if i = i then _ else _)
  rw [if_pos rfl]
  exact h a w s
theorem Fin.blockPast {i j : Nat} (hne : Nat.beq j i = false) (h : Fin B M Γ (.exit j) Q) : Fin B M Γ (.exit j) (Exit.inBlock i Q) := fun a w s => by
  show (if j = i then _ else _)
  rw [if_neg (beq_ne hne)]
  exact h a w s

/-- the state weakened -/
theorem St.sub {M' : Mem} {Γ' : Env} {a : Act} {w : World} (s : St B M Γ a w) (hM : ∀ l φ, 2 ≤ l → M'.get l = some φ → ∃ ψ, M.get l = some ψ ∧ ∀ F L w, ψ F L w → φ F L w)
    (hΓ : ∀ t R, Γ'.get t = some R → ∃ R0, Γ.get t = some R0 ∧ ∀ v w, R0 v w → R v w) : St B M' Γ' a w := by
  obtain ⟨κ, g, m, r⟩ := s.ex
  refine ⟨s.size, s.defers, κ, g, fun l φ h2 hl => ?_, fun t R ht => ?_⟩
  · obtain ⟨ψ, h1, h3⟩ := hM l φ h2 hl
    exact fun L w' hL k => h3 _ _ _ (m l ψ h2 h1 L w' hL k)
  · obtain ⟨R0, h1, h2⟩ := hΓ t R ht
    exact (r t R0 h1).map h2

/-- from one environment to another, slot by slot -/
inductive Sub (Γ : Env) : Env → Prop where
  | nil : Sub Γ []
  | cons {t : Nat} {R0 R : VP} {Γ' : Env} (h : Γ.get t = some R0) (i : ∀ v w, R0 v w → R v w) (r : Sub Γ Γ') : Sub Γ ((t, R) :: Γ')
theorem Sub.same {t : Nat} {R : VP} {Γ' : Env} (h : Γ.get t = some R) (r : Sub Γ Γ') : Sub Γ ((t, R) :: Γ') := .cons h (fun _ _ h => h) r
theorem Sub.eq {t : Nat} {u v : Value} {Γ' : Env} (h : Γ.get t = some (is u)) (e : u = v) (r : Sub Γ Γ') : Sub Γ ((t, is v) :: Γ') := .cons h (fun _ _ h => e ▸ h) r
theorem Sub.to {Γ' : Env} (h : Sub Γ Γ') : ∀ t R, Γ'.get t = some R → ∃ R0, Γ.get t = some R0 ∧ ∀ v w, R0 v w → R v w := by
  induction h with
  | nil => intro t R ht; simp [Env.get] at ht
  | cons h i r ih =>
    rename_i s R0 R1 Γ1
    intro t R ht
    simp only [Env.get] at ht
    cases hb : Nat.beq s t with
    | true =>
      rw [hb] at ht
      simp only [cond_true, Option.some.injEq] at ht
      subst ht
      obtain rfl := beq_true hb
      exact ⟨R0, h, i⟩
    | false =>
      rw [hb] at ht
      exact ih t R ht
inductive SubM (M : Mem) : Mem → Prop where
  | nil : SubM M []
  | cons {l : Nat} {ψ φ : RP} {M' : Mem} (h : M.get l = some ψ) (i : ∀ F L w, ψ F L w → φ F L w) (r : SubM M M') : SubM M ((l, φ) :: M')
theorem SubM.same {l : Nat} {φ : RP} {M' : Mem} (h : M.get l = some φ) (r : SubM M M') : SubM M ((l, φ) :: M') := .cons h (fun _ _ _ h => h) r
theorem SubM.to {M' : Mem} (h : SubM M M') : ∀ l φ, 2 ≤ l → M'.get l = some φ → ∃ ψ, M.get l = some ψ ∧ ∀ F L w, ψ F L w → φ F L w := by
  induction h with
  | nil => intro t R _ ht; simp [Mem.get] at ht
  | cons h i r ih =>
    rename_i s R0 R1 Γ1
    intro t R h2 ht
    simp only [Mem.get] at ht
    cases hb : Nat.beq s t with
    | true =>
      rw [hb] at ht
      simp only [cond_true, Option.some.injEq] at ht
      subst ht
      obtain rfl := beq_true hb
      exact ⟨R0, h, i⟩
    | false =>
      rw [hb] at ht
      exact ih t R h2 ht

theorem Tr.sub {c : Code} {M' : Mem} {Γ' : Env} (hM : SubM M M') (hΓ : Sub Γ Γ') (h : Tr B P M' Γ' c Q) : Tr B P M Γ c Q := fun a w s => h a w (s.sub hM.to hΓ.to)
theorem Fin.sub {e : Exit} {M' : Mem} {Γ' : Env} (hM : SubM M M') (hΓ : Sub Γ Γ') (h : Fin B M' Γ' e Q) : Fin B M Γ e Q := fun a w s => h a w (s.sub hM.to hΓ.to)
theorem TrL.sub {ops : Array Oper} {l : List Oper} {M' : Mem} {Γ' : Env} (hM : SubM M M') (hΓ : Sub Γ Γ') (h : TrL B P ops l M' Γ' Q) : TrL B P ops l M Γ Q := fun a w s => h a w (s.sub hM.to hΓ.to)

/-- a loop: a state for each ghost, a measure -/
def Again {γ : Type} (B : Base) (I : γ → Prop) (SM : γ → Mem) (SΓ : γ → Env) (m : γ → Nat) (n : Nat) : Act → World → Prop := fun a w => ∃ g, I g ∧ m g < n ∧ St B (SM g) (SΓ g) a w
theorem Tr.loop {γ : Type} {c : Code} (I : γ → Prop) (SM : γ → Mem) (SΓ : γ → Env) (m : γ → Nat) (g0 : γ) (h0 : I g0) (hM : SubM M (SM g0)) (hΓ : Sub Γ (SΓ g0))
    (h : ∀ g, I g → Tr B P (SM g) (SΓ g) c (Exit.then (Again B I SM SΓ m (m g)) Q)) : Tr B P M Γ (.loop c) Q := by
  intro a w s b k cs
  have key : ∀ n g a w, m g = n → I g → St B (SM g) (SΓ g) a w →
      ∃ e a' w', Q e a' w' ∧ Arrives P (lone (b.at a (.code c :: .inLoop c :: k)) cs w) b k cs e a' w' := by
    intro n
    induction n using Nat.strongRecOn with
    | _ n ih =>
      intro g a w hn hI hs
      obtain ⟨e, a₁, w₁, hq, harr⟩ := h g hI a w hs b (.inLoop c :: k) cs
      cases e with
      | normal =>
        obtain ⟨g', hI', hlt, hs'⟩ := hq
        obtain ⟨e₂, a₂, w₂, hq₂, harr₂⟩ := ih (m g') (hn ▸ hlt) g' a₁ w₁ rfl hI' hs'
        exact ⟨e₂, a₂, w₂, hq₂, .of_steps (Steps.trans harr (.one step_inLoop)) harr₂⟩
      | exit id => exact ⟨_, a₁, w₁, hq, .pass (x := .inLoop c) rfl (fun _ _ => .inl (by simp)) harr⟩
      | goto l => exact ⟨_, a₁, w₁, hq, .pass (x := .inLoop c) rfl (fun _ _ => .inl (by simp)) harr⟩
      | ret => exact ⟨_, a₁, w₁, hq, .pass (x := .inLoop c) rfl (fun _ _ => .inl (by simp)) harr⟩
      | panic ch => exact ⟨_, a₁, w₁, hq, .pass (x := .inLoop c) rfl (fun _ _ => .inl (by simp)) harr⟩
      | outgrown => exact ⟨_, a₁, w₁, hq, .pass (x := .inLoop c) rfl (fun _ _ => .inl (by simp)) harr⟩
  obtain ⟨e, a', w', hq, harr⟩ := key _ g0 a w rfl h0 (s.sub hM.to hΓ.to)
  exact ⟨e, a', w', hq, .of_steps (.one step_loop) harr⟩
theorem Fin.again {γ : Type} {I : γ → Prop} {SM : γ → Mem} {SΓ : γ → Env} {m : γ → Nat} {n : Nat} (g : γ) (hI : I g) (hm : m g < n) (hM : SubM M (SM g)) (hΓ : Sub Γ (SΓ g)) : Fin B M Γ .normal (Exit.then (Again B I SM SΓ m n) Q) :=
  fun a w s => ⟨g, hI, hm, s.sub hM.to hΓ.to⟩
end
end Go.Proofs.Ytemkogoclljhpaa.L
