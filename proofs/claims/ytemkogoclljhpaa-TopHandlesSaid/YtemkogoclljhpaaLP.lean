/- Statements in whatever order that write as well: one operation's step. -/
import Derived.Test.YtemkogoclljhpaaLO
namespace Go.Proofs.Ytemkogoclljhpaa.L
open Go
set_option linter.unusedVariables false
set_option linter.unusedSimpArgs false
set_option linter.unusedSectionVars false

/-! ### 1. One operation -/
/-- all slots' values; facts and resources may speak of them -/
abbrev Sg := Nat → Value
def sg (a : Act) : Sg := fun t => a.eval (.tmp t)
def upd (σ : Sg) (d : Option Nat) (v : Value) : Sg := match d with | none => σ | some d => fun t => bif Nat.beq d t then v else σ t
def res (d : Option Nat) (a : Act) : Value := match d with | some t => a.eval (.tmp t) | none => undef
theorem sg_put {a : Act} {d : Option Nat} {v : Value} (hd : ∀ t, d = some t → t < a.tmps.size) : sg (a.put d v) = upd (sg a) d v := by
  cases d with
  | none => rfl
  | some d =>
    funext t
    simp only [sg, upd]
    cases hb : Nat.beq d t with
    | true => obtain rfl := beq_true hb; rw [eval_put_same (hd _ rfl)]; rfl
    | false => rw [eval_put_ne (beq_ne hb)]; rfl
abbrev AMem := List (Nat × (Sg → RP))
def AMem.get : AMem → Nat → Option (Sg → RP)
  | [], _ => none
  | (s, φ) :: M, l => bif Nat.beq s l then some φ else AMem.get M l
def AOk (κ : Nat → Nat) (MA : AMem) (σ : Sg) (w : World) : Prop := ∀ l Φ, 2 ≤ l → MA.get l = some Φ → ResOk κ l (Φ σ) w
/-- the slots that are read alone -/
def readsSlot (xs : List Operand) (t : Nat) : Bool := xs.any fun x => match x with | .tmp s => Nat.beq s t | _ => false
def Env.cut (xs : List Operand) : Env → Env
  | [] => []
  | (t, R) :: Γ => bif readsSlot xs t then (t, R) :: Env.cut xs Γ else Env.cut xs Γ
theorem cut_get {xs : List Operand} : ∀ {Γ : Env} {t : Nat} {R : VP}, (Env.cut xs Γ).get t = some R → Γ.get t = some R ∧ readsSlot xs t = true
  | [], t, R, h => by simp [Env.cut, Env.get] at h
  | (s, R0) :: Γ, t, R, h => by
    simp only [Env.cut] at h
    cases hs : readsSlot xs s with
    | true =>
      rw [hs] at h
      simp only [cond_true, Env.get] at h ⊢
      cases hb : Nat.beq s t with
      | true => rw [hb] at h; obtain rfl := beq_true hb; exact ⟨h, hs⟩
      | false => rw [hb] at h; exact cut_get h
    | false =>
      rw [hs] at h
      obtain ⟨h1, h2⟩ := cut_get h
      refine ⟨?_, h2⟩
      simp only [Env.get]
      have : Nat.beq s t = false := by
        cases hb : Nat.beq s t with
        | false => rfl
        | true => obtain rfl := beq_true hb; rw [hs] at h2; cases h2
      rw [this]; exact h1
theorem reads_mem {xs : List Operand} {t : Nat} (h : readsSlot xs t = true) : Operand.tmp t ∈ xs := by
  obtain ⟨x, hx, hb⟩ := List.any_eq_true.1 h
  cases x with
  | tmp s => simp only at hb; obtain rfl := beq_true hb; exact hx
  | const v => cases hb
  | global g => cases hb
  | func f => cases hb

def OpW (P : Program) (N : Nat) (ops : Array Oper) (MA : AMem) (Γf : Sg → Env) (o : Oper) (S : List Nat) (R : Sg → VP) (ch : AMem) : Prop :=
  ∀ (a : Act) (w : World) (κ : Nat → Nat) (Q : Exit → Act → World → Prop) (K : Act → World → Prop), a.tmps.size = N → a.defers = [] → Wf κ w → AOk κ MA (sg a) w → RegOn (live κ) (Γf (sg a)) (reads ops o) a w →
    (∀ v w' κ', Turn (fun l => l ∈ S) κ κ' w w' → AOk κ' ch (sg (a.put o.dst v)) w' → (∀ d, o.dst = some d → Box (live κ') (R (sg (a.put o.dst v))) v w') → K (a.put o.dst v) w') →
    if Region.wanted o (yielded ops a.tmps) then o.wp P a w K Q else K (a.put o.dst undef) w

section
variable {P : Program} {N : Nat} {ops : Array Oper} {MA : AMem} {M : Mem} {Γf : Sg → Env} {Γ : Env} {o : Oper}
def AMem.inst (σ : Sg) : AMem → Mem
  | [] => []
  | (l, Φ) :: MA => (l, Φ σ) :: AMem.inst σ MA
theorem inst_get {σ : Sg} : ∀ {MA : AMem} {l : Nat} {φ : RP}, (AMem.inst σ MA).get l = some φ → ∃ Φ, MA.get l = some Φ ∧ φ = Φ σ
  | [], l, φ, h => by simp [AMem.inst, Mem.get] at h
  | (s, Φ) :: MA, l, φ, h => by
    simp only [AMem.inst, Mem.get] at h
    cases hb : Nat.beq s l with
    | true =>
      rw [hb] at h
      obtain rfl := beq_true hb
      simp only [cond_true, Option.some.injEq] at h
      exact ⟨Φ, by simp [AMem.get], h.symm⟩
    | false =>
      rw [hb] at h
      obtain ⟨Φ', h1, h2⟩ := inst_get (MA := MA) h
      exact ⟨Φ', by simp only [AMem.get, hb]; exact h1, h2⟩
/-- an operation that writes nothing -/
theorem OpW.rd {R : Sg → VP} (hN : dstOk o.dst N = true) (h : ∀ σ, OpG P (AMem.inst σ MA) ops (Γf σ) o (R σ)) (hR : ∀ σ v, R (upd σ o.dst v) = R σ) : OpW P N ops MA Γf o [] R [] := by
  intro a w κ Q K hs hd hw hm hr hK
  refine h (sg a) a w κ Q K hw (fun l φ h2 hl => ?_) hr fun v w' k hv => hK v w' κ ?_ (fun l Φ h2 hl => by simp [AMem.get] at hl) fun d hd => ?_
  · obtain ⟨Φ, h1, rfl⟩ := inst_get hl
    exact hm l Φ h2 h1
  · have e : (fun l => l ∈ ([] : List Nat)) = fun _ => False := by funext l; simp
    rw [e]
    exact Turn.quiet hw k
  · rw [sg_put (fun t ht => by rw [hs]; exact dstOk.to hN t ht), hR]; exact hv
/-- what an operation goes on with is its own act, a value put -/
theorem wp_puts {a : Act} {w : World} {K : Act → World → Prop} {Q : Exit → Act → World → Prop} (hd : a.defers = []) (hK : ∀ a' w', K a' w' → a'.defers = []) (h : o.wp P a w K Q) : o.wp P a w (fun a' w' => K a' w' ∧ ∃ v, a' = a.put o.dst v) Q := by
  unfold Oper.wp at *
  generalize (execOp a.eval o).run P w = r at *
  cases r with
  | ok n w' =>
    cases n <;> simp only [Oper.upon] at h ⊢ <;>
      first
        | exact ⟨h, _, rfl⟩
        | exact Calls.mono h (fun e w'' he => by cases e <;> first | exact ⟨he, _, rfl⟩ | exact he)
        | exact Rows.mono h (fun _ _ he => ⟨he, _, rfl⟩)
        | exact h
        | (have := hK _ _ h; rw [put_defers] at this; cases this)
  | halt x w' => cases x <;> simp only [Oper.upon] at h ⊢ <;> exact h
theorem wp_exits {a : Act} {w : World} {K : Act → World → Prop} {Q Q' : Exit → Act → World → Prop} (hQ : ∀ e a w, e ≠ .normal → Q' e a w → Q e a w) (h : o.wp P a w K Q') : o.wp P a w K Q := by
  unfold Oper.wp at *
  generalize (execOp a.eval o).run P w = r at *
  cases r with
  | ok n w' =>
    cases n <;> simp only [Oper.upon] at h ⊢ <;>
      first
        | exact h
        | exact Calls.mono h (fun e w'' he => by cases e <;> first | exact he | exact hQ _ _ _ (by simp) he | exact (let ⟨a, w, h⟩ := he; ⟨a, w, hQ _ _ _ (by simp) h⟩))
  | halt x w' => cases x <;> simp only [Oper.upon] at h ⊢ <;> first | exact h | exact hQ _ _ _ (by simp) h
/-! ### 2. One operation, by the rules for the text's order -/
/-- what holds behind one operation -/
def After (B : Base) (σ : Sg) (d : Option Nat) (R : Sg → VP) (ch : AMem) : Exit → Act → World → Prop := fun e a w => e = .normal ∧ a.defers = [] ∧ ∃ κ, Good B κ w ∧ AOk κ ch (upd σ d (res d a)) w ∧ (d ≠ none → Box (live κ) (R (upd σ d (res d a))) (res d a) w)
inductive AnX (M' : Mem) (σ' : Sg) : AMem → Prop where
  | nil : AnX M' σ' []
  | cons {l : Nat} {Φ : Sg → RP} {φ : RP} {ch : AMem} (h : M'.get l = some φ) (e : Φ σ' = φ) (r : AnX M' σ' ch) : AnX M' σ' ((l, Φ) :: ch)
theorem AnX.free {M' : Mem} {σ' : Sg} {l : Nat} {φ : RP} {ch : AMem} (h : M'.get l = some φ) (r : AnX M' σ' ch) : AnX M' σ' ((l, fun _ => φ) :: ch) := .cons h rfl r
theorem AnX.ok {M' : Mem} {σ' : Sg} {ch : AMem} (h : AnX M' σ' ch) {κ : Nat → Nat} {w : World} (m : MemOk κ M' w) : AOk κ ch σ' w := by
  induction h with
  | nil => intro l Φ _ hl; simp [AMem.get] at hl
  | cons h e r0 ih =>
    rename_i l0 Φ0 φ ch'
    intro l Φ h2 hl
    simp only [AMem.get] at hl
    cases hb : Nat.beq l0 l with
    | true =>
      rw [hb] at hl
      obtain rfl := beq_true hb
      simp only [cond_true, Option.some.injEq] at hl
      subst hl
      rw [e]
      exact m _ _ h2 h
    | false => rw [hb] at hl; exact ih l Φ h2 hl
section
variable {B : Base} {M' : Mem} {Γ'' : Env} {ch : AMem} {σ : Sg} {R : Sg → VP}
theorem TrL.done0 (h : AnX M' σ ch) : TrL B P ops [] M' Γ'' (After B σ none R ch) := fun a w s => by
  obtain ⟨κ, g, m, r⟩ := s.ex
  exact ⟨rfl, s.defers, κ, g, h.ok m, fun hn => absurd rfl hn⟩
theorem TrL.doneR {d : Nat} {R0 : VP} (hv : Γ''.get d = some R0) (hR : ∀ v, R (upd σ (some d) v) = R0) (h : ∀ v, AnX M' (upd σ (some d) v) ch) : TrL B P ops [] M' Γ'' (After B σ (some d) R ch) := fun a w s => by
  obtain ⟨κ, g, m, r⟩ := s.ex
  refine ⟨rfl, s.defers, κ, g, (h _).ok m, fun _ => ?_⟩
  rw [hR]; exact r d _ hv
theorem TrL.doneV {d : Nat} {v : Value} (hv : Γ''.get d = some (is v)) (hR : ∀ v, R (upd σ (some d) v) = is v) (h : AnX M' (upd σ (some d) v) ch) : TrL B P ops [] M' Γ'' (After B σ (some d) R ch) := fun a w s => by
  obtain ⟨κ, g, m, r⟩ := s.ex
  have e : res (some d) a = v := (r d _ hv).now
  refine ⟨rfl, s.defers, κ, g, by rw [e]; exact h.ok m, fun _ => ?_⟩
  rw [hR]; exact Box.is
end
theorem OpW.lift {S : List Nat} {ch : AMem} {R : Sg → VP} (hS : geB 2 S = true) (hg : o.guard = none) (hN : dstOk o.dst N = true)
    (h : ∀ (w0 : World) (κ0 : Nat → Nat) (σ : Sg), TrL ⟨N, fun n => memB n S, w0, κ0⟩ P ops [o] (AMem.inst σ MA) ((Γf σ).cut (reads ops o)) (After ⟨N, fun n => memB n S, w0, κ0⟩ σ o.dst R ch)) (hch : ∀ l Φ, ch.get l = some Φ → l ∈ S) :
    OpW P N ops MA Γf o S R ch := by
  intro a w κ Q K hs hdf hw hm hr hK
  have hw1 : Region.wanted o (yielded ops a.tmps) = true := by simp [Region.wanted, hg]
  rw [if_pos hw1]
  have hS2 := geB_iff hS
  have s : St ⟨N, fun n => memB n S, w, κ⟩ (AMem.inst (sg a) MA) ((Γf (sg a)).cut (reads ops o)) a w := by
    refine ⟨hs, hdf, κ, ⟨fun n hn => hS2 n (memB_iff.1 hn), hw, Keeps.refl _ _, fun _ _ _ => rfl⟩, fun l φ h2 hl => ?_, fun t R ht => ?_⟩
    · obtain ⟨Φ, h1, rfl⟩ := inst_get hl
      exact hm l Φ h2 h1
    · obtain ⟨h1, h2⟩ := cut_get ht
      exact hr (.tmp t) (reads_mem h2) R h1
  have hrun := h w κ (sg a) a w s
  unfold wpList at hrun
  rw [if_pos hw1] at hrun
  have hrun : o.wp P a w (wpList P ops (After ⟨N, fun n => memB n S, w, κ⟩ (sg a) o.dst R ch) []) (After ⟨N, fun n => memB n S, w, κ⟩ (sg a) o.dst R ch) := by
    rcases hrun with h' | ⟨_, b, w', h', _⟩
    · exact h'
    · cases h'
  have h2 := wp_exits (Q := Q) (fun e a w hne he => absurd he.1 hne) (wp_puts hdf (fun a' w' he => he.2.1) hrun)
  refine Oper.wp_mono (fun a' w' he => ?_) h2
  obtain ⟨⟨_, _, κ1, g, hA, hR⟩, v, rfl⟩ := he
  have hsg : upd (sg a) o.dst (res o.dst (a.put o.dst v)) = sg (a.put o.dst v) := by
    rw [sg_put (fun t ht => by rw [hs]; exact dstOk.to hN t ht)]
    cases hd : o.dst with
    | none => rfl
    | some d => simp only [res]; rw [eval_put_same (by rw [hs]; exact dstOk.to hN d hd)]
  rw [hsg] at hA hR
  obtain ⟨κ2, hκ2⟩ : ∃ κ2 : Nat → Nat, κ2 = fun b => if b < w.heap.size ∧ κ b ∉ S then κ b else if κ1 b ∈ S then κ1 b else 0 := ⟨_, rfl⟩
  have e2 : ∀ b, κ2 b = if b < w.heap.size ∧ κ b ∉ S then κ b else if κ1 b ∈ S then κ1 b else 0 := fun b => by rw [hκ2]
  have old : ∀ b, b < w.heap.size → κ b ∉ S → κ1 b = κ b := fun b hb hn => g.old b hb (by
    show memB (κ b) S = false
    cases hq : memB (κ b) S with
    | false => rfl
    | true => exact absurd (memB_iff.1 hq) hn)
  have live2 : ∀ b, κ2 b ≠ 0 → κ1 b ≠ 0 := fun b h => by
    rw [e2] at h
    split at h
    · rename_i hb; rw [old b hb.1 hb.2]; exact h
    · split at h
      · exact h
      · exact absurd rfl h
  refine hK v w' κ2 ⟨fun h => by have := hS2 _ h; omega, fun h => by have := hS2 _ h; omega, g.keeps.mono fun b _ h => memB_iff.1 h, fun b hb => ?_, fun b hb h0 => ?_, fun l hl h0 b => ?_⟩ (fun l Φ h2 hl => ?_) fun d hed => ?_
  · have h1 := g.keeps.size
    have h3 : b ≥ w.heap.size := Nat.le_trans h1 hb
    rw [e2, if_neg (by omega), g.wf b hb, if_neg (fun h => by have := hS2 _ h; omega)]
  · rw [e2, if_pos ⟨hb, fun h => by have := hS2 _ h; omega⟩]; exact h0
  · rw [e2]
    split
    · rfl
    · rename_i hnot
      have hne : κ b ≠ l := fun e => by
        have hbw : b < w.heap.size := by
          rcases Nat.lt_or_ge b w.heap.size with h | h
          · exact h
          · exact absurd (hw b h) (by omega)
        exact hnot ⟨hbw, e ▸ hl⟩
      refine ⟨fun e => ?_, fun e => absurd e hne⟩
      split at e
      · rename_i h; exact absurd (e ▸ h) hl
      · exact absurd e.symm h0
  · refine (hA l Φ h2 hl).rename (fun b => ?_) fun b _ h => live2 b h
    have hlS := hch l Φ hl
    rw [e2]
    constructor
    · intro e
      split at e
      · rename_i hb; exact absurd (e ▸ hlS) hb.2
      · split at e
        · exact e
        · omega
    · intro e
      rw [if_neg, if_pos (by rw [e]; exact hlS)]
      · exact e
      · rintro ⟨hb, hn⟩
        have := old b hb hn
        exact hn (by rw [← this, e]; exact hlS)
  · have h3 := hR (by rw [hed]; simp)
    have e3 : res o.dst (a.put o.dst v) = v := by
      rw [hed]; simp only [res]
      exact eval_put_same (by rw [hs]; exact dstOk.to hN d hed)
    rw [e3] at h3
    exact h3.less fun b _ h => live2 b h
end
end Go.Proofs.Ytemkogoclljhpaa.L
