/- Calls that lend and hand over: what a function reads of the caller's memory, and what it writes. -/
import Derived.Test.YtemkogoclljhpaaLG
namespace Go.Proofs.Ytemkogoclljhpaa.L
open Go
set_option linter.unusedVariables false
set_option linter.unusedSimpArgs false

/-! ### 1. Contracts -/
def MemL (κ : Nat → Nat) (t : Nat) (Φ : List RP) (w : World) : Prop := ∀ i φ, Φ[i]? = some φ → ResOk κ (t + i) φ w
structure Grow (t : Nat) (κ κ' : Nat → Nat) (w w' : World) : Prop where
  wf : Wf κ' w'
  keeps : Keeps (fun b => t ≤ κ b) w w'
  old : ∀ b, b < w.heap.size → κ b < t → κ' b = κ b
/-- Ro: what is lent to be read; Φ: what is handed over; Ψ: what is handed back -/
structure FnG (P : Program) (f : FuncId) (As : List VP) (Ro Φ : List RP) {γ : Type} (R : γ → VP) (Ψ : γ → List RP) : Prop where
  name : nameB P f = true
  calls : ∀ (args : Array Value) (w : World) (κ : Nat → Nat), Wf κ w → ArgsOk (live κ) w As args.toList → MemL κ 2 (Ro ++ Φ) w →
    Calls P f args w fun e w' => ∃ v g κ', e = .returned v ∧ Grow (2 + Ro.length) κ κ' w w' ∧ MemL κ' (2 + Ro.length) (Ψ g) w' ∧ Box (live κ') (R g) v w'
/-- who only reads -/
abbrev FnR (P : Program) (f : FuncId) (As : List VP) (Ro : List RP) (R : VP) : Prop := FnG P f As Ro [] (γ := Unit) (fun _ => R) (fun _ => [])

def memOf : Nat → List RP → Mem
  | _, [] => []
  | k, φ :: Φ => (k, φ) :: memOf (k + 1) Φ
theorem memOf_get : ∀ (Φ : List RP) (k l : Nat) (φ : RP), (memOf k Φ).get l = some φ → ∃ i, Φ[i]? = some φ ∧ l = k + i
  | [], k, l, φ, h => by simp [memOf, Mem.get] at h
  | ψ :: Φ, k, l, φ, h => by
    simp only [memOf, Mem.get] at h
    cases hb : Nat.beq k l with
    | true =>
      rw [hb] at h
      simp only [cond_true, Option.some.injEq] at h
      exact ⟨0, by simp [h], (beq_true hb).symm⟩
    | false =>
      rw [hb] at h
      obtain ⟨i, h1, h2⟩ := memOf_get Φ (k + 1) l φ h
      exact ⟨i + 1, by simpa using h1, by omega⟩

/-- what a return owes -/
def RetG (P : Program) (fn : Func) (B : Base) (t : Nat) {γ : Type} (R : γ → VP) (Ψ : γ → List RP) : Exit → Act → World → Prop :=
  bodyPost P fn fun e w' => ∃ v g κ', e = .returned v ∧ Good B κ' w' ∧ MemL κ' t (Ψ g) w' ∧ Box (live κ') (R g) v w'

theorem args_length {S : Foot} {w : World} {As : List VP} {vs : List Value} (h : ArgsOk S w As vs) : vs.length = As.length := by
  induction h with
  | nil => rfl
  | cons h r ih => simp [ih]
theorem FnG.mk' {P : Program} {f : FuncId} {fn : Func} {c : Code} {As : List VP} {Ro Φ : List RP} {γ : Type} {R : γ → VP} {Ψ : γ → List RP} (hf : P.funcs[f]? = some fn) (hn : nameB P f = true) (hb : fn.body = some c) {N : Nat} (hN : fn.ntmps = N) (hA : Nat.ble As.length N = true)
    {t : Nat} (ht : Nat.beq (2 + Ro.length) t = true) (h : ∀ B : Base, Tr ⟨N, Nat.ble t, B.w0, B.κ0⟩ P (memOf 2 (Ro ++ Φ)) (envOf 0 As) c (RetG P fn ⟨N, Nat.ble t, B.w0, B.κ0⟩ t R Ψ)) : FnG P f As Ro Φ R Ψ := by
  refine ⟨hn, fun args w κ hw ha hm => calls_of_wp hf hb ?_⟩
  obtain rfl := beq_true ht
  have hB := h ⟨N, Nat.ble (2 + Ro.length), w, κ⟩
  have hlen : args.size = As.length := by simpa using args_length ha
  have hA' : As.length ≤ N := by simpa [Nat.ble_eq] using hA
  refine Code.wp_mono (fun e a w' q => ?_) (hB _ w ⟨?_, rfl, κ, ⟨fun n h => by have := Nat.le_of_ble_eq_true h; omega, hw, Keeps.refl _ _, fun _ _ _ => rfl⟩, fun l φ _ hl => ?_, ?_⟩)
  · refine post_mono (fun e w'' hh => ?_) q
    obtain ⟨v, g, κ', e1, hg, hm', hv⟩ := hh
    exact ⟨v, g, κ', e1, ⟨hg.wf, hg.keeps.mono fun b _ h => Nat.le_of_ble_eq_true h, fun b hb h => hg.old b hb (by show Nat.ble _ _ = false; cases hq : Nat.ble (2 + Ro.length) (κ b) with | false => rfl | true => have := Nat.le_of_ble_eq_true hq; omega)⟩, hm', hv⟩
  · simp [hN, hlen]; omega
  · obtain ⟨i, h1, rfl⟩ := memOf_get _ _ _ _ hl
    exact hm i φ h1
  · refine reg_args (S := live κ) (vs := args.toList) ha 0 _ fun i hi => ?_
    simp only [Nat.zero_add, Act.eval]
    have hi' : i < args.size := by simpa using hi
    rw [Array.getD_eq_getD_getElem?, Array.getElem?_append_left hi', List.getD_eq_getElem?_getD]
    simp

/-! ### 2. Labels -/
inductive GetW (M : Mem) : List Nat → List RP → Prop where
  | nil : GetW M [] []
  | cons {l : Nat} {ls : List Nat} {ψ φ : RP} {Φ : List RP} (h : M.get l = some ψ) (i : ∀ F L w, ψ F L w → φ F L w) (r : GetW M ls Φ) : GetW M (l :: ls) (φ :: Φ)
theorem GetW.same {M : Mem} {l : Nat} {ls : List Nat} {φ : RP} {Φ : List RP} (h : M.get l = some φ) (r : GetW M ls Φ) : GetW M (l :: ls) (φ :: Φ) := .cons h (fun _ _ _ h => h) r
theorem GetW.at {M : Mem} {ls : List Nat} {Φ : List RP} (h : GetW M ls Φ) : ls.length = Φ.length ∧ ∀ (i : Nat) (φ : RP), Φ[i]? = some φ → ∃ l ψ, ls[i]? = some l ∧ M.get l = some ψ ∧ ∀ F L w, ψ F L w → φ F L w := by
  induction h with
  | nil => exact ⟨rfl, fun i φ h => by simp at h⟩
  | cons h i r ih =>
    refine ⟨by simp [ih.1], fun j φ hj => ?_⟩
    cases j with
    | zero => simp only [List.getElem?_cons_zero, Option.some.injEq] at hj; subst hj; exact ⟨_, _, by simp, h, i⟩
    | succ j => obtain ⟨l, ψ, h1, h2⟩ := ih.2 j φ (by simpa using hj); exact ⟨l, ψ, by simpa using h1, h2⟩
theorem ResOk.imp {κ : Nat → Nat} {l : Nat} {φ ψ : RP} {w : World} (h : ResOk κ l ψ w) (i : ∀ F L w, ψ F L w → φ F L w) : ResOk κ l φ w := fun L w' hL k => i _ _ _ (h L w' hL k)
/-- the same memory under other labels -/
theorem ResOk.rename {κ κ' : Nat → Nat} {l l' : Nat} {φ : RP} {w : World} (h : ResOk κ l φ w) (hF : ∀ b, κ' b = l' ↔ κ b = l) (hL : ∀ b, b < w.heap.size → κ' b ≠ 0 → κ b ≠ 0) : ResOk κ' l' φ w := by
  intro L w' h1 k
  have e : (fun b => κ' b = l') = fun b => κ b = l := funext fun b => propext (hF b)
  rw [e]
  exact h L w' (fun b hb hl => hL b hb (h1 b hb hl)) (k.mono fun b hb h2 => ⟨hL b hb h2.1, fun e => h2.2 ((hF b).2 e)⟩)

def memB (l : Nat) : List Nat → Bool
  | [] => false
  | x :: xs => Nat.beq x l || memB l xs
def nodupB : List Nat → Bool
  | [] => true
  | x :: xs => !memB x xs && nodupB xs
theorem memB_iff {l : Nat} : ∀ {xs : List Nat}, memB l xs = true ↔ l ∈ xs
  | [] => by simp [memB]
  | x :: xs => by
    simp only [memB, Bool.or_eq_true, memB_iff (xs := xs), List.mem_cons, Nat.beq_eq]
    constructor
    · rintro (h | h); exact .inl h.symm; exact .inr h
    · rintro (h | h); exact .inl h.symm; exact .inr h
theorem nodupB_iff : ∀ {xs : List Nat}, nodupB xs = true → xs.Nodup
  | [], _ => List.nodup_nil
  | x :: xs, h => by
    simp only [nodupB, Bool.and_eq_true, Bool.not_eq_true'] at h
    exact List.nodup_cons.2 ⟨fun hm => (by rw [memB_iff.2 hm] at h; cases h.1), nodupB_iff h.2⟩
def geB (t : Nat) (xs : List Nat) : Bool := xs.all fun x => Nat.ble t x
theorem geB_iff {t : Nat} {xs : List Nat} (h : geB t xs = true) : ∀ x ∈ xs, t ≤ x := fun x hx => by
  have := List.all_eq_true.1 h x hx
  simpa [Nat.ble_eq] using this
open Classical in
/-- the labels as the one who is called sees them -/
noncomputable def seen (κ : Nat → Nat) (ps : List Nat) : Nat → Nat := fun b => if κ b = 0 then 0 else if κ b ∈ ps then 2 + ps.idxOf (κ b) else 1
theorem seen_live {κ : Nat → Nat} {ps : List Nat} (b : Nat) : seen κ ps b ≠ 0 ↔ κ b ≠ 0 := by
  unfold seen; split
  · simp [*]
  · split <;> (simp [*]; try omega)
theorem seen_at {κ : Nat → Nat} {ps : List Nat} (hn : ps.Nodup) (h2 : ∀ p ∈ ps, 2 ≤ p) {i p : Nat} (hp : ps[i]? = some p) (b : Nat) : seen κ ps b = 2 + i ↔ κ b = p := by
  have hmem : p ∈ ps := List.mem_of_getElem? hp
  have hi : i < ps.length := by
    rcases Nat.lt_or_ge i ps.length with h | h
    · exact h
    · rw [List.getElem?_eq_none h] at hp; cases hp
  have hpi : ps[i] = p := by rw [List.getElem?_eq_getElem hi] at hp; simpa using hp
  have hidx : ps.idxOf p = i := by rw [← hpi]; exact hn.idxOf_getElem i hi
  unfold seen
  constructor
  · intro h
    split at h
    · omega
    · split at h
      · rename_i hm
        have e : ps.idxOf (κ b) = i := by omega
        have := List.getElem_idxOf (xs := ps) (x := κ b) (List.idxOf_lt_length_of_mem hm)
        rw [← this, ← hpi]
        congr 1
      · omega
  · rintro rfl
    have := h2 _ hmem
    rw [if_neg (by omega), if_pos hmem, hidx]
theorem seen_lt {κ : Nat → Nat} {ro wr : List Nat} (hn : (ro ++ wr).Nodup) (b : Nat) : 2 + ro.length ≤ seen κ (ro ++ wr) b ↔ κ b ≠ 0 ∧ κ b ∈ wr := by
  unfold seen
  split
  · rename_i h; simp [h]
  · rename_i h0
    split
    · rename_i hm
      rw [List.idxOf_append]
      by_cases hr : κ b ∈ ro
      · rw [if_pos hr]
        have := List.idxOf_lt_length_of_mem hr
        refine ⟨fun h => by omega, fun h => ?_⟩
        exact absurd h.2 ((List.nodup_append.1 hn).2.2 _ hr _ · rfl)
      · rw [if_neg hr]
        refine ⟨fun _ => ⟨h0, ?_⟩, fun _ => by omega⟩
        rcases List.mem_append.1 hm with h | h
        · exact absurd h hr
        · exact h
    · rename_i hm
      refine ⟨fun h => by omega, fun h => absurd (List.mem_append_right _ h.2) hm⟩
theorem seen_mem {κ : Nat → Nat} {M : Mem} {ps : List Nat} {Φ : List RP} {w : World} (hn : ps.Nodup) (h2 : ∀ p ∈ ps, 2 ≤ p) (hm : ∀ l ψ, l ∈ ps → M.get l = some ψ → ResOk κ l ψ w) (hg : GetW M ps Φ) : MemL (seen κ ps) 2 Φ w := by
  intro i φ hi
  obtain ⟨l, ψ, h1, h3, h4⟩ := hg.at.2 i φ hi
  exact ((hm l ψ (List.mem_of_getElem? h1) h3).imp h4).rename (fun b => seen_at hn h2 h1 b) fun b _ h => (seen_live b).1 h

section
variable {B : Base} {P : Program} {M : Mem} {Γ : Env} {Q : Exit → Act → World → Prop} {ops : Array Oper} {o : Oper} {l : List Oper}
/-! ### 3. A call that only reads: in any order -/
theorem OpM.callRg {g : Operand} {xs : Array Operand} {ts : Array TypeId} {f : FuncId} {first caps : List Value} {As : List VP} {Ro : List RP} {R : VP} (ps : List Nat) (ho : o.op = .call ⟨.value g, xs, ts⟩)
    (hg : Has M Γ g (is (.func (.func f) first.toArray caps.toArray))) (hf : FnR P f (first.map is ++ As ++ caps.map is) Ro R) (hx : HasAs M Γ xs.toList As) (hr : GetW M ps Ro) (hc : (nodupB ps && geB 2 ps) = true) : OpM P M Γ o R := by
  intro a w κ Q K hw hm hreg hK
  simp only [Bool.and_eq_true] at hc
  have hn := nodupB_iff hc.1
  have h2 := geB_iff hc.2
  have hL : live (seen κ ps) = live κ := funext fun b => propext (seen_live b)
  unfold Oper.wp
  rw [run_call ho hf.name (hg.val hm hreg (by simp [ho, Op.operands, Call.operands])), Oper.upon_enter]
  refine (hf.calls _ w (seen κ ps) (fun b hb => by simp [seen, hw b hb]) ?_ (by rw [List.append_nil]; exact seen_mem hn h2 (fun l ψ hl h => hm l ψ (h2 l hl) h) hr)).mono fun e w' he => ?_
  · rw [hL]
    exact ((ArgsOk.of_is first).append (hx.args hm hreg (by intro x hx; rw [ho]; simp [Op.operands, Call.operands]; exact .inr (by simpa using hx)))).append (ArgsOk.of_is caps)
  · obtain ⟨v, _, κ', rfl, hg', _, hv⟩ := he
    have hlt : ∀ b, seen κ ps b < 2 + Ro.length := fun b => by
      have hlen := hr.at.1
      have := (seen_lt (κ := κ) (ro := ps) (wr := []) (by simpa using hn) b)
      simp only [List.append_nil, List.not_mem_nil, and_false, iff_false] at this
      omega
    have hk : Keeps (fun _ => False) w w' := hg'.keeps.mono fun b _ h => by have := hlt b; omega
    refine hK v w' hk (hv.less fun b hb hl => ?_)
    have hbw : b < w.heap.size := by
      rcases Nat.lt_or_ge b w.heap.size with h | h
      · exact h
      · exact absurd (hw b h) hl
    show κ' b ≠ 0
    rw [hg'.old b hbw (hlt b)]
    exact (seen_live b).2 hl
theorem OpM.callR {xs : Array Operand} {ts : Array TypeId} {f : FuncId} {As : List VP} {Ro : List RP} {R : VP} (ps : List Nat) (ho : o.op = .call ⟨.value (.func f), xs, ts⟩) (hf : FnR P f As Ro R) (hx : HasAs M Γ xs.toList As) (hr : GetW M ps Ro) (hc : (nodupB ps && geB 2 ps) = true) : OpM P M Γ o R :=
  OpM.callRg (first := []) (caps := []) ps ho (.of rfl) (by simpa using hf) hx hr hc
/-! ### 4. A call that writes -/
def zipM : List Nat → List RP → Mem → Mem
  | l :: ls, φ :: Φ, M => (l, φ) :: zipM ls Φ M
  | _, _, M => M
theorem zipM_get : ∀ (ls : List Nat) (Φ : List RP) (M : Mem) (l : Nat) (φ : RP), (zipM ls Φ M).get l = some φ → (∃ i : Nat, ls[i]? = some l ∧ Φ[i]? = some φ) ∨ (M.get l = some φ ∧ (ls.length = Φ.length → l ∉ ls))
  | [], Φ, M, l, φ, h => .inr ⟨h, fun _ => by simp⟩
  | l0 :: ls, [], M, l, φ, h => .inr ⟨h, fun e => by simp at e⟩
  | l0 :: ls, φ0 :: Φ, M, l, φ, h => by
    simp only [zipM, Mem.get] at h
    cases hb : Nat.beq l0 l with
    | true =>
      rw [hb] at h
      simp only [cond_true, Option.some.injEq] at h
      exact .inl ⟨0, by simp [beq_true hb], by simp [h]⟩
    | false =>
      rw [hb] at h
      rcases zipM_get ls Φ M l φ h with ⟨i, h1, h2⟩ | ⟨h1, h2⟩
      · exact .inl ⟨i + 1, by simpa using h1, by simpa using h2⟩
      · exact .inr ⟨h1, fun e => by
          simp only [List.length_cons, Nat.add_right_cancel_iff] at e
          simp only [List.mem_cons, not_or]
          exact ⟨fun e' => beq_ne hb e'.symm, h2 e⟩⟩
def dropM : List Nat → Mem → Mem
  | [], M => M
  | l :: ls, M => (l, anyR) :: dropM ls M
theorem dropM_get : ∀ (ls : List Nat) (M : Mem) (l : Nat) (φ : RP), (dropM ls M).get l = some φ → φ = anyR ∨ (M.get l = some φ ∧ l ∉ ls)
  | [], M, l, φ, h => .inr ⟨h, by simp⟩
  | l0 :: ls, M, l, φ, h => by
    simp only [dropM, Mem.get] at h
    cases hb : Nat.beq l0 l with
    | true =>
      rw [hb] at h
      simp only [cond_true, Option.some.injEq] at h
      exact .inl h.symm
    | false =>
      rw [hb] at h
      rcases dropM_get ls M l φ h with h1 | ⟨h1, h2⟩
      · exact .inl h1
      · exact .inr ⟨h1, by simp only [List.mem_cons, not_or]; exact ⟨fun e' => beq_ne hb e'.symm, h2⟩⟩
def okL (t : Nat → Bool) (ro wr ls : List Nat) : Bool := nodupB (ro ++ wr) && geB 2 ro && wr.all t && nodupB ls && ls.all t && ro.all fun l => !memB l ls
open Classical in
theorem TrL.callGg {g : Operand} {xs : Array Operand} {ts : Array TypeId} {f : FuncId} {first caps : List Value} {As : List VP} {Ro Φ : List RP} {γ : Type} {R : γ → VP} {Ψ : γ → List RP} (ro wr ls : List Nat) (ho : o.op = .call ⟨.value g, xs, ts⟩)
    (hgd : o.guard = none) (hd : dstOk o.dst B.N = true) (hg : Has M Γ g (is (.func (.func f) first.toArray caps.toArray))) (hf : FnG P f (first.map is ++ As ++ caps.map is) Ro Φ R Ψ) (hx : HasAs M Γ xs.toList As) (hr : GetW M (ro ++ wr) (Ro ++ Φ))
    (hro : Nat.beq ro.length Ro.length = true) (hc : okL B.own ro wr ls = true) (hΨ : ∀ g, ls.length = (Ψ g).length) (k : ∀ g, TrL B P ops l (zipM ls (Ψ g) (dropM wr M)) (Γ.put o.dst (R g)) Q) : TrL B P ops (o :: l) M Γ Q := by
  intro a w s
  obtain ⟨κ0, g0, m0, r0⟩ := s.ex
  simp only [okL, Bool.and_eq_true, List.all_eq_true, Bool.not_eq_true'] at hc
  obtain ⟨⟨⟨⟨⟨hn, hro2⟩, hwr⟩, hln⟩, hlt⟩, hdis⟩ := hc
  have hn := nodupB_iff hn
  have hln := nodupB_iff hln
  have hro2 := geB_iff hro2
  have hwrO : ∀ p ∈ wr, B.own p = true := hwr
  have hltO : ∀ p ∈ ls, B.own p = true := hlt
  have hwr : ∀ p ∈ wr, 2 ≤ p := fun p hp => g0.two p (hwrO p hp)
  have hlt : ∀ p ∈ ls, 2 ≤ p := fun p hp => g0.two p (hltO p hp)
  have hdis : ∀ p ∈ ro, p ∉ ls := fun p hp hm => by have := hdis p hp; rw [memB_iff.2 hm] at this; cases this
  have hroL : ro.length = Ro.length := beq_true hro
  have hps2 : ∀ p ∈ ro ++ wr, 2 ≤ p := fun p hp => by
    rcases List.mem_append.1 hp with h | h
    · exact hro2 p h
    · exact hwr p h
  -- what bears a label to be given anew, and is not handed over, is given to the others
  obtain ⟨κ, hκ⟩ : ∃ κ : Nat → Nat, κ = fun b => if κ0 b ∈ ls ∧ κ0 b ∉ wr then 1 else κ0 b := ⟨_, rfl⟩
  have k0 : ∀ b, κ b = 0 ↔ κ0 b = 0 := fun b => by
    rw [hκ]; show (if _ then 1 else κ0 b) = 0 ↔ _
    split
    · rename_i h; have := hlt _ h.1; omega
    · rfl
  have kl : ∀ l, 2 ≤ l → ¬ (l ∈ ls ∧ l ∉ wr) → ∀ b, κ b = l ↔ κ0 b = l := fun l h2 hl b => by
    rw [hκ]; show (if _ then 1 else κ0 b) = l ↔ _
    split
    · rename_i h; exact ⟨fun e => by omega, fun e => absurd (e ▸ h) hl⟩
    · rfl
  have kn : ∀ l, l ∈ ls → l ∉ wr → ∀ b, κ b ≠ l := fun l hl hnw b e => by
    rw [hκ] at e
    have e' : (if κ0 b ∈ ls ∧ κ0 b ∉ wr then 1 else κ0 b) = l := e
    split at e'
    · have := hlt _ hl; omega
    · rename_i h; exact h (e' ▸ ⟨hl, hnw⟩)
  have hlive0 : live κ = live κ0 := funext fun b => propext (not_congr (k0 b))
  have gκ : Good B κ w := ⟨g0.two, fun b hb => (k0 b).2 (g0.wf b hb), g0.keeps, fun b hb h2 => by
    have := g0.old b hb h2
    rw [hκ]; show (if _ then 1 else κ0 b) = _
    rw [if_neg (by rintro ⟨h, _⟩; have h9 := hltO _ h; rw [this, h2] at h9; cases h9)]; exact this⟩
  have hres : ∀ l ψ, 2 ≤ l → ¬ (l ∈ ls ∧ l ∉ wr) → M.get l = some ψ → ResOk κ l ψ w := fun l ψ h2 hl h => (m0 l ψ h2 h).rename (kl l h2 hl) fun b _ h e => h ((k0 b).2 e)
  have hregs : RegOk (live κ) Γ a w := hlive0 ▸ r0
  refine wpList_step fun K' hK => ?_
  rw [if_pos (by simp [Region.wanted, hgd])]
  unfold Oper.wp
  rw [run_call ho hf.name (hg.val m0 (r0.on o.op.operands.toList) (by simp [ho, Op.operands, Call.operands])), Oper.upon_enter]
  have hL : live (seen κ (ro ++ wr)) = live κ0 := hlive0 ▸ funext fun b => propext (seen_live b)
  refine (hf.calls _ w (seen κ (ro ++ wr)) (fun b hb => by simp [seen, gκ.wf b hb]) ?_ (seen_mem hn hps2 (fun l ψ hl h => hres l ψ (hps2 l hl) (fun hh => ?_) h) hr)).mono fun e w' he => ?_
  · rw [hL]
    exact ((ArgsOk.of_is first).append (hx.args m0 (r0.on o.op.operands.toList) (by intro x hx; rw [ho]; simp [Op.operands, Call.operands]; exact .inr (by simpa using hx)))).append (ArgsOk.of_is caps)
  · rcases List.mem_append.1 hl with h' | h'
    · exact hdis l h' hh.1
    · exact hh.2 h'
  · obtain ⟨v, gg, κ', rfl, hgrow, hmem, hv⟩ := he
    rw [← hroL] at hgrow hmem
    have hsw : ∀ b, 2 + ro.length ≤ seen κ (ro ++ wr) b ↔ κ b ≠ 0 ∧ κ b ∈ wr := seen_lt hn
    obtain ⟨κ2, hκ2⟩ : ∃ κ2 : Nat → Nat, κ2 = fun b => if b < w.heap.size ∧ seen κ (ro ++ wr) b < 2 + ro.length then κ b else if 2 + ro.length ≤ κ' b then ls.getD (κ' b - (2 + ro.length)) 0 else 0 := ⟨_, rfl⟩
    have e2 : ∀ b, κ2 b = if b < w.heap.size ∧ seen κ (ro ++ wr) b < 2 + ro.length then κ b else if 2 + ro.length ≤ κ' b then ls.getD (κ' b - (2 + ro.length)) 0 else 0 := fun b => by rw [hκ2]
    have inls : ∀ i, ls.getD i 0 ≠ 0 → ls.getD i 0 ∈ ls := fun i h => by
      rw [List.getD_eq_getElem?_getD] at h ⊢
      cases hi : ls[i]? with
      | none => rw [hi] at h; simp at h
      | some x => simpa using List.mem_of_getElem? hi
    have turn : Turn (fun l => l ∈ wr ∨ l ∈ ls) κ κ2 w w' := by
      refine ⟨?_, ?_, hgrow.keeps.mono fun b _ h => .inl ((hsw b).1 h).2, fun b hb => ?_, fun b hb h0 => ?_, fun l hl h0 b => ?_⟩
      · rintro (h | h)
        · have := hwr _ h; omega
        · have := hlt _ h; omega
      · rintro (h | h)
        · have := hwr _ h; omega
        · have := hlt _ h; omega
      · have h1 := hgrow.keeps.size
        rw [e2, if_neg (by omega), hgrow.wf b hb, if_neg (by omega)]
      · have : seen κ (ro ++ wr) b = 0 := by unfold seen; rw [if_pos h0]
        rw [e2, if_pos ⟨hb, by omega⟩]; exact h0
      · rw [e2]
        split
        · rfl
        · rename_i hnot
          have hnl : κ b ≠ l := fun e => by
            have hbw : b < w.heap.size := by
              rcases Nat.lt_or_ge b w.heap.size with h | h
              · exact h
              · exact absurd (gκ.wf b h) (by omega)
            have : 2 + ro.length ≤ seen κ (ro ++ wr) b := by
              rcases Nat.lt_or_ge (seen κ (ro ++ wr) b) (2 + ro.length) with h | h
              · exact absurd ⟨hbw, h⟩ hnot
              · exact h
            exact hl (.inl (e ▸ ((hsw b).1 this).2))
          refine ⟨fun e => ?_, fun e => absurd e hnl⟩
          split at e
          · exact absurd (.inr (e ▸ inls _ (by rw [e]; exact h0))) hl
          · exact absurd e.symm h0
    have live2 : ∀ b, κ2 b ≠ 0 → κ' b ≠ 0 := fun b h => by
      rw [e2] at h
      split at h
      · rename_i hb
        rw [hgrow.old b hb.1 hb.2]
        exact (seen_live b).2 h
      · split at h
        · omega
        · exact absurd rfl h
    refine hK _ _ (k gg _ _ ⟨by rw [put_size]; exact s.size, by rw [put_defers]; exact s.defers, κ2, turn.good gκ (by rintro l (h | h); exact hwrO l h; exact hltO l h), ?_, (hregs.turn turn).put (by rw [s.size]; exact dstOk.to hd) (hv.less fun b _ h => live2 b h)⟩)
    intro l φ h2 hl
    rcases zipM_get _ _ _ _ _ hl with ⟨i, h1, h3⟩ | ⟨h1, h3⟩
    · refine (hmem i φ h3).rename (fun b => ?_) fun b _ h => live2 b h
      have hil : i < ls.length := by
        rcases Nat.lt_or_ge i ls.length with h | h
        · exact h
        · rw [List.getElem?_eq_none h] at h1; cases h1
      have hli : ls[i] = l := by rw [List.getElem?_eq_getElem hil] at h1; simpa using h1
      have hl2 : l ∈ ls := List.mem_of_getElem? h1
      rw [e2]
      constructor
      · intro e
        split at e
        · rename_i hb
          by_cases hw : l ∈ wr
          · have := (hsw b).2 ⟨by omega, e ▸ hw⟩; omega
          · exact absurd e (kn l hl2 hw b)
        · split at e
          · rename_i hge
            rw [List.getD_eq_getElem?_getD] at e
            cases hj : ls[κ' b - (2 + ro.length)]? with
            | none => rw [hj] at e; simp at e; omega
            | some x =>
              rw [hj] at e
              have : κ' b - (2 + ro.length) = i := by
                have hjl : κ' b - (2 + ro.length) < ls.length := by
                  rcases Nat.lt_or_ge (κ' b - (2 + ro.length)) ls.length with h | h
                  · exact h
                  · rw [List.getElem?_eq_none h] at hj; cases hj
                rw [List.getElem?_eq_getElem hjl] at hj
                have e3 : ls[κ' b - (2 + ro.length)] = ls[i] := by rw [hli]; simp only [Option.some.injEq] at hj; rw [hj]; simpa using e
                exact (List.getElem_inj hln).1 e3
              omega
          · omega
      · intro e
        rw [if_neg, if_pos (by omega)]
        · have : κ' b - (2 + ro.length) = i := by omega
          rw [this, List.getD_eq_getElem?_getD, h1]; rfl
        · rintro ⟨hb, hs⟩
          have := hgrow.old b hb hs
          omega
    · rcases dropM_get _ _ _ _ h1 with rfl | ⟨h4, h5⟩
      · exact fun _ _ _ _ => trivial
      · have hnl := h3 (hΨ gg)
        exact turn.res (by rintro (h | h); exact h5 h; exact hnl h) (by omega) (hres l φ h2 (fun h => hnl h.1) h4)
theorem TrL.callG {xs : Array Operand} {ts : Array TypeId} {f : FuncId} {As : List VP} {Ro Φ : List RP} {γ : Type} {R : γ → VP} {Ψ : γ → List RP} (ro wr ls : List Nat) (ho : o.op = .call ⟨.value (.func f), xs, ts⟩)
    (hgd : o.guard = none) (d : Nat) (hed : o.dst = some d) (hd : Nat.blt d B.N = true) (hf : FnG P f As Ro Φ R Ψ) (hx : HasAs M Γ xs.toList As) (hr : GetW M (ro ++ wr) (Ro ++ Φ))
    (hro : Nat.beq ro.length Ro.length = true) (hc : okL B.own ro wr ls = true) (hΨ : ∀ g, ls.length = (Ψ g).length) (k : ∀ g, TrL B P ops l (zipM ls (Ψ g) (dropM wr M)) ((d, R g) :: Γ) Q) : TrL B P ops (o :: l) M Γ Q :=
  TrL.callGg (first := []) (caps := []) ro wr ls ho hgd (by rw [hed]; exact hd) (.of rfl) (by simpa using hf) hx hr hro hc hΨ fun g => by rw [hed]; exact k g

/-! ### 5. Returns -/
variable {fn : Func}
open Classical in
theorem Fin.retG {γ : Type} {R : γ → VP} {Ψ : γ → List RP} (t : Nat) (hB : B.own = Nat.ble t) (g : γ) (ms : List Nat) {rs : List ResultVar} {Rs : List VP} (hres : fn.results = rs.toArray) (h : ResL P M Γ rs Rs) (hR : ∀ v w, ofAll Rs v w → R g v w)
    (hM : GetW M ms (Ψ g)) (hc : (nodupB ms && geB t ms) = true) : Fin B M Γ .ret (RetG P fn B t R Ψ) := by
  intro a w s
  obtain ⟨κ, gd, m, r⟩ := s.ex
  obtain ⟨vs, h1, h2, h3⟩ := h.run gd.wf m r
  have hrun : (results fn a.tmps).run P w = .ok (packV vs) w := by
    unfold results
    rw [hres, List.mapM_toArray]
    simp only [Sem.run_bind, Sem.run_map]
    refine (congrArg (fun r : Result (List Value) => (r.andThen fun a w' => Result.ok a.toArray w').andThen fun (a : Array Value) w' => Sem.run P (pure (if h : a.size = 1 then a[0] else Value.tuple a)) w') h1).trans ?_
    simp only [Result.andThen_ok, Sem.run_pure, packV_eq]
  simp only [Bool.and_eq_true] at hc
  have hn := nodupB_iff hc.1
  have ht := geB_iff hc.2
  have two : 2 ≤ t := gd.two t (by rw [hB]; simp [Nat.ble_eq])
  have own0 : ∀ n, B.own n = false → n < t := fun n h => by rw [hB] at h; rcases Nat.lt_or_ge n t with h' | h'; exact h'; rw [Nat.ble_eq_true_of_le h'] at h; cases h
  obtain ⟨κ2, hκ2⟩ : ∃ κ2 : Nat → Nat, κ2 = fun b => if κ b < t then κ b else if κ b ∈ ms then t + ms.idxOf (κ b) else 0 := ⟨_, rfl⟩
  have e2 : ∀ b, κ2 b = if κ b < t then κ b else if κ b ∈ ms then t + ms.idxOf (κ b) else 0 := fun b => by rw [hκ2]
  have live2 : ∀ b, κ2 b ≠ 0 → κ b ≠ 0 := fun b h => by
    rw [e2] at h
    split at h
    · exact h
    · omega
  refine ⟨s.defers, _, hrun, _, g, κ2, rfl, ⟨gd.two, fun b hb => ?_, gd.keeps, fun b hb hlt => ?_⟩, fun i φ hi => ?_, fun w' k => hR _ _ (ofAll_pack (h3 w' (k.mono fun b _ hl => live2 b hl)))⟩
  · rw [e2, gd.wf b hb, if_pos (by omega)]
  · have := gd.old b hb hlt
    have h9 := own0 _ hlt
    rw [e2, if_pos (by omega)]; exact this
  · obtain ⟨l, ψ, h4, h5, h6⟩ := hM.at.2 i φ hi
    have hml := List.mem_of_getElem? h4
    have hl := ht l hml
    have hil : i < ms.length := by
      rcases Nat.lt_or_ge i ms.length with h | h
      · exact h
      · rw [List.getElem?_eq_none h] at h4; cases h4
    have hli : ms[i] = l := by rw [List.getElem?_eq_getElem hil] at h4; simpa using h4
    have hidx : ms.idxOf l = i := by rw [← hli]; exact hn.idxOf_getElem i hil
    refine ((m l ψ (Nat.le_trans two hl) h5).imp h6).rename (fun b => ?_) fun b _ h => live2 b h
    rw [e2]
    constructor
    · intro e
      split at e
      · omega
      · split at e
        · rename_i hm
          have e3 : ms.idxOf (κ b) = i := by omega
          have := List.getElem_idxOf (xs := ms) (x := κ b) (List.idxOf_lt_length_of_mem hm)
          rw [← this, ← hli]
          congr 1
        · omega
    · intro e
      rw [e, if_neg (by omega), if_pos hml, hidx]
theorem Fin.retGN {γ : Type} {R : γ → VP} {Ψ : γ → List RP} (t : Nat) (hB : B.own = Nat.ble t) (g : γ) (ms : List Nat) {rs : List ResultVar} {Rs : List VP} (hres : fn.results = rs.toArray) (h : ResL P M Γ rs Rs) (hR : ∀ v w, ofAll Rs v w → R g v w)
    (hM : GetW M ms (Ψ g)) (hc : (nodupB ms && geB t ms) = true) : Fin B M Γ .normal (RetG P fn B t R Ψ) := fun a w s => Fin.retG t hB g ms hres h hR hM hc a w s
end
end Go.Proofs.Ytemkogoclljhpaa.L
