/- Statements in whatever order that write as well: all orders. -/
import Derived.Test.YtemkogoclljhpaaLP
namespace Go.Proofs.Ytemkogoclljhpaa.L
open Go
set_option linter.unusedVariables false
set_option linter.unusedSimpArgs false
set_option linter.unusedSectionVars false

def AMem.cut (ls : List Nat) : AMem → AMem
  | [] => []
  | (l, Φ) :: M => bif memB l ls then (l, Φ) :: AMem.cut ls M else AMem.cut ls M
theorem acut_get {ls : List Nat} : ∀ {M : AMem} {l : Nat} {Φ : Sg → RP}, (AMem.cut ls M).get l = some Φ → M.get l = some Φ ∧ l ∈ ls
  | [], l, Φ, h => by simp [AMem.cut, AMem.get] at h
  | (s, Φ0) :: M, l, Φ, h => by
    simp only [AMem.cut] at h
    cases hs : memB s ls with
    | true =>
      rw [hs] at h
      simp only [cond_true, AMem.get] at h ⊢
      cases hb : Nat.beq s l with
      | true => rw [hb] at h; obtain rfl := beq_true hb; exact ⟨h, memB_iff.1 hs⟩
      | false => rw [hb] at h; exact acut_get h
    | false =>
      rw [hs] at h
      obtain ⟨h1, h2⟩ := acut_get h
      refine ⟨?_, h2⟩
      simp only [AMem.get]
      have : Nat.beq s l = false := by
        cases hb : Nat.beq s l with
        | false => rfl
        | true => obtain rfl := beq_true hb; rw [memB_iff.2 h2] at hs; cases hs
      rw [this]; exact h1
theorem aapp_get : ∀ {A M : AMem} {l : Nat}, (A ++ M).get l = match A.get l with | some Φ => some Φ | none => M.get l
  | [], M, l => rfl
  | (s, Φ) :: A, M, l => by
    simp only [List.cons_append, AMem.get]
    cases hb : Nat.beq s l with
    | true => simp
    | false => simp only [cond_false]; exact aapp_get
def memAt (MA : AMem) (chs : Nat → AMem) : Nat → AMem
  | 0 => MA
  | i + 1 => chs i ++ memAt MA chs i
/-- of each operation: the labels that it reads, those that it writes, the slots of which its facts speak -/
abbrev Fs := List (List Nat × List Nat × List Nat)
def Fs.rd (fs : Fs) (i : Nat) : List Nat := (fs.getD i ([], [], [])).1
def Fs.wr (fs : Fs) (i : Nat) : List Nat := (fs.getD i ([], [], [])).2.1
def Fs.dp (fs : Fs) (i : Nat) : List Nat := (fs.getD i ([], [], [])).2.2
def Dep {α : Type} (D : List Nat) (f : Sg → α) : Prop := ∀ σ σ' : Sg, (∀ t ∈ D, σ t = σ' t) → f σ = f σ'
theorem Dep.const {α : Type} {D : List Nat} {x : α} : Dep D (fun _ => x) := fun _ _ _ => rfl
def DepM (D : List Nat) : AMem → Prop
  | [] => True
  | (_, Φ) :: ch => Dep D Φ ∧ DepM D ch
theorem DepM.get {D : List Nat} : ∀ {ch : AMem} {l : Nat} {Φ : Sg → RP}, DepM D ch → ch.get l = some Φ → Dep D Φ
  | [], l, Φ, _, h => by simp [AMem.get] at h
  | (s, Φ0) :: ch, l, Φ, hd, h => by
    simp only [AMem.get] at h
    cases hb : Nat.beq s l with
    | true => rw [hb] at h; simp only [cond_true, Option.some.injEq] at h; subst h; exact hd.1
    | false => rw [hb] at h; exact DepM.get hd.2 h
/-- whose version a label bears ahead of operation i -/
theorem memAt_get {MA : AMem} {chs : Nat → AMem} {fs : Fs} (h1 : ∀ i l, l ∈ fs.wr i → (chs i).get l ≠ none) (h2 : ∀ i l, l ∉ fs.wr i → (chs i).get l = none) {l : Nat} {Φ : Sg → RP} : ∀ j, (memAt MA chs j).get l = some Φ →
    (∃ i, i < j ∧ l ∈ fs.wr i ∧ (∀ i', i < i' → i' < j → l ∉ fs.wr i') ∧ (chs i).get l = some Φ) ∨ ((∀ i, i < j → l ∉ fs.wr i) ∧ MA.get l = some Φ)
  | 0, h => .inr ⟨fun i hi => absurd hi (by omega), h⟩
  | j + 1, h => by
    simp only [memAt, aapp_get] at h
    by_cases hm : l ∈ fs.wr j
    · cases hc : (chs j).get l with
      | none => exact absurd hc (h1 j l hm)
      | some Φ' =>
        rw [hc] at h
        exact .inl ⟨j, by omega, hm, fun i' h3 h4 => by omega, by rw [hc]; exact h⟩
    · rw [h2 j l hm] at h
      rcases memAt_get h1 h2 j h with ⟨i, h3, h4, h5, h6⟩ | ⟨h3, h4⟩
      · exact .inl ⟨i, by omega, h4, fun i' h7 h8 => by
          by_cases e : i' = j
          · subst e; exact hm
          · exact h5 i' h7 (by omega), h6⟩
      · exact .inr ⟨fun i hi => by
          by_cases e : i = j
          · subst e; exact hm
          · exact h3 i (by omega), h4⟩
/-- the version that the listed operations have left -/
def Ver (fs : Fs) (chs : Nat → AMem) (MA : AMem) (n : Nat) (listed : Array Bool) (l : Nat) (Φ : Sg → RP) : Prop :=
  (∃ i, i < n ∧ lst listed i ∧ l ∈ fs.wr i ∧ (∀ i', i < i' → i' < n → lst listed i' → l ∉ fs.wr i') ∧ (chs i).get l = some Φ) ∨ ((∀ i, i < n → lst listed i → l ∉ fs.wr i) ∧ MA.get l = some Φ)
def fineW (bits : List Nat) (fs : Fs) (i j : Nat) : Bool :=
  if ((fs.wr i).any fun l => memB l (fs.rd j) || memB l (fs.wr j)) || (fs.rd i).any fun l => memB l (fs.wr j) then (bits.getD j 0).testBit i else true
def okW (ops : Array Oper) (fs : Fs) (own : Nat → Bool) : Bool :=
  let bits := bitsL ops.toList []
  let ns := List.range ops.size
  (ns.all fun i => ns.all fun j => !Nat.blt i j || fineW bits fs i j) && (ns.all fun i => (fs.wr i).all own) && Nat.ble fs.length ops.size &&
    (ns.all fun i => (fs.dp i).all fun t => ops.toList.zipIdx.all fun (o, j) => match o.dst with | some d => !Nat.beq d t || Nat.beq i j || (bits.getD i 0).testBit j | none => true)
structure OkW (ops : Array Oper) (fs : Fs) (own : Nat → Bool) : Prop where
  order : ∀ i j, i < j → j < ops.size → ∀ l, (l ∈ fs.wr i ∧ (l ∈ fs.rd j ∨ l ∈ fs.wr j)) ∨ (l ∈ fs.rd i ∧ l ∈ fs.wr j) → Path ops i j
  own : ∀ i, i < ops.size → ∀ l ∈ fs.wr i, own l = true
  dep : ∀ i j o t, i < ops.size → ops[j]? = some o → t ∈ fs.dp i → o.dst = some t → i = j ∨ Path ops j i
theorem okW.to {ops : Array Oper} {fs : Fs} {own : Nat → Bool} (h : okW ops fs own = true) : OkW ops fs own := by
  simp only [okW, Bool.and_eq_true, List.all_eq_true] at h
  obtain ⟨⟨⟨h1, h2⟩, _⟩, h3⟩ := h
  refine ⟨fun i j hij hj l hl => ?_, fun i hi l hl => h2 i (List.mem_range.2 hi) l hl, fun i j o t hi ho ht hd => ?_⟩
  · have := h1 i (List.mem_range.2 (by omega)) j (List.mem_range.2 hj)
    have hb : Nat.blt i j = true := by simp [Nat.blt]; omega
    rw [hb] at this
    simp only [Bool.not_true, Bool.false_or, fineW] at this
    rw [if_pos] at this
    · exact bits_path this
    · rw [Bool.or_eq_true]
      rcases hl with ⟨h4, h5⟩ | ⟨h4, h5⟩
      · refine .inl (List.any_eq_true.2 ⟨l, h4, ?_⟩)
        rw [Bool.or_eq_true]
        rcases h5 with h5 | h5
        · exact .inl (memB_iff.2 h5)
        · exact .inr (memB_iff.2 h5)
      · exact .inr (List.any_eq_true.2 ⟨l, h4, memB_iff.2 h5⟩)
  · have := h3 i (List.mem_range.2 hi) t ht (o, j) (by rw [List.mem_zipIdx_iff_getElem?]; simpa using ho)
    rw [hd] at this
    simp only [Nat.beq_refl, Bool.not_true, Bool.false_or, Bool.or_eq_true] at this
    rcases this with h | h
    · exact .inl (beq_true h)
    · exact .inr (bits_path h)

section
variable {B : Base} {P : Program} {M : Mem} {Γ Γ' : Env} {Γf : Sg → Env} {Q : Exit → Act → World → Prop} {ops : Array Oper} {fs : Fs} {MA : AMem} {chs : Nat → AMem} {Rs : Nat → Sg → VP}
structure InvW (B : Base) (ops : Array Oper) (fs : Fs) (MA : AMem) (chs : Nat → AMem) (Rs : Nat → Sg → VP) (Γ : Env) (listed : Array Bool) (a : Act) (w : World) : Prop where
  sz : listed.size = ops.size
  size : a.tmps.size = B.N
  defers : a.defers = []
  closed : ∀ i j, lst listed j → Path ops i j → lst listed i
  ex : ∃ κ, Good B κ w ∧ (∀ l Φ, 2 ≤ l → Ver fs chs MA ops.size listed l Φ → ResOk κ l (Φ (sg a)) w) ∧
    (∀ i o d, ops[i]? = some o → lst listed i → o.dst = some d → Box (live κ) (Rs i (sg a)) (a.eval (.tmp d)) w) ∧
    (∀ t R, Γ.get t = some R → (∀ i o, ops[i]? = some o → lst listed i → o.dst ≠ some t) → Box (live κ) R (a.eval (.tmp t)) w)
theorem not_listed {listed : Array Bool} {j : Nat} (hj : j ∈ Region.ready .any ops listed) : ¬ lst listed j := fun h => by
  rw [mem_ready] at hj
  have hlt := lst_lt h
  have hj0 := hj.1
  unfold lst at h
  rw [show listed.getD j true = listed.getD j false by simp [Array.getElem?_eq_getElem hlt]] at hj0
  rw [h] at hj0
  cases hj0
theorem ready_path {listed : Array Bool} (closed : ∀ i j, lst listed j → Path ops i j → lst listed i) {j : Nat} (hj : j ∈ Region.ready .any ops listed) : ∀ i, Path ops i j → lst listed i := by
  rw [mem_ready] at hj
  obtain ⟨_, o, ho, hall⟩ := hj
  have edge : ∀ i, Edge1 ops i j → lst listed i := fun i ⟨o2, ho2, e, he, hb, hon⟩ => by
    have : o2 = o := by rw [ho] at ho2; simpa using ho2.symm
    subst this
    exact hon ▸ hall e he hb
  intro i hp
  cases hp with
  | one h => exact edge i h
  | more h e => exact closed _ _ (edge _ e) h
theorem InvW.step (ok : OkB ops) (okw : OkW ops fs B.own) (hc : ∀ Φ l, MA.get l = some Φ → Dep [] Φ) (hdep : ∀ i, i < ops.size → Dep (fs.dp i) (Rs i) ∧ DepM (fs.dp i) (chs i)) (h1 : ∀ i l, l ∈ fs.wr i → (chs i).get l ≠ none) (h2 : ∀ i l, l ∉ fs.wr i → (chs i).get l = none)
    {listed : Array Bool} {a : Act} {w : World} (inv : InvW B ops fs MA chs Rs Γ listed a w) {j : Nat} {o : Oper} (hj : j ∈ Region.ready .any ops listed) (ho : ops[j]? = some o) (hN : ∀ t, o.dst = some t → t < B.N)
    {K : Act → World → Prop} (hop : OpW P B.N ops ((memAt MA chs j).cut (fs.rd j)) (fun σ => envAt ops.toList (fun n => Rs n σ) Γ j) o (fs.wr j) (Rs j) (chs j))
    (hK : ∀ a' w', InvW B ops fs MA chs Rs Γ (listed.setIfInBounds j true) a' w' → K a' w') : if Region.wanted o (yielded ops a.tmps) then o.wp P a w K Q else K (a.put o.dst undef) w := by
  obtain ⟨κ, g, hver, hfacts, hrest⟩ := inv.ex
  have hnot := not_listed hj
  have hpath := ready_path inv.closed hj
  have hjn : j < ops.size := (Array.getElem?_eq_some_iff.1 ho).1
  have hlt : j < listed.size := by rw [inv.sz]; exact hjn
  have same : ∀ {α : Type} {f : Sg → α} {v : Value} (i : Nat), lst listed i → Dep (fs.dp i) f → f (sg (a.put o.dst v)) = f (sg a) := fun {α f v} i hli hf => by
    refine hf _ _ fun t ht => ?_
    refine put_other fun hd => ?_
    have hi : i < ops.size := by rw [← inv.sz]; exact lst_lt hli
    rcases okw.dep i j o t hi ho ht hd with h | h
    · exact hnot (h ▸ hli)
    · exact hnot (inv.closed j i hli h)
  refine hop a w κ Q K inv.size inv.defers g.wf (fun l Φ hl2 hl => ?_) (fun x hx R hR => ?_) fun v w' κ' turn hch hv => hK _ _ ⟨by rw [Array.size_setIfInBounds]; exact inv.sz, by rw [put_size]; exact inv.size, by rw [put_defers]; exact inv.defers, fun i m hm hp => ?_, κ', turn.good g (fun l hl => okw.own j hjn l hl), fun l Φ hl2 hl => ?_, fun i oi d hi hl hd => ?_, fun t R ht hn => ?_⟩
  · -- the versions that it reads
    obtain ⟨hl, hrd⟩ := acut_get hl
    refine hver l Φ hl2 ?_
    rcases memAt_get h1 h2 j hl with ⟨i, h3, h4, h5, h6⟩ | ⟨h3, h4⟩
    · refine .inl ⟨i, by omega, hpath i (okw.order i j h3 hjn l (.inl ⟨h4, .inl hrd⟩)), h4, fun i' h7 h8 h9 h10 => ?_, h6⟩
      rcases Nat.lt_trichotomy i' j with h11 | h11 | h11
      · exact h5 i' h7 h11 h10
      · exact hnot (h11 ▸ h9)
      · exact hnot (inv.closed j i' h9 (okw.order j i' h11 h8 l (.inr ⟨hrd, h10⟩)))
    · refine .inr ⟨fun i h5 h6 h7 => ?_, h4⟩
      rcases Nat.lt_trichotomy i j with h11 | h11 | h11
      · exact h3 i h11 h7
      · exact hnot (h11 ▸ h6)
      · exact hnot (inv.closed j i h6 (okw.order j i h11 h5 l (.inr ⟨hrd, h7⟩)))
  · -- the slots that it reads
    cases x with
    | const v => simp only [Env.opd, Option.some.injEq] at hR; subst hR; exact Box.is
    | global g => simp only [Env.opd, Option.some.injEq] at hR; subst hR; exact Box.is
    | func f => simp only [Env.opd, Option.some.injEq] at hR; subst hR; exact Box.is
    | tmp t =>
      rcases envAt_get j hR with ⟨i, oi, hi, hoi, hd, rfl⟩ | ⟨hn, hg⟩
      · have hoi' : ops[i]? = some oi := by simpa using hoi
        exact hfacts i oi t hoi' (hpath i ((ok.before i j oi o t hoi' ho hd hx).1 hi)) hd
      · refine hrest t R hg fun i oi hi hl hd => ?_
        rcases Nat.lt_trichotomy i j with h | h | h
        · exact hn i oi h (by simpa using hi) hd
        · subst h; exact hnot hl
        · exact hnot (inv.closed j i hl ((ok.before i j oi o t hi ho hd hx).2 h))
  · rcases lst_set.1 hm with hm | ⟨rfl, _⟩
    · exact lst_set.2 (.inl (inv.closed i m hm hp))
    · exact lst_set.2 (.inl (hpath i hp))
  · -- the versions behind it
    by_cases hlj : l ∈ fs.wr j
    · have hΦ : (chs j).get l = some Φ := by
        rcases hl with ⟨i, h3, h4, h5, h6, h7⟩ | ⟨h3, _⟩
        · rcases lst_set.1 h4 with h4 | ⟨rfl, _⟩
          · rcases Nat.lt_trichotomy i j with h11 | h11 | h11
            · exact absurd hlj (h6 j h11 hjn (lst_set.2 (.inr ⟨rfl, hlt⟩)))
            · exact absurd (h11 ▸ h4) hnot
            · exact absurd (inv.closed j i h4 (okw.order j i h11 h3 l (.inl ⟨hlj, .inr h5⟩))) hnot
          · exact h7
        · exact absurd hlj (h3 j hjn (lst_set.2 (.inr ⟨rfl, hlt⟩)))
      exact hch l Φ hl2 hΦ
    · have hver' : Ver fs chs MA ops.size listed l Φ := by
        rcases hl with ⟨i, h3, h4, h5, h6, h7⟩ | ⟨h3, h8⟩
        · rcases lst_set.1 h4 with h4 | ⟨rfl, _⟩
          · exact .inl ⟨i, h3, h4, h5, fun i' h9 h10 h11 => h6 i' h9 h10 (lst_set.2 (.inl h11)), h7⟩
          · exact absurd h5 hlj
        · exact .inr ⟨fun i h9 h10 => h3 i h9 (lst_set.2 (.inl h10)), h8⟩
      have e : Φ (sg (a.put o.dst v)) = Φ (sg a) := by
        rcases hver' with ⟨i, h3, h4, h5, h6, h7⟩ | ⟨h3, h8⟩
        · exact same i h4 ((hdep i h3).2.get h7)
        · exact hc Φ l h8 _ _ (by simp)
      rw [e]
      exact turn.res hlj (by omega) (hver l Φ hl2 hver')
  · rcases lst_set.1 hl with hl' | ⟨rfl, _⟩
    · have hij : i ≠ j := fun e => hnot (e ▸ hl')
      rw [put_other (ok.ne i j oi o d hi ho hij hd), same i hl' (hdep i (Array.getElem?_eq_some_iff.1 hi).1).1]
      exact turn.box (hfacts i oi d hi hl' hd)
    · have : oi = o := by rw [ho] at hi; simpa using hi.symm
      subst this
      have h8 := hv d hd
      rw [hd] at h8 ⊢
      rw [eval_put_same (by rw [inv.size]; exact hN d hd)]
      exact h8
  · rw [put_other (hn j o ho (lst_set.2 (.inr ⟨rfl, hlt⟩)))]
    exact turn.box (hrest t R ht fun i oi hi hl => hn i oi hi (lst_set.2 (.inl hl)))
theorem wpAny_chainW (ok : OkB ops) (okw : OkW ops fs B.own) (hc : ∀ Φ l, MA.get l = some Φ → Dep [] Φ) (hdep : ∀ i, i < ops.size → Dep (fs.dp i) (Rs i) ∧ DepM (fs.dp i) (chs i)) (h1 : ∀ i l, l ∈ fs.wr i → (chs i).get l ≠ none) (h2 : ∀ i l, l ∉ fs.wr i → (chs i).get l = none)
    (hN : ∀ (i : Nat) (o : Oper) (t : Nat), ops[i]? = some o → o.dst = some t → t < B.N)
    (hR : ∀ i o, ops[i]? = some o → OpW P B.N ops ((memAt MA chs i).cut (fs.rd i)) (fun σ => envAt ops.toList (fun n => Rs n σ) Γ i) o (fs.wr i) (Rs i) (chs i))
    (h : ∀ σ : Sg, Fin B (AMem.inst σ (memAt MA chs ops.size)) (envAt ops.toList (fun n => Rs n σ) Γ ops.size) .normal Q) :
    ∀ (fuel : Nat) (listed : Array Bool) (a : Act) (w : World), opened listed ≤ fuel → InvW B ops fs MA chs Rs Γ listed a w → wpAny P .any ops Q fuel listed a w := by
  have done : ∀ (listed : Array Bool) (a : Act) (w : World), Region.ready .any ops listed = [] → InvW B ops fs MA chs Rs Γ listed a w → Q .normal a w := fun listed a w hr inv => by
    have all := ready_nil ok inv.sz hr
    obtain ⟨κ, g, hver, hfacts, hrest⟩ := inv.ex
    refine h (sg a) a w ⟨inv.size, inv.defers, κ, g, fun l φ hl2 hl => ?_, fun t R ht => ?_⟩
    · obtain ⟨Φ, h3, rfl⟩ := inst_get hl
      refine hver l Φ hl2 ?_
      rcases memAt_get h1 h2 ops.size h3 with ⟨i, h4, h5, h6, h7⟩ | ⟨h4, h5⟩
      · exact .inl ⟨i, h4, all i h4, h5, fun i' h8 h9 _ => h6 i' h8 h9, h7⟩
      · exact .inr ⟨fun i h6 _ => h4 i h6, h5⟩
    · rcases envAt_get _ ht with ⟨i, oi, hi, hoi, hd, rfl⟩ | ⟨hn, hg⟩
      · exact hfacts i oi t (by simpa using hoi) (all i hi) hd
      · exact hrest t R hg fun i oi hi hl => hn i oi (Array.getElem?_eq_some_iff.1 hi).1 (by simpa using hi)
  intro fuel
  induction fuel with
  | zero =>
    intro listed a w hf inv
    have hr : Region.ready .any ops listed = [] := by
      cases hr : Region.ready .any ops listed with
      | nil => rfl
      | cons j js =>
        have hj : j ∈ Region.ready .any ops listed := by rw [hr]; simp
        rw [mem_ready] at hj
        obtain ⟨hj0, o, ho, _⟩ := hj
        have hlt : j < listed.size := by rw [inv.sz]; exact (Array.getElem?_eq_some_iff.1 ho).1
        have hpos : 0 < opened listed := by
          unfold opened
          rw [List.countP_pos_iff]
          refine ⟨j, by simpa using hlt, ?_⟩
          rw [show listed.getD j false = listed.getD j true by simp [Array.getElem?_eq_getElem hlt], hj0]
          rfl
        omega
    exact ⟨hr, done listed a w hr inv⟩
  | succ fuel ih =>
    intro listed a w hf inv
    refine ⟨fun hr => done listed a w hr inv, fun j hj => ?_⟩
    have hnot := not_listed hj
    have hj' := hj
    rw [mem_ready] at hj'
    obtain ⟨_, o, ho, _⟩ := hj'
    have hlt : j < listed.size := by rw [inv.sz]; exact (Array.getElem?_eq_some_iff.1 ho).1
    have hopen := open_set hlt hnot
    have step := inv.step (Q := Q) ok okw hc hdep h1 h2 hj ho (fun t ht => hN j o t ho ht) (K := wpAny P .any ops Q fuel (listed.setIfInBounds j true)) (hR j o ho) fun a' w' inv' => ih _ _ _ (by omega) inv'
    unfold wpOp
    rw [ho]
    simp only
    split
    · rename_i hw; rw [if_pos hw] at step; exact .inl step
    · rename_i hw; rw [if_neg hw] at step; exact step
/-! ### said as one goes -/
def coverB (S : List Nat) (ch : AMem) : Bool := (S.all fun l => (ch.get l).isSome) && ch.all fun p => memB p.1 S
theorem coverB.to {S : List Nat} {ch : AMem} (h : coverB S ch = true) : (∀ l ∈ S, ch.get l ≠ none) ∧ ∀ l, l ∉ S → ch.get l = none := by
  simp only [coverB, Bool.and_eq_true, List.all_eq_true] at h
  refine ⟨fun l hl e => (by have := h.1 l hl; rw [e] at this; cases this), fun l hl => ?_⟩
  have key : ∀ (ch : AMem), (∀ p ∈ ch, memB p.1 S = true) → ch.get l = none := by
    intro ch
    induction ch with
    | nil => intro _; rfl
    | cons p ch ih =>
      intro hp
      simp only [AMem.get]
      cases hb : Nat.beq p.1 l with
      | true => exact absurd (memB_iff.1 (beq_true hb ▸ hp p (by simp))) hl
      | false => exact ih fun q hq => hp q (by simp [hq])
  exact key ch h.2
def AChain (P : Program) (N : Nat) (ops : Array Oper) (fs : Fs) (k : Nat) (l : List Oper) (MA : AMem) (Γf : Sg → Env) (K : AMem → (Sg → Env) → Prop) : Prop :=
  ∃ (Rs : Nat → Sg → VP) (chs : Nat → AMem), (∀ i o, l[i]? = some o → OpW P N ops ((memAt MA chs i).cut (fs.rd (k + i))) (fun σ => envAt l (fun n => Rs n σ) (Γf σ) i) o (fs.wr (k + i)) (Rs i) (chs i)) ∧ (∀ i, i < l.length → coverB (fs.wr (k + i)) (chs i) = true) ∧
    (∀ i, i < l.length → Dep (fs.dp (k + i)) (Rs i) ∧ DepM (fs.dp (k + i)) (chs i)) ∧ K (memAt MA chs l.length) (fun σ => envAt l (fun n => Rs n σ) (Γf σ) l.length)
theorem AChain.nil {N k : Nat} {K : AMem → (Sg → Env) → Prop} (h : K MA Γf) : AChain P N ops fs k [] MA Γf K := ⟨fun _ _ => anyV, fun _ => [], by simp, by simp, by simp, h⟩
def consF {α : Type} (x : α) (f : Nat → α) : Nat → α
  | 0 => x
  | n + 1 => f n
theorem memAt_cons (ch : AMem) (chs : Nat → AMem) (MA : AMem) : ∀ i, memAt MA (consF ch chs) (i + 1) = memAt (ch ++ MA) chs i
  | 0 => rfl
  | i + 1 => by
    show chs i ++ memAt MA (consF ch chs) (i + 1) = _
    rw [memAt_cons ch chs MA i]; rfl
theorem envAt_consF (o : Oper) (l : List Oper) (R : VP) (Rs : Nat → VP) (Γ : Env) : ∀ i, envAt (o :: l) (consF R Rs) Γ (i + 1) = envAt l Rs (Γ.put o.dst R) i
  | 0 => rfl
  | i + 1 => by
    have ih := envAt_consF o l R Rs Γ i
    show (match (o :: l)[i + 1]? with | some o' => _ | none => _) = _
    rw [List.getElem?_cons_succ]
    show _ = (match l[i]? with | some o' => _ | none => _)
    cases l[i]? <;> simp [ih, consF]
theorem envAt_consF' (o : Oper) (l : List Oper) (R : Sg → VP) (Rs : Nat → Sg → VP) (σ : Sg) (Γ : Env) (i : Nat) : envAt (o :: l) (fun n => consF R Rs n σ) Γ (i + 1) = envAt l (fun n => Rs n σ) (Γ.put o.dst (R σ)) i := by
  have : (fun n => consF R Rs n σ) = consF (R σ) (fun n => Rs n σ) := by
    funext n
    cases n <;> rfl
  rw [this, envAt_consF]
theorem AChain.cons {N k : Nat} {K : AMem → (Sg → Env) → Prop} {o : Oper} {l : List Oper} {R : Sg → VP} {ch : AMem} (h : OpW P N ops (MA.cut (fs.rd k)) Γf o (fs.wr k) R ch) (hc : coverB (fs.wr k) ch = true) (hD : Dep (fs.dp k) R) (hM : DepM (fs.dp k) ch)
    (r : AChain P N ops fs (k + 1) l (ch ++ MA) (fun σ => (Γf σ).put o.dst (R σ)) K) : AChain P N ops fs k (o :: l) MA Γf K := by
  obtain ⟨Rs, chs, h1, h2, h4, h3⟩ := r
  refine ⟨consF R Rs, consF ch chs, fun i o' ho => ?_, fun i hi => ?_, fun i hi => ?_, ?_⟩
  · cases i with
    | zero => simp only [List.getElem?_cons_zero, Option.some.injEq] at ho; subst ho; exact h
    | succ i =>
      have e : (fun σ => envAt (o :: l) (fun n => consF R Rs n σ) (Γf σ) (i + 1)) = fun σ => envAt l (fun n => Rs n σ) ((Γf σ).put o.dst (R σ)) i := by
        funext σ; exact envAt_consF' o l R Rs σ (Γf σ) i
      rw [e, memAt_cons, show k + (i + 1) = k + 1 + i by omega]
      exact h1 i o' (by simpa using ho)
  · cases i with
    | zero => exact hc
    | succ i => rw [show k + (i + 1) = k + 1 + i by omega]; exact h2 i (by simpa using hi)
  · cases i with
    | zero => exact ⟨hD, hM⟩
    | succ i => rw [show k + (i + 1) = k + 1 + i by omega]; exact h4 i (by simpa using hi)
  · have e : (fun σ => envAt (o :: l) (fun n => consF R Rs n σ) (Γf σ) (o :: l).length) = fun σ => envAt l (fun n => Rs n σ) ((Γf σ).put o.dst (R σ)) l.length := by
      funext σ; exact envAt_consF' o l R Rs σ (Γf σ) l.length
    rw [List.length_cons] at *
    rw [e, memAt_cons]; exact h3
/-- an operation that writes nothing -/
theorem AChain.rd {N k : Nat} {K : AMem → (Sg → Env) → Prop} {o : Oper} {l : List Oper} {R : Sg → VP} (d : Nat) (hw : fs.wr k = []) (h : ∀ σ, OpG P (AMem.inst σ (MA.cut (fs.rd k))) ops (Γf σ) o (R σ)) (he : o.dst = some d) (hd : Nat.blt d N = true) (hR : ∀ σ v, R (upd σ (some d) v) = R σ) (hD : Dep (fs.dp k) R)
    (r : AChain P N ops fs (k + 1) l MA (fun σ => (d, R σ) :: Γf σ) K) : AChain P N ops fs k (o :: l) MA Γf K :=
  .cons (ch := []) (by rw [hw]; exact OpW.rd (by rw [he]; exact hd) h (by rw [he]; exact hR)) (by rw [hw]; rfl) hD trivial (by rw [he]; exact r)
/-- an operation that writes; with a result, and without -/
theorem AChain.wr {N k : Nat} {K : AMem → (Sg → Env) → Prop} {o : Oper} {l : List Oper} {R : Sg → VP} {ch : AMem} (d : Nat) (S : List Nat) (hw : fs.wr k = S) (hS : geB 2 S = true) (hg : o.guard = none) (he : o.dst = some d) (hd : Nat.blt d N = true)
    (h : ∀ (w0 : World) (κ0 : Nat → Nat) (σ : Sg), TrL ⟨N, fun n => memB n S, w0, κ0⟩ P ops [o] (AMem.inst σ (MA.cut (fs.rd k))) ((Γf σ).cut (reads ops o)) (After ⟨N, fun n => memB n S, w0, κ0⟩ σ (some d) R ch)) (hc : coverB S ch = true) (hD : Dep (fs.dp k) R) (hM : DepM (fs.dp k) ch)
    (r : AChain P N ops fs (k + 1) l (ch ++ MA) (fun σ => (d, R σ) :: Γf σ) K) : AChain P N ops fs k (o :: l) MA Γf K := by
  refine .cons (R := R) (ch := ch) ?_ (by rw [hw]; exact hc) hD hM (by rw [he]; exact r)
  rw [hw]
  refine OpW.lift hS hg (by rw [he]; exact hd) (fun w0 κ0 σ => by rw [he]; exact h w0 κ0 σ) fun l Φ hl => ?_
  exact Classical.byContradiction fun hn => by rw [(coverB.to hc).2 l hn] at hl; cases hl
theorem AChain.wr0 {N k : Nat} {K : AMem → (Sg → Env) → Prop} {o : Oper} {l : List Oper} {ch : AMem} (S : List Nat) (hw : fs.wr k = S) (hS : geB 2 S = true) (hg : o.guard = none) (he : o.dst = none)
    (h : ∀ (w0 : World) (κ0 : Nat → Nat) (σ : Sg), TrL ⟨N, fun n => memB n S, w0, κ0⟩ P ops [o] (AMem.inst σ (MA.cut (fs.rd k))) ((Γf σ).cut (reads ops o)) (After ⟨N, fun n => memB n S, w0, κ0⟩ σ none (fun _ => anyV) ch)) (hc : coverB S ch = true) (hM : DepM (fs.dp k) ch)
    (r : AChain P N ops fs (k + 1) l (ch ++ MA) Γf K) : AChain P N ops fs k (o :: l) MA Γf K := by
  refine .cons (R := fun _ => anyV) (ch := ch) ?_ (by rw [hw]; exact hc) Dep.const hM (by rw [he]; exact r)
  rw [hw]
  refine OpW.lift hS hg (by rw [he]; rfl) (fun w0 κ0 σ => by rw [he]; exact h w0 κ0 σ) fun l Φ hl => ?_
  exact Classical.byContradiction fun hn => by rw [(coverB.to hc).2 l hn] at hl; cases hl
def AMem.ofM : Mem → AMem
  | [] => []
  | (l, φ) :: M => (l, fun _ => φ) :: AMem.ofM M
theorem ofM_get : ∀ {M : Mem} {l : Nat} {Φ : Sg → RP}, (AMem.ofM M).get l = some Φ → ∃ φ, M.get l = some φ ∧ Φ = fun _ => φ
  | [], l, Φ, h => by simp [AMem.ofM, AMem.get] at h
  | (s, φ) :: M, l, Φ, h => by
    simp only [AMem.ofM, AMem.get, Mem.get] at h ⊢
    cases hb : Nat.beq s l with
    | true => rw [hb] at h; simp only [cond_true, Option.some.injEq] at h; exact ⟨φ, by simp, h.symm⟩
    | false => rw [hb] at h; simp only [cond_false]; exact ofM_get h
theorem Tr.regionW {i : Nat} (fs : Fs) (hm : P.follows .mixedOrders = true) (hok : okB ops = true) (hd : dstsOk ops B.N = true) (hw : okW ops fs B.own = true) (hlen : Nat.ble fs.length ops.size = true)
    (h : AChain P B.N ops fs 0 ops.toList (AMem.ofM M) (fun _ => Γ) (fun MA' Γf' => ∀ σ : Sg, Fin B (MA'.inst σ) (Γf' σ) .normal Q)) : Tr B P M Γ (.region i ops true) Q := by
  intro a w s
  obtain ⟨κ, g, m, r⟩ := s.ex
  obtain ⟨Rs, chs0, h1, h2, h4, h3⟩ := h
  have ok := okB.to hok
  have okw := okW.to hw
  -- behind the last operation nothing is written
  obtain ⟨chs, hchs⟩ : ∃ chs : Nat → AMem, chs = fun i => if i < ops.size then chs0 i else [] := ⟨_, rfl⟩
  have hc : ∀ i, i < ops.size → chs i = chs0 i := fun i hi => by rw [hchs]; exact if_pos hi
  have hmem : ∀ i, i ≤ ops.size → memAt (AMem.ofM M) chs i = memAt (AMem.ofM M) chs0 i := by
    intro i
    induction i with
    | zero => intro _; rfl
    | succ i ih => intro hi; simp only [memAt]; rw [ih (by omega), hc i (by omega)]
  have hwr : ∀ i, ops.size ≤ i → fs.wr i = [] := fun i hi => by
    have : fs.length ≤ ops.size := Nat.le_of_ble_eq_true hlen
    simp [Fs.wr, List.getD_eq_getElem?_getD, List.getElem?_eq_none (show fs.length ≤ i by omega)]
  have hcov : ∀ i, (∀ l ∈ fs.wr i, (chs i).get l ≠ none) ∧ ∀ l, l ∉ fs.wr i → (chs i).get l = none := fun i => by
    rcases Nat.lt_or_ge i ops.size with hi | hi
    · rw [hc i hi]
      have := h2 i (by simpa using hi)
      rw [Nat.zero_add] at this
      exact coverB.to this
    · rw [hwr i hi]
      refine ⟨fun l hl => by simp at hl, fun l _ => ?_⟩
      rw [hchs]; show (if i < ops.size then chs0 i else []).get l = none
      rw [if_neg (by omega)]; rfl
  have k : Keeps (fun _ => False) w { w with drawn := w.drawn + 1 } := ⟨Nat.le_refl _, fun _ _ _ => rfl, rfl, rfl, rfl⟩
  have hnone : ∀ i, ¬ lst (Array.replicate ops.size false) i := fun i h => by
    unfold lst at h
    rw [Array.getD_eq_getD_getElem?, Array.getElem?_replicate] at h
    split at h <;> simp at h
  have hl : ops.toList.length = ops.size := by simp
  rw [hl] at h3
  refine wp_region_any hm (wpAny_chainW (fs := fs) (MA := AMem.ofM M) (chs := chs) (Rs := Rs) (Γ := Γ) ok okw (fun Φ l hl => ?_) (fun i hi => ?_) (fun i l h => (hcov i).1 l h) (fun i l h => (hcov i).2 l h) (fun i o t ho ht => ?_) (fun i o ho => ?_) (fun σ => ?_) _ _ _ _ ?_ ?_)
  · obtain ⟨φ, _, rfl⟩ := ofM_get hl
    exact Dep.const
  · have := h4 i (by rw [hl]; exact hi)
    rw [Nat.zero_add] at this
    rw [hc i hi]; exact this
  · unfold dstsOk at hd
    rw [List.all_eq_true] at hd
    exact dstOk.to (hd o (List.mem_of_getElem? (show ops.toList[i]? = some o by simpa using ho))) t ht
  · have hi := (Array.getElem?_eq_some_iff.1 ho).1
    have := h1 i o (by simpa using ho)
    rw [Nat.zero_add] at this
    rw [hmem i (by omega), hc i hi]; exact this
  · rw [hmem _ (Nat.le_refl _)]; exact h3 σ
  · unfold opened
    refine Nat.le_trans List.countP_le_length ?_
    simp
  · refine ⟨by simp, s.size, s.defers, fun i j h => absurd h (hnone j), κ, (Turn.quiet g.wf k).good g (by simp), fun l Φ hl2 hv => ?_, fun i o d _ h => absurd h (hnone i), fun t R ht _ => (r t R ht).later k.none⟩
    rcases hv with ⟨i, _, h4, _⟩ | ⟨_, h4⟩
    · exact absurd h4 (hnone i)
    · obtain ⟨φ, h5, rfl⟩ := ofM_get h4
      exact (m.later g.wf k) l φ hl2 h5
end
end Go.Proofs.Ytemkogoclljhpaa.L
