/- Loops and joints: what stays as it was is said once. Elements by numbers. Calls, returns, and drawn regions, as they are printed. -/
import Derived.Test.YtemkogoclljhpaaLR
namespace Go.Proofs.Ytemkogoclljhpaa.L
open Go
set_option linter.unusedVariables false
set_option linter.unusedSimpArgs false
set_option linter.unusedSectionVars false
section
variable {B : Base} {P : Program} {M : Mem} {Γ : Env} {Q : Exit → Act → World → Prop} {ops : Array Oper} {o : Oper} {l : List Oper} {R : VP}
/-! ### 1. Loops, joints -/
theorem Tr.loopK {γ : Type} {c : Code} {Γk : Env} {Mk : Mem} (hk : Sub Γ Γk) (hkm : SubM M Mk) (I : γ → Prop) (SM : γ → Mem → Mem) (SΓ : γ → Env → Env) (m : γ → Nat) (g0 : γ) (h0 : I g0) (hM : SubM M (SM g0 Mk)) (hΓ : Sub Γ (SΓ g0 Γk))
    (h : ∀ g, I g → Tr B P (SM g Mk) (SΓ g Γk) c (Exit.then (Again B I (fun g => SM g Mk) (fun g => SΓ g Γk) m (m g)) Q)) : Tr B P M Γ (.loop c) Q :=
  Tr.loop I (fun g => SM g Mk) (fun g => SΓ g Γk) m g0 h0 hM hΓ h
theorem Tr.seqJK {γ : Type} {x y : Code} {Γk : Env} {Mk : Mem} (hk : Sub Γ Γk) (hkm : SubM M Mk) (I : γ → Prop) (SM : γ → Mem → Mem) (SΓ : γ → Env → Env)
    (h : Tr B P M Γ x (Exit.then (Reach B I (fun g => SM g Mk) (fun g => SΓ g Γk)) Q)) (k : ∀ g, I g → Tr B P (SM g Mk) (SΓ g Γk) y Q) : Tr B P M Γ (.seq x y) Q :=
  Tr.seqJ I (fun g => SM g Mk) (fun g => SΓ g Γk) h k
/-- a resource by what follows from it -/
theorem St.memI {φ ψ : RP} {a : Act} {w : World} (s : St B M Γ a w) {n : Nat} (hm : M.get n = some φ) (i : ∀ F L w, φ F L w → ψ F L w) : St B ((n, ψ) :: M) Γ a w :=
  s.sub (fun l χ _ hl => by
    simp only [Mem.get] at hl
    cases hb : Nat.beq n l with
    | true => rw [hb] at hl; simp only [cond_true, Option.some.injEq] at hl; subst hl; obtain rfl := beq_true hb; exact ⟨φ, hm, i⟩
    | false => rw [hb] at hl; exact ⟨χ, hl, fun _ _ _ h => h⟩) fun t R h => ⟨R, h, fun _ _ h => h⟩
theorem Tr.memI {c : Code} {φ ψ : RP} (n : Nat) (hm : M.get n = some φ) (i : ∀ F L w, φ F L w → ψ F L w) (k : Tr B P ((n, ψ) :: M) Γ c Q) : Tr B P M Γ c Q := fun a w s => k a w (s.memI hm i)
theorem TrL.memI {φ ψ : RP} (n : Nat) (hm : M.get n = some φ) (i : ∀ F L w, φ F L w → ψ F L w) (k : TrL B P ops l ((n, ψ) :: M) Γ Q) : TrL B P ops l M Γ Q := fun a w s => k a w (s.memI hm i)
theorem Fin.memI {e : Exit} {φ ψ : RP} (n : Nat) (hm : M.get n = some φ) (i : ∀ F L w, φ F L w → ψ F L w) (k : Fin B ((n, ψ) :: M) Γ e Q) : Fin B M Γ e Q := fun a w s => k a w (s.memI hm i)
/-- what a resource says for good -/
theorem Tr.memP {c : Code} {φ : RP} {p : Prop} (n : Nat) (hm : M.get n = some φ) (hn : Nat.ble 2 n = true) (i : ∀ F L w, φ F L w → p) (k : p → Tr B P M Γ c Q) : Tr B P M Γ c Q := fun a w s => by
  obtain ⟨κ, g, m, r⟩ := s.ex; exact k (i _ _ _ (m n _ (Nat.le_of_ble_eq_true hn) hm).now) a w s
theorem TrL.memP {φ : RP} {p : Prop} (n : Nat) (hm : M.get n = some φ) (hn : Nat.ble 2 n = true) (i : ∀ F L w, φ F L w → p) (k : p → TrL B P ops l M Γ Q) : TrL B P ops l M Γ Q := fun a w s => by
  obtain ⟨κ, g, m, r⟩ := s.ex; exact k (i _ _ _ (m n _ (Nat.le_of_ble_eq_true hn) hm).now) a w s
theorem Fin.memP {e : Exit} {φ : RP} {p : Prop} (n : Nat) (hm : M.get n = some φ) (hn : Nat.ble 2 n = true) (i : ∀ F L w, φ F L w → p) (k : p → Fin B M Γ e Q) : Fin B M Γ e Q := fun a w s => by
  obtain ⟨κ, g, m, r⟩ := s.ex; exact k (i _ _ _ (m n _ (Nat.le_of_ble_eq_true hn) hm).now) a w s
theorem own_form {τ : Type} {K : Rep τ} {e : TypeId} {v : Value} {xs : List τ} : ∀ F L w, Own K e v xs F L w → ∃ A c, v = .slice A xs.length c ∧ xs.length ≤ c := fun F L w h => by
  obtain ⟨A, c, h1, h2, _⟩ := Own.view F L w h; exact ⟨A, c, h1, h2⟩
theorem view_form {τ : Type} {K : Rep τ} {v : Value} {xs : List τ} : ∀ F L w, View K v xs F L w → ∃ A c, v = .slice A xs.length c ∧ xs.length ≤ c := fun F L w h => by
  obtain ⟨A, c, h1, h2, _⟩ := h; exact ⟨A, c, h1, h2⟩
/-- what a slot's fact says for good -/
theorem Fin.slotP {e : Exit} {p : Prop} (t : Nat) (ht : Γ.get t = some R) (i : ∀ v w, R v w → p) (k : p → Fin B M Γ e Q) : Fin B M Γ e Q := fun a w s => by
  obtain ⟨κ, g, m, r⟩ := s.ex; exact k (i _ _ (r t R ht).now) a w s
theorem Tr.slotP {c : Code} {p : Prop} (t : Nat) (ht : Γ.get t = some R) (i : ∀ v w, R v w → p) (k : p → Tr B P M Γ c Q) : Tr B P M Γ c Q := fun a w s => by
  obtain ⟨κ, g, m, r⟩ := s.ex; exact k (i _ _ (r t R ht).now) a w s
theorem TrL.slotP {p : Prop} (t : Nat) (ht : Γ.get t = some R) (i : ∀ v w, R v w → p) (k : p → TrL B P ops l M Γ Q) : TrL B P ops l M Γ Q := fun a w s => by
  obtain ⟨κ, g, m, r⟩ := s.ex; exact k (i _ _ (r t R ht).now) a w s
/-- another fact on a slot -/
theorem St.slotI {R' : VP} {a : Act} {w : World} (s : St B M Γ a w) {t : Nat} (ht : Γ.get t = some R) (i : ∀ v w, R v w → R' v w) : St B M ((t, R') :: Γ) a w :=
  s.sub (fun _ φ _ h => ⟨φ, h, fun _ _ _ h => h⟩) fun u R0 hu => by
    simp only [Env.get] at hu
    cases hb : Nat.beq t u with
    | true => rw [hb] at hu; simp only [cond_true, Option.some.injEq] at hu; subst hu; obtain rfl := beq_true hb; exact ⟨R, ht, i⟩
    | false => rw [hb] at hu; exact ⟨R0, hu, fun _ _ h => h⟩
theorem Tr.slotI {c : Code} {R' : VP} (t : Nat) (ht : Γ.get t = some R) (i : ∀ v w, R v w → R' v w) (k : Tr B P M ((t, R') :: Γ) c Q) : Tr B P M Γ c Q := fun a w s => k a w (s.slotI ht i)
theorem TrL.slotI {R' : VP} (t : Nat) (ht : Γ.get t = some R) (i : ∀ v w, R v w → R' v w) (k : TrL B P ops l M ((t, R') :: Γ) Q) : TrL B P ops l M Γ Q := fun a w s => k a w (s.slotI ht i)
theorem Fin.slotI {e : Exit} {R' : VP} (t : Nat) (ht : Γ.get t = some R) (i : ∀ v w, R v w → R' v w) (k : Fin B M ((t, R') :: Γ) e Q) : Fin B M Γ e Q := fun a w s => k a w (s.slotI ht i)
theorem lst_nil' {τ : Type} {K : Rep τ} {v : Value} {w : World} (h : is (.slice none 0 0) v w) : Lst K [] v w := by
  subst h; exact ⟨none, 0, rfl, Nat.le_refl _, fun h => absurd h (by simp)⟩

/-! ### 2. Elements by their numbers -/
theorem hz_pos {α : Type} {xs : List α} {i : Nat} {x : α} (h : xs[i]? = some x) : 0 < xs.length := Nat.lt_of_le_of_lt (Nat.zero_le _) (getL_len h)
theorem OpM.indexN {τ : Type} {K : Rep τ} {xs : List τ} {v : Value} {φ : RP} {t e : TypeId} {x y : Operand} (n i : Nat) {k : IntKind} {j : Int} (ho : o.op = .indexAddr t x y) (hx : Has M Γ x (is v)) (hy : Has M Γ y (is (.int k j))) (hm : M.get n = some φ) (hφ : ∀ F L w, φ F L w → View K v xs F L w) (hn : Nat.ble 2 n = true)
    (hu : P.underlying t = some (.slice e)) (hs : sizeB P e K.n = true) (hj : j = (i : Int)) {z : τ} (hz : xs[i]? = some z) : OpM P M Γ o (is (elemP v (i * K.n + 0))) := by
  have := OpM.indexW n ho hx hy hm hφ hn hu hs (by omega) (by have := getL_len hz; omega)
  rwa [show j.toNat = i by omega] at this
theorem OpM.loadWV {τ : Type} {K : Rep τ} {xs : List τ} {v : Value} {φ : RP} {T : TypeId} {x : Operand} (n i off k : Nat) {z : τ} {ds : List Value} (ho : o.op = .load T x) (hx : Has M Γ x (is (elemP v (i * K.n + off)))) (hm : M.get n = some φ) (hφ : ∀ F L w, φ F L w → View K v xs F L w) (hn : Nat.ble 2 n = true)
    (hz : xs[i]? = some z) (hc : ((K.fs z).drop off).take k = ds.map is) (hk : Nat.beq ds.length k = true) (ht : aggB P T k = true) : OpM P M Γ o (is (.agg ds.toArray)) :=
  (OpM.loadWN n i off k ho hx hm hφ hn hz hc (by simpa using hk) ht).weaken fun v w h => AggR.is h
theorem h1is {u : Value} (h : u.cells = #[u]) (h' : u.oneCell' = true) : ∀ v w, is u v w → v.cells = #[v] ∧ v.oneCell' = true := by rintro v w rfl; exact ⟨h, h'⟩
theorem h1sl {u : Value} {n : Nat} (h : ∃ A c, u = .slice A n c ∧ n ≤ c) : ∀ v w, is u v w → v.cells = #[v] ∧ v.oneCell' = true := by rintro v w rfl; obtain ⟨A, c, rfl, _⟩ := h; exact ⟨rfl, rfl⟩
theorem h1lst {τ : Type} {K : Rep τ} {xs : List τ} : ∀ v w, Lst K xs v w → v.cells = #[v] ∧ v.oneCell' = true := by rintro v w ⟨A, c, rfl, _⟩; exact ⟨rfl, rfl⟩
theorem hR1 {R : VP} (h : ∀ v w, R v w → v.cells = #[v] ∧ v.oneCell' = true) : ∀ u w, R u w → ∃ vs : List Value, u.cells = vs.toArray ∧ All2 w [R] vs ∧ vs.all (·.oneCell') = true :=
  fun u w hu => ⟨[u], (h u w hu).1, .cons hu .nil, by simp [(h u w hu).2]⟩
theorem hRis {cs : List Value} (h : cs.all (·.oneCell') = true) : ∀ u w, is (.agg cs.toArray) u w → ∃ vs : List Value, u.cells = vs.toArray ∧ All2 w (cs.map is) vs ∧ vs.all (·.oneCell') = true := by
  rintro u w rfl; exact ⟨cs, rfl, All2.of_is cs, h⟩
theorem hRagg {Rs : List VP} (h : ∀ w cs, All2 w Rs cs → cs.all (·.oneCell') = true) : ∀ u w, AggR Rs u w → ∃ vs : List Value, u.cells = vs.toArray ∧ All2 w Rs vs ∧ vs.all (·.oneCell') = true := by
  rintro u w ⟨cs, rfl, ha⟩; exact ⟨cs, rfl, ha, h w cs ha⟩
theorem all1_nil : ∀ w cs, All2 w [] cs → cs.all (·.oneCell') = true := fun w cs h => by cases h; rfl
theorem all1_cons {R : VP} {Rs : List VP} (h : ∀ v w, R v w → v.cells = #[v] ∧ v.oneCell' = true) (k : ∀ w cs, All2 w Rs cs → cs.all (·.oneCell') = true) : ∀ w cs, All2 w (R :: Rs) cs → cs.all (·.oneCell') = true := fun w cs a => by
  cases a with | cons h1 r => simp only [List.all_cons, Bool.and_eq_true]; exact ⟨(h _ _ h1).2, k w _ r⟩
theorem rep_one {τ : Type} (K : Rep τ) (x : τ) : ∀ w cs, All2 w (K.fs x) cs → cs.all (·.oneCell') = true := fun w cs h => List.all_eq_true.2 (K.one x w cs h)

theorem OpM.eqI {k : IntKind} {m n : Int} (h : OpM P M Γ o (is (.int k m))) (e : m = n) : OpM P M Γ o (is (.int k n)) := e ▸ h
theorem OpM.eqB {b c : Bool} (h : OpM P M Γ o (is (.bool b))) (e : b = c) : OpM P M Γ o (is (.bool c)) := e ▸ h
theorem OpM.eqV {u v : Value} (h : OpM P M Γ o (is u)) (e : u = v) : OpM P M Γ o (is v) := e ▸ h

/-! ### 3. Own variables by facts -/
theorem TrL.allocR (n : Nat) {T : TypeId} {zs : List Value} (ho : o.op = .alloc T) (hg : o.guard = none) (hz : ((P.info? T).bind (·.zero)).map (·.cells.toList) = some zs) (d : Nat) (he : o.dst = some d) (hd : Nat.blt d B.N = true) (hn : B.own n = true)
    (k : ∀ b, TrL B P ops l ((n, BlkR b (zs.map is) T) :: (n, Blk b zs T) :: M) ((d, is (.pointer (some ⟨b, 0, none⟩))) :: Γ) Q) : TrL B P ops (o :: l) M Γ Q :=
  TrL.allocS n ho hg hz d he hd hn fun b => TrL.memI n (by simp [Mem.get]) Blk.toR (k b)
theorem St.allocF {a : Act} {w : World} (s : St B M Γ a w) {n : Nat} (hn : B.own n = true) {d : Option Nat} (hd : dstOk d B.N = true) (cs : List Value) (Rs : List VP) (T : TypeId) (h : ∀ κ, MemOk κ M w → RegOk (live κ) Γ a w → AllB (live κ) w Rs cs) :
    St B ((n, BlkR w.heap.size Rs T) :: M) (Γ.put d (is (.pointer (some ⟨w.heap.size, 0, none⟩)))) (a.put d (.pointer (some ⟨w.heap.size, 0, none⟩))) (w.alloc (.cells cs.toArray T)) := by
  obtain ⟨κ, g, m, r⟩ := s.ex
  have t := alloc_turn g.wf (g.two _ hn) (.cells cs.toArray T)
  refine ⟨by rw [put_size]; exact s.size, by rw [put_defers]; exact s.defers, _, t.good g (by rintro l' rfl; exact hn), m.turn t (fun l' φ h2 hg hne => ?_) (fun l' φ h2 hg hs => ?_), (r.turn t).put (by rw [s.size]; exact dstOk.to hd) Box.is⟩
  · have : Nat.beq n l' = false := by
      cases h : Nat.beq n l' with
      | false => rfl
      | true => exact absurd (beq_true h).symm hne
    simpa [Mem.get, this] using hg
  · subst hs
    simp only [Mem.get, Nat.beq_eq, decide_true, cond_true] at hg
    have : φ = BlkR w.heap.size Rs T := by simpa using hg.symm
    subst this
    refine blkR_ok (by simp) (heap_alloc_new w _) ((h κ m r).later (keeps_alloc w _) (fun _ _ h => h.elim) fun b hb hx => ?_)
    have h1 : (if b = w.heap.size then l' else κ b) ≠ 0 := hx
    rw [if_neg (by omega)] at h1
    exact h1
theorem TrL.boxF (n : Nat) {T : TypeId} {x : Operand} {Rs : List VP} (ho : o.op = .box T x) (hg : o.guard = none) (hx : Has M Γ x (AggR Rs)) (d : Nat) (he : o.dst = some d) (hd : Nat.blt d B.N = true) (hn : B.own n = true)
    (k : ∀ b, TrL B P ops l ((n, BlkR b Rs T) :: M) ((d, is (.pointer (some ⟨b, 0, none⟩))) :: Γ) Q) : TrL B P ops (o :: l) M Γ Q := by
  intro a w s
  obtain ⟨κ, g, m, r⟩ := s.ex
  have hxb := hx.box m (r.on o.op.operands.toList) (by simp [ho, Op.operands])
  obtain ⟨cs, ec, _⟩ := hxb.now
  refine wpList_step fun K hK => ?_
  rw [if_pos (by simp [Region.wanted, hg])]
  unfold Oper.wp execOp
  rw [ho]
  simp only [ec, Instr.box, newVar, newRow, Sem.run_bind, run_newObj, World.alloc_eq, Sem.run_pure, Result.andThen_ok, Value.cells]
  refine hK _ _ (k w.heap.size _ _ ?_)
  have := s.allocF hn (d := o.dst) (by rw [he]; exact hd) cs Rs T fun κ m r w' k' => by
    obtain ⟨cs', e', ha⟩ := (hx.box m (r.on o.op.operands.toList) (by simp [ho, Op.operands])) w' k'
    rw [ec] at e'
    have : cs = cs' := by simpa using e'
    exact this ▸ ha
  rw [he] at this ⊢
  exact this
/-- the same where one cell is boxed -/
theorem TrL.boxF1 (n : Nat) {T : TypeId} {x : Operand} (ho : o.op = .box T x) (hg : o.guard = none) (hx : Has M Γ x R) (h1 : ∀ v w, R v w → v.cells = #[v] ∧ v.oneCell' = true) (d : Nat) (he : o.dst = some d) (hd : Nat.blt d B.N = true) (hn : B.own n = true)
    (k : ∀ b, TrL B P ops l ((n, BlkR b [R] T) :: M) ((d, is (.pointer (some ⟨b, 0, none⟩))) :: Γ) Q) : TrL B P ops (o :: l) M Γ Q := by
  intro a w s
  obtain ⟨κ, g, m, r⟩ := s.ex
  have hxb := hx.box m (r.on o.op.operands.toList) (by simp [ho, Op.operands])
  have ec := (h1 _ _ hxb.now).1
  refine wpList_step fun K hK => ?_
  rw [if_pos (by simp [Region.wanted, hg])]
  unfold Oper.wp execOp
  rw [ho]
  simp only [Instr.box, newVar, newRow, Sem.run_bind, run_newObj, World.alloc_eq, Sem.run_pure, Result.andThen_ok, ec]
  refine hK _ _ (k w.heap.size _ _ ?_)
  have := s.allocF hn (d := o.dst) (by rw [he]; exact hd) [a.eval x] [R] T fun κ m r w' k' => .cons ((hx.box m (r.on o.op.operands.toList) (by simp [ho, Op.operands])) w' k') .nil
  rw [he] at this ⊢
  exact this

/-! ### 4. Calls and returns as they are printed -/
theorem TrL.callGv {g : Operand} {xs : Array Operand} {ts : Array TypeId} {f : FuncId} {first caps : List Value} {As : List VP} {Ro Φ : List RP} {γ : Type} {R : γ → VP} {Ψ : γ → List RP} (ro wr ls : List Nat) (ho : o.op = .call ⟨.value g, xs, ts⟩)
    (hgd : o.guard = none) (d : Nat) (hed : o.dst = some d) (hd : Nat.blt d B.N = true) (hg : Has M Γ g (is (.func (.func f) first.toArray caps.toArray))) (hf : FnG P f (first.map is ++ As ++ caps.map is) Ro Φ R Ψ) (hx : HasAs M Γ xs.toList As) (hr : GetW M (ro ++ wr) (Ro ++ Φ))
    (hro : Nat.beq ro.length Ro.length = true) (hc : okL B.own ro wr ls = true) (hΨ : ∀ g, ls.length = (Ψ g).length) (k : ∀ g, TrL B P ops l (zipM ls (Ψ g) (dropM wr M)) ((d, R g) :: Γ) Q) : TrL B P ops (o :: l) M Γ Q :=
  TrL.callGg ro wr ls ho hgd (by rw [hed]; exact hd) hg hf hx hr hro hc hΨ fun g => by rw [hed]; exact k g
variable {fn : Func}
theorem Fin.retGI {γ : Type} {R : γ → VP} {Ψ : γ → List RP} (t : Nat) (hB : B.own = Nat.ble t) (g : γ) (ms : List Nat) {rs : List ResultVar} {Rs Rs' : List VP} (hres : fn.results = rs.toArray) (h : ResL P M Γ rs Rs) (i : ImpL Rs Rs') (hR : R g = ofAll Rs')
    (hM : GetW M ms (Ψ g)) (hc : (nodupB ms && geB t ms) = true) : Fin B M Γ .ret (RetG P fn B t R Ψ) := Fin.retG t hB g ms hres h (by rw [hR]; exact ofAll_imp i) hM hc
theorem Fin.retGIN {γ : Type} {R : γ → VP} {Ψ : γ → List RP} (t : Nat) (hB : B.own = Nat.ble t) (g : γ) (ms : List Nat) {rs : List ResultVar} {Rs Rs' : List VP} (hres : fn.results = rs.toArray) (h : ResL P M Γ rs Rs) (i : ImpL Rs Rs') (hR : R g = ofAll Rs')
    (hM : GetW M ms (Ψ g)) (hc : (nodupB ms && geB t ms) = true) : Fin B M Γ .normal (RetG P fn B t R Ψ) := Fin.retGN t hB g ms hres h (by rw [hR]; exact ofAll_imp i) hM hc
end
/-- who reads a slice that is lent also reads one that nobody writes -/
theorem FnG.mono {P : Program} {f : FuncId} {As : List VP} {Ro Φ : List RP} {γ : Type} {R R' : γ → VP} {Ψ : γ → List RP} (h : FnG P f As Ro Φ R Ψ) (i : ∀ g v w, R g v w → R' g v w) : FnG P f As Ro Φ R' Ψ :=
  ⟨h.name, fun args w κ hw ha hm => (h.calls args w κ hw ha hm).mono fun e w' ⟨v, g, κ', e1, hg, hm', hv⟩ => ⟨v, g, κ', e1, hg, hm', hv.map (i g)⟩⟩
/-- facts in place of the slices that are lent: Fs tells of each argument what is asked -/
inductive Lent : List VP → List VP → List Value → List RP → Prop where
  | nil : Lent [] [] [] []
  | same {R : VP} {As Bs : List VP} {v : Value} {vs : List Value} {Ro : List RP} (r : Lent As Bs vs Ro) : Lent (R :: As) (R :: Bs) (v :: vs) Ro
  | lst {τ : Type} {K : Rep τ} {xs : List τ} {As Bs : List VP} {v : Value} {vs : List Value} {Ro : List RP} (r : Lent As Bs vs Ro) : Lent (Lst K xs :: As) (is v :: Bs) (v :: vs) (View K v xs :: Ro)
theorem Lent.args {S : Foot} {w : World} {As Bs : List VP} {vs : List Value} {Ro : List RP} (h : Lent As Bs vs Ro) (ha : ArgsOk S w As vs) : ArgsOk S w Bs vs := by
  induction h with
  | nil => exact ha
  | same r ih => cases ha with | cons h1 r1 => exact .cons h1 (ih r1)
  | lst r ih => cases ha with | cons h1 r1 => exact .cons Box.is (ih r1)
theorem Lent.mem {S : Foot} {w : World} {As Bs : List VP} {vs : List Value} {Ro : List RP} (h : Lent As Bs vs Ro) (ha : ArgsOk S w As vs) : ∀ (i : Nat) (φ : RP), Ro[i]? = some φ → ∀ (L : Foot) w', (∀ b, b < w.heap.size → L b → S b) → Keeps S w w' → ∀ F, φ F L w' := by
  induction h with
  | nil => intro i φ hi; simp at hi
  | same r ih => cases ha with | cons h1 r1 => exact ih r1
  | lst r ih =>
    cases ha with
    | cons h1 r1 =>
      intro i φ hi L w' hL k F
      cases i with
      | zero =>
        simp only [List.getElem?_cons_zero, Option.some.injEq] at hi
        subst hi
        obtain ⟨A, c, css, ad⟩ : True ∧ True ∧ True ∧ True := ⟨trivial, trivial, trivial, trivial⟩
        have hbx : Box L (Lst _ _) _ w' := fun w'' k'' => h1 w'' (k.then k'' (fun _ _ h => h) hL)
        have := Fact.view (fun _ => False) L w' ⟨fun b hb => hb, hbx⟩
        exact this
      | succ i => exact ih r1 i φ (by simpa using hi) L w' hL k F
theorem FnR.toP {P : Program} {f : FuncId} {As : List VP} {R : VP} (hn : nameB P f = true) (h : ∀ vs : List Value, vs.length = As.length → ∃ Bs Ro, Lent As Bs vs Ro ∧ FnR P f Bs Ro R) : FnP P f As R := by
  refine ⟨hn, fun args w S hS ha => ?_⟩
  obtain ⟨Bs, Ro, hl, hf⟩ := h args.toList (args_length ha)
  classical
  have e : live (fun b => if S b then 1 else 0) = S := funext fun b => propext (by simp only [live]; split <;> simp_all)
  refine (hf.calls args w (fun b => if S b then 1 else 0) (fun b hb => if_neg (hS b hb)) (by rw [e]; exact hl.args ha) fun i φ hi L w' hL k => ?_).mono fun e' w' ⟨v, g, κ', e1, hg, _, hv⟩ => ⟨v, e1, ?_, ?_⟩
  · rw [List.append_nil] at hi
    refine hl.mem ha i φ hi L w' (fun b hb h => Classical.byContradiction fun hn => hL b hb h (if_neg hn)) (k.mono fun b _ h => Classical.byContradiction fun hn => h.1 (if_neg hn)) _
  · refine hg.keeps.mono fun b _ h => ?_
    have : 2 + Ro.length ≤ (if S b then 1 else 0) := h
    split at this <;> omega
  · refine hv.less fun b hb hs => ?_
    by_cases hlt : b < w.heap.size
    · have := hg.old b hlt (by show (if S b then 1 else 0) < _; split <;> omega)
      show κ' b ≠ 0
      rw [this, if_pos hs]; simp
    · exact absurd hs (hS b (by omega))

/-! ### 5. Drawn regions: memory that is made or turned there -/
theorem get_top {n : Nat} {φ : RP} {M : Mem} : Mem.get ((n, φ) :: M) n = some φ := by simp [Mem.get]
def PBlkR (v : Value) (Rs : List VP) (T : TypeId) : RP := fun F L w => ∃ b, v = .pointer (some ⟨b, 0, none⟩) ∧ BlkR b Rs T F L w
section
variable {B : Base} {P : Program} {M : Mem} {Γ : Env} {Q : Exit → Act → World → Prop} {ops : Array Oper} {o : Oper} {l : List Oper} {R : VP}
theorem St.openP {v : Value} {Rs : List VP} {T : TypeId} {a : Act} {w : World} (s : St B M Γ a w) {n t : Nat} (h2 : 2 ≤ n) (hm : M.get n = some (PBlkR v Rs T)) (ht : Γ.get t = some (is v)) : ∃ b, v = .pointer (some ⟨b, 0, none⟩) ∧ St B ((n, BlkR b Rs T) :: M) ((t, is (.pointer (some ⟨b, 0, none⟩))) :: Γ) a w := by
  obtain ⟨κ, g, m, r⟩ := s.ex
  obtain ⟨b, hb, _⟩ := (m n _ h2 hm).now
  refine ⟨b, hb, (s.memI hm ?_).slotI ht ?_⟩
  · rintro F L w ⟨b', hb', h⟩
    rw [hb] at hb'
    have : b = b' := by simpa using hb'
    exact this ▸ h
  · intro u w h; rw [← hb]; exact h
theorem Fin.openP {e : Exit} {v : Value} {Rs : List VP} {T : TypeId} (n t : Nat) (h2 : Nat.ble 2 n = true) (hm : M.get n = some (PBlkR v Rs T)) (ht : Γ.get t = some (is v)) (k : ∀ b, v = .pointer (some ⟨b, 0, none⟩) → Fin B ((n, BlkR b Rs T) :: M) ((t, is (.pointer (some ⟨b, 0, none⟩))) :: Γ) e Q) : Fin B M Γ e Q := fun a w s =>
  let ⟨b, hb, s'⟩ := s.openP (Nat.le_of_ble_eq_true h2) hm ht; k b hb a w s'
theorem Fin.openPB {e : Exit} {v : Value} {vs : List Value} {T : TypeId} (n t : Nat) (h2 : Nat.ble 2 n = true) (hm : M.get n = some (PBlkR v (vs.map is) T)) (ht : Γ.get t = some (is v)) (k : ∀ b, v = .pointer (some ⟨b, 0, none⟩) → Fin B ((n, Blk b vs T) :: M) ((t, is (.pointer (some ⟨b, 0, none⟩))) :: Γ) e Q) : Fin B M Γ e Q :=
  Fin.openP n t h2 hm ht fun b hb a w s => k b hb a w (s.sub (fun l φ h2' hl => by
    simp only [Mem.get] at hl ⊢
    cases hq : Nat.beq n l with
    | true => rw [hq] at hl; simp only [cond_true, Option.some.injEq] at hl ⊢; subst hl; exact ⟨_, rfl, BlkR.toB⟩
    | false => rw [hq] at hl; exact ⟨φ, hl, fun _ _ _ h => h⟩) fun t R h => ⟨R, h, fun _ _ h => h⟩)
theorem TrL.openB {v : Value} {Rs : List VP} {T : TypeId} (n : Nat) (h2 : Nat.ble 2 n = true) (hm : M.get n = some (PBlkR v Rs T)) (k : ∀ b, v = .pointer (some ⟨b, 0, none⟩) → TrL B P ops l ((n, BlkR b Rs T) :: M) Γ Q) : TrL B P ops l M Γ Q := fun a w s => by
  obtain ⟨κ, g, m, r⟩ := s.ex
  obtain ⟨b, hb, _⟩ := (m n _ (Nat.le_of_ble_eq_true h2) hm).now
  refine k b hb a w (s.memI hm ?_)
  rintro F L w ⟨b', hb', h⟩
  rw [hb] at hb'
  have : b = b' := by simpa using hb'
  exact this ▸ h
theorem depS {D : List Nat} {d : Nat} (h : memB d D = true) : Dep D (fun σ : Sg => is (σ d)) := fun σ σ' hs => by show is (σ d) = is (σ' d); rw [hs d (memB_iff.1 h)]
theorem depP {D : List Nat} {d n : Nat} {Rs : List VP} {T : TypeId} (h : memB d D = true) : DepM D [(n, fun σ : Sg => PBlkR (σ d) Rs T)] := ⟨fun σ σ' hs => by show PBlkR (σ d) Rs T = PBlkR (σ' d) Rs T; rw [hs d (memB_iff.1 h)], trivial⟩
theorem depO {τ : Type} {K : Rep τ} {e : TypeId} {xs : List τ} {D : List Nat} {d n : Nat} (h : memB d D = true) : DepM D [(n, fun σ : Sg => Own K e (σ d) xs)] := ⟨fun σ σ' hs => by show Own K e (σ d) xs = Own K e (σ' d) xs; rw [hs d (memB_iff.1 h)], trivial⟩
theorem depM1 {D : List Nat} {n : Nat} {Φ : Sg → RP} (h : Dep D Φ) : DepM D [(n, Φ)] := ⟨h, trivial⟩
theorem upd_same {σ : Sg} {d : Nat} {v : Value} : upd σ (some d) v d = v := by simp [upd]
variable {fs : Fs} {MA : AMem} {Γf : Sg → Env}
theorem AChain.wr1 {N k : Nat} {K : AMem → (Sg → Env) → Prop} (n : Nat) {φ : RP} (hw : fs.wr k = [n]) (h2 : Nat.ble 2 n = true) (hg : o.guard = none) (he : o.dst = none)
    (h : ∀ (w0 : World) (κ0 : Nat → Nat) (σ : Sg), TrL ⟨N, fun m => memB m [n], w0, κ0⟩ P ops [o] (AMem.inst σ (MA.cut (fs.rd k))) ((Γf σ).cut (reads ops o)) (After ⟨N, fun m => memB m [n], w0, κ0⟩ σ none (fun _ => anyV) [(n, fun _ => φ)]))
    (r : AChain P N ops fs (k + 1) l ((n, fun _ => φ) :: MA) Γf K) : AChain P N ops fs k (o :: l) MA Γf K :=
  AChain.wr0 (ch := [(n, fun _ => φ)]) [n] hw (by simp [geB, h2]) hg he h (by simp [coverB, AMem.get, memB]) ⟨Dep.const, trivial⟩ r
theorem AChain.allocD {N k : Nat} {K : AMem → (Sg → Env) → Prop} (n d : Nat) {T : TypeId} {zs : List Value} (hw : fs.wr k = [n]) (h2 : Nat.ble 2 n = true) (ho : o.op = .alloc T) (hg : o.guard = none) (he : o.dst = some d) (hd : Nat.blt d N = true) (hz : ((P.info? T).bind (·.zero)).map (·.cells.toList) = some zs)
    (hD : Dep (fs.dp k) (fun σ : Sg => is (σ d))) (hM : DepM (fs.dp k) [(n, fun σ : Sg => PBlkR (σ d) (zs.map is) T)])
    (r : AChain P N ops fs (k + 1) l ((n, fun σ => PBlkR (σ d) (zs.map is) T) :: MA) (fun σ => (d, is (σ d)) :: Γf σ) K) : AChain P N ops fs k (o :: l) MA Γf K :=
  AChain.wr (R := fun σ => is (σ d)) (ch := [(n, fun σ : Sg => PBlkR (σ d) (zs.map is) T)]) d [n] hw (by simp [geB, h2]) hg he hd (fun w0 κ0 σ => TrL.allocS n ho hg hz d he hd (by simp [memB]) fun b => TrL.memI n (ψ := PBlkR (.pointer (some ⟨b, 0, none⟩)) (zs.map is) T) get_top (fun F L w h => ⟨b, rfl, Blk.toR F L w h⟩)
    (TrL.doneV (by simp [Env.get]; rfl) (fun v => by simp [upd_same]) (.cons (φ := PBlkR (.pointer (some ⟨b, 0, none⟩)) (zs.map is) T) get_top (by simp [upd_same]) .nil))) (by simp [coverB, AMem.get, memB]) hD hM r
/-- the whole of such a variable is written -/
theorem AChain.storeD {N k : Nat} {K : AMem → (Sg → Env) → Prop} (n d : Nat) {T T' : TypeId} {x y : Operand} {Rs Ss : List VP} (hw : fs.wr k = [n]) (h2 : Nat.ble 2 n = true) (ho : o.op = .store T' x y) (hg : o.guard = none) (he : o.dst = none)
    (hx : ∀ σ b, Has ((n, BlkR b Rs T) :: AMem.inst σ (MA.cut (fs.rd k))) ((Γf σ).cut (reads ops o)) x (is (σ d))) (hy : ∀ σ b, Has ((n, BlkR b Rs T) :: AMem.inst σ (MA.cut (fs.rd k))) ((Γf σ).cut (reads ops o)) y (AggR Ss)) (h1 : ∀ w cs, All2 w Ss cs → cs.all (·.oneCell') = true)
    (hm : ∀ σ, (AMem.inst σ (MA.cut (fs.rd k))).get n = some (PBlkR (σ d) Rs T)) (hs : sizeB P T' Ss.length = true) (hl : Nat.beq Ss.length Rs.length = true) (hM : DepM (fs.dp k) [(n, fun σ : Sg => PBlkR (σ d) Ss T)])
    (r : AChain P N ops fs (k + 1) l ((n, fun σ => PBlkR (σ d) Ss T) :: MA) Γf K) : AChain P N ops fs k (o :: l) MA Γf K :=
  AChain.wr0 (ch := [(n, fun σ : Sg => PBlkR (σ d) Ss T)]) [n] hw (by simp [geB, h2]) hg he (fun w0 κ0 σ => TrL.openB n h2 (hm σ) fun b hb => TrL.storeRW n ho hg he ((hx σ b).map fun v w h => Eq.trans h hb) (hy σ b) get_top (by simp [memB]) h1 hs hl
    (TrL.memI n (ψ := PBlkR (σ d) Ss T) get_top (fun F L w h => ⟨b, hb, h⟩) (TrL.done0 (.cons (φ := PBlkR (σ d) Ss T) get_top rfl .nil)))) (by simp [coverB, AMem.get, memB]) hM r
theorem AChain.storeDA {N k : Nat} {K : AMem → (Sg → Env) → Prop} (n d : Nat) {T T' : TypeId} {x y : Operand} {Rs : List VP} {vs : List Value} (hw : fs.wr k = [n]) (h2 : Nat.ble 2 n = true) (ho : o.op = .store T' x y) (hg : o.guard = none) (he : o.dst = none)
    (hx : ∀ σ b, Has ((n, BlkR b Rs T) :: AMem.inst σ (MA.cut (fs.rd k))) ((Γf σ).cut (reads ops o)) x (is (σ d))) (hy : ∀ σ b, Has ((n, BlkR b Rs T) :: AMem.inst σ (MA.cut (fs.rd k))) ((Γf σ).cut (reads ops o)) y (is (.agg vs.toArray))) (h1 : vs.all (·.oneCell') = true)
    (hm : ∀ σ, (AMem.inst σ (MA.cut (fs.rd k))).get n = some (PBlkR (σ d) Rs T)) (hs : sizeB P T' vs.length = true) (hl : Nat.beq vs.length Rs.length = true) (hM : DepM (fs.dp k) [(n, fun σ : Sg => PBlkR (σ d) (vs.map is) T)])
    (r : AChain P N ops fs (k + 1) l ((n, fun σ => PBlkR (σ d) (vs.map is) T) :: MA) Γf K) : AChain P N ops fs k (o :: l) MA Γf K :=
  AChain.storeD n d hw h2 ho hg he hx (fun σ b => (hy σ b).map fun v w h => ⟨vs, h, All2.of_is vs⟩) (fun w cs h => by rw [h.is]; exact h1) hm (by simpa using hs) (by simpa using hl) hM r
theorem AChain.storeD1 {N k : Nat} {K : AMem → (Sg → Env) → Prop} (n d : Nat) {T T' : TypeId} {x y : Operand} {Rs : List VP} {S : VP} (hw : fs.wr k = [n]) (h2 : Nat.ble 2 n = true) (ho : o.op = .store T' x y) (hg : o.guard = none) (he : o.dst = none)
    (hx : ∀ σ b, Has ((n, BlkR b Rs T) :: AMem.inst σ (MA.cut (fs.rd k))) ((Γf σ).cut (reads ops o)) x (is (σ d))) (hy : ∀ σ b, Has ((n, BlkR b Rs T) :: AMem.inst σ (MA.cut (fs.rd k))) ((Γf σ).cut (reads ops o)) y S) (h1 : ∀ v w, S v w → v.cells = #[v] ∧ v.oneCell' = true)
    (hm : ∀ σ, (AMem.inst σ (MA.cut (fs.rd k))).get n = some (PBlkR (σ d) Rs T)) (hs : sizeB P T' 1 = true) (hl : Nat.beq 1 Rs.length = true) (hM : DepM (fs.dp k) [(n, fun σ : Sg => PBlkR (σ d) [S] T)])
    (r : AChain P N ops fs (k + 1) l ((n, fun σ => PBlkR (σ d) [S] T) :: MA) Γf K) : AChain P N ops fs k (o :: l) MA Γf K := by
  have hl' : Rs.length = 1 := by simpa using (beq_true hl).symm
  refine AChain.wr0 (ch := [(n, fun σ : Sg => PBlkR (σ d) [S] T)]) [n] hw (by simp [geB, h2]) hg he (fun w0 κ0 σ => TrL.openB n h2 (hm σ) fun b hb => TrL.storeR1 n ho hg he ((hx σ b).map fun v w h => Eq.trans h hb) (hy σ b) get_top (by simp [memB]) h1 hs (by rw [hl']; rfl)
    (TrL.memI n (φ := BlkR b (Rs.set 0 S) T) (ψ := PBlkR (σ d) [S] T) get_top (fun F L w h => ⟨b, hb, ?_⟩) (TrL.done0 (.cons (φ := PBlkR (σ d) [S] T) get_top rfl .nil)))) (by simp [coverB, AMem.get, memB]) hM r
  match Rs, hl' with
  | [R0], _ => exact h
/-- a slice written out there; appended to there -/
theorem AChain.sliceD {N k : Nat} {K0 : AMem → (Sg → Env) → Prop} {τ : Type} (n d : Nat) {K : Rep τ} {xs : List τ} {t e : TypeId} {len : Nat} {ps : Array (Nat × Operand)} (hw : fs.wr k = [n]) (h2 : Nat.ble 2 n = true) (ho : o.op = .buildSlice t len ps) (hg : o.guard = none) (he : o.dst = some d) (hd : Nat.blt d N = true)
    (hp : ∀ σ, HasE (AMem.inst σ (MA.cut (fs.rd k))) ((Γf σ).cut (reads ops o)) K ps.toList 0 xs) (hu : P.underlying t = some (.slice e)) (hs : sizeB P e K.n = true)
    (hz : zeroB P e = true) (hl : Nat.beq ps.size len = true) (hsm : len * K.n ≤ 2 ^ 24) (hD : Dep (fs.dp k) (fun σ : Sg => is (σ d))) (hM : DepM (fs.dp k) [(n, fun σ : Sg => Own K e (σ d) xs)])
    (r : AChain P N ops fs (k + 1) l ((n, fun σ => Own K e (σ d) xs) :: MA) (fun σ => (d, is (σ d)) :: Γf σ) K0) : AChain P N ops fs k (o :: l) MA Γf K0 :=
  AChain.wr (R := fun σ => is (σ d)) (ch := [(n, fun σ : Sg => Own K e (σ d) xs)]) d [n] hw (by simp [geB, h2]) hg he hd (fun w0 κ0 σ => TrL.sliceOwn n ho hg d he hd (hp σ) hu hs hz hl hsm (by simp [memB]) fun v _ =>
    (TrL.doneV (by simp [Env.get]; rfl) (fun v => by simp [upd_same]) (.cons (φ := Own K e v xs) get_top (by simp [upd_same]) .nil))) (by simp [coverB, AMem.get, memB]) hD hM r
theorem AChain.appendD {N k : Nat} {K0 : AMem → (Sg → Env) → Prop} {τ : Type} (n d : Nat) {K : Rep τ} {xs ys : List τ} {vf : Sg → Value} {t e : TypeId} {x y : Operand} {bytes : Nat} (hw : fs.wr k = [n]) (h2 : Nat.ble 2 n = true) (ho : o.op = .call ⟨.builtin .append, #[x, y], #[t, t]⟩) (hg : o.guard = none) (he : o.dst = some d) (hd : Nat.blt d N = true)
    (hx : ∀ σ, Has (AMem.inst σ (MA.cut (fs.rd k))) ((Γf σ).cut (reads ops o)) x (is (vf σ))) (hm : ∀ σ, (AMem.inst σ (MA.cut (fs.rd k))).get n = some (Own K e (vf σ) xs)) (hy : ∀ σ, Has (AMem.inst σ (MA.cut (fs.rd k))) ((Γf σ).cut (reads ops o)) y (Lst K ys))
    (hu : P.underlying t = some (.slice e)) (hs : sizeB P e K.n = true) (hb : elemB P e K.n bytes = true) (hlen : (xs.length + ys.length) * bytes ≤ 140737488355328) (hlen2 : xs.length + ys.length ≤ maxLen)
    (hD : Dep (fs.dp k) (fun σ : Sg => is (σ d))) (hM : DepM (fs.dp k) [(n, fun σ : Sg => Own K e (σ d) (xs ++ ys))])
    (r : AChain P N ops fs (k + 1) l ((n, fun σ => Own K e (σ d) (xs ++ ys)) :: MA) (fun σ => (d, is (σ d)) :: Γf σ) K0) : AChain P N ops fs k (o :: l) MA Γf K0 :=
  AChain.wr (R := fun σ => is (σ d)) (ch := [(n, fun σ : Sg => Own K e (σ d) (xs ++ ys))]) d [n] hw (by simp [geB, h2]) hg he hd (fun w0 κ0 σ => TrL.appendG n ho hg d he hd (hx σ) (hm σ) (by simp [memB]) (hy σ) hu hs hb hlen hlen2 fun v =>
    (TrL.doneV (by simp [Env.get]; rfl) (fun v => by simp [upd_same]) (.cons (φ := Own K e v (xs ++ ys)) get_top (by simp [upd_same]) .nil))) (by simp [coverB, AMem.get, memB]) hD hM r
/-- what the region itself has made is put into a cell of an own variable -/
theorem AChain.storeBO {N k : Nat} {K0 : AMem → (Sg → Env) → Prop} {τ : Type} (n m : Nat) {K : Rep τ} {xs : List τ} {vf : Sg → Value} {e : TypeId} {b off : Nat} {T T' : TypeId} {x y : Operand} {Rs : List VP} (hw : fs.wr k = [n]) (h2 : Nat.ble 2 n = true) (hm2 : Nat.ble 2 m = true) (ho : o.op = .store T' x y) (hg : o.guard = none) (he : o.dst = none)
    (hx : ∀ σ, Has (AMem.inst σ (MA.cut (fs.rd k))) ((Γf σ).cut (reads ops o)) x (is (.pointer (some ⟨b, off, none⟩)))) (hy : ∀ σ, Has (AMem.inst σ (MA.cut (fs.rd k))) ((Γf σ).cut (reads ops o)) y (is (vf σ))) (hm : ∀ σ, (AMem.inst σ (MA.cut (fs.rd k))).get n = some (BlkR b Rs T))
    (hv : ∀ σ, (AMem.inst σ (MA.cut (fs.rd k))).get m = some (Own K e (vf σ) xs)) (hs : sizeB P T' 1 = true) (hl : Nat.ble (off + 1) Rs.length = true) (hM : DepM (fs.dp k) [(n, fun σ : Sg => BlkR b (Rs.set off (is (vf σ))) T)])
    (r : AChain P N ops fs (k + 1) l ((n, fun σ => BlkR b (Rs.set off (is (vf σ))) T) :: MA) Γf K0) : AChain P N ops fs k (o :: l) MA Γf K0 :=
  AChain.wr0 (ch := [(n, fun σ : Sg => BlkR b (Rs.set off (is (vf σ))) T)]) [n] hw (by simp [geB, h2]) hg he (fun w0 κ0 σ => TrL.memP m (hv σ) hm2 own_form fun hf => TrL.storeR1 n ho hg he (hx σ) (hy σ) (hm σ) (by simp [memB]) (h1sl hf) hs hl
    (TrL.done0 (.cons (φ := BlkR b (Rs.set off (is (vf σ))) T) get_top rfl .nil))) (by simp [coverB, AMem.get, memB]) hM r
theorem depB {D : List Nat} {n b : Nat} {T : TypeId} {f : Sg → List VP} (h : Dep D f) : DepM D [(n, fun σ => BlkR b (f σ) T)] := ⟨fun σ σ' hs => by show BlkR b (f σ) T = BlkR b (f σ') T; rw [h σ σ' hs], trivial⟩
end
end Go.Proofs.Ytemkogoclljhpaa.L
