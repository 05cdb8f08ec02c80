/- This call's own memory: variables that are written, slices that grow. -/
import Derived.Test.YtemkogoclljhpaaLE
namespace Go.Proofs.Ytemkogoclljhpaa.L
open Go
set_option linter.unusedVariables false
set_option linter.unusedSimpArgs false

/-! ### 1. New blocks -/
def Blk (b : Nat) (cs : List Value) (T : TypeId) : RP := fun F w => F b ∧ w.heap[b]? = some (.cells cs.toArray T (0, 0))
def anyR : RP := fun _ _ => True
theorem alloc_turn {κ : Nat → Nat} {w : World} (hw : Wf κ w) {l : Nat} (hl : 2 ≤ l) (ob : Obj) : Turn (fun x => x = l) κ (fun b => if b = w.heap.size then l else κ b) w (w.alloc ob) :=
  ⟨by omega, by omega, (keeps_alloc w ob).none, fun b hb => by
      have : w.heap.size + 1 ≤ b := by simpa using hb
      show (if b = w.heap.size then l else κ b) = 0
      rw [if_neg (by omega)]; exact hw b (by omega),
    fun b hb h0 => by show (if b = w.heap.size then l else κ b) = 0; rw [if_neg (by omega)]; exact h0,
    fun l' hl' h0 b => by
      show (if b = w.heap.size then l else κ b) = l' ↔ _
      by_cases hb : b = w.heap.size
      · subst hb; rw [if_pos rfl, hw w.heap.size (Nat.le_refl _)]; exact ⟨fun e => absurd e.symm hl', fun e => absurd e.symm h0⟩
      · rw [if_neg hb]⟩
theorem St.alloc {B : Base} {M : Mem} {Γ : Env} {a : Act} {w : World} (s : St B M Γ a w) {l : Nat} (hl : 2 ≤ l) {d : Option Nat} (hd : dstOk d B.N = true) (cs : List Value) (T : TypeId) :
    St B ((l, Blk w.heap.size cs T) :: M) (Γ.put d (is (.pointer (some ⟨w.heap.size, 0, none⟩)))) (a.put d (.pointer (some ⟨w.heap.size, 0, none⟩))) (w.alloc (.cells cs.toArray T)) := by
  obtain ⟨κ, g, m, r⟩ := s.ex
  have t := alloc_turn g.wf hl (.cells cs.toArray T)
  refine ⟨by rw [put_size]; exact s.size, by rw [put_defers]; exact s.defers, _, t.good g (by rintro l' rfl; exact hl), m.turn t (fun l' φ h2 hg hn => ?_) (fun l' φ h2 hg hs => ?_), (r.turn t).put (by rw [s.size]; exact dstOk.to hd) Box.is⟩
  · have : Nat.beq l l' = false := by
      cases h : Nat.beq l l' with
      | false => rfl
      | true => exact absurd (beq_true h).symm hn
    simpa [Mem.get, this] using hg
  · subst hs
    simp only [Mem.get, Nat.beq_eq, decide_true, cond_true] at hg
    have : φ = Blk w.heap.size cs T := by simpa using hg.symm
    subst this
    intro w' k
    refine ⟨by simp, ?_⟩
    rw [k.block _ (by simp) (by simp)]
    exact heap_alloc_new w _

section
variable {B : Base} {P : Program} {M : Mem} {Γ : Env} {Q : Exit → Act → World → Prop} {ops : Array Oper} {o : Oper} {l : List Oper} {R : VP}

theorem TrL.alloc (n : Nat) {T : TypeId} {zs : List Value} (ho : o.op = .alloc T) (hg : o.guard = none) (hz : ((P.info? T).bind (·.zero)).map (·.cells.toList) = some zs) (hd : dstOk o.dst B.N = true) (hn : Nat.ble 2 n = true)
    (k : ∀ b, TrL B P ops l ((n, Blk b zs T) :: M) (Γ.put o.dst (is (.pointer (some ⟨b, 0, none⟩)))) Q) : TrL B P ops (o :: l) M Γ Q := by
  intro a w s
  refine wpList_step fun K hK => ?_
  rw [if_pos (by simp [Region.wanted, hg])]
  unfold Oper.wp execOp
  rw [ho]
  cases hi : P.info? T with
  | none => rw [hi] at hz; simp at hz
  | some i =>
    rw [hi] at hz
    simp only [Option.bind_some, Option.map_eq_some_iff] at hz
    obtain ⟨z, hz1, hz2⟩ := hz
    have hc : z.cells = zs.toArray := by rw [← hz2]
    simp only [Instr.alloc, zeroValue, typeInfo, hi, Sem.run_bind, run_program, Result.andThen_ok, Sem.run_pure, hz1, newVar, newRow, run_newObj, World.alloc_eq, hc]
    exact hK _ _ (k _ _ _ (s.alloc (by simpa [Nat.ble_eq] using hn) hd zs T))
theorem TrL.box (n : Nat) {T : TypeId} {x : Operand} {v : Value} {cs : List Value} (ho : o.op = .box T x) (hg : o.guard = none) (hx : Has M Γ x (is v)) (hc : v.cells = cs.toArray) (hd : dstOk o.dst B.N = true) (hn : Nat.ble 2 n = true)
    (k : ∀ b, TrL B P ops l ((n, Blk b cs T) :: M) (Γ.put o.dst (is (.pointer (some ⟨b, 0, none⟩)))) Q) : TrL B P ops (o :: l) M Γ Q := by
  intro a w s
  have s' := s
  obtain ⟨κ, g, m, r⟩ := s.ex
  refine wpList_step fun K hK => ?_
  rw [if_pos (by simp [Region.wanted, hg])]
  unfold Oper.wp execOp
  rw [ho]
  simp only [hx.val m (r.on o.op.operands.toList) (by simp [ho, Op.operands]), Instr.box, newVar, newRow, Sem.run_bind, run_newObj, Result.andThen_ok, Sem.run_pure, World.alloc_eq, hc]
  exact hK _ _ (k _ _ _ (s'.alloc (by simpa [Nat.ble_eq] using hn) hd cs T))

/-! ### 2. Loads and stores -/
def setAt : List Value → Nat → List Value → List Value
  | cs, _, [] => cs
  | cs, off, v :: vs => setAt (cs.set off v) (off + 1) vs
theorem setAt_length : ∀ (vs cs : List Value) (off : Nat), (setAt cs off vs).length = cs.length
  | [], _, _ => rfl
  | v :: vs, cs, off => by rw [setAt, setAt_length]; simp
theorem setAt_eq : ∀ (vs pre post cs : List Value), cs.length = vs.length → setAt (pre ++ cs ++ post) pre.length vs = pre ++ vs ++ post
  | [], pre, post, cs, h => by
    have : cs = [] := List.eq_nil_of_length_eq_zero h
    subst this; rfl
  | v :: vs, pre, post, cs, h => by
    cases cs with
    | nil => simp at h
    | cons c cs =>
      have ih := setAt_eq vs (pre ++ [v]) post cs (by simpa using h)
      rw [setAt]
      have e : (pre ++ c :: cs ++ post).set pre.length v = pre ++ [v] ++ cs ++ post := by simp
      rw [e]
      have e2 : pre.length + 1 = (pre ++ [v]).length := by simp
      rw [e2, ih]
      simp
theorem setAt_all (vs cs : List Value) (h : vs.length = cs.length) : setAt cs 0 vs = vs := by
  have := setAt_eq vs [] [] cs h.symm
  simpa using this
theorem run_storeBlk {b : Nat} {T : TypeId} {off : Nat} : ∀ (vs cs : List Value) (i : Nat) (w : World), w.heap[b]? = some (.cells cs.toArray T (0, 0)) → off + i + vs.length ≤ cs.length → vs.all (·.oneCell') = true →
    ∃ w', (storeCells ⟨b, off, none⟩ vs i).run P w = .ok () w' ∧ w'.heap[b]? = some (.cells (setAt cs (off + i) vs).toArray T (0, 0)) ∧ Keeps (fun x => x = b) w w'
  | [], cs, i, w, h, _, _ => ⟨w, by simp [storeCells], h, Keeps.refl _ _⟩
  | v :: vs, cs, i, w, h, hl, h1 => by
    simp only [List.length_cons] at hl
    simp only [List.all_cons, Bool.and_eq_true] at h1
    have hset := heap_setCell_same w b (off + i) cs.toArray T v h
    have hcell : w.cell? ⟨b, off + i, none⟩ = some (cs[off + i]'(by omega)) := by
      rw [cell_of_row w b (off + i) cs.toArray T (0, 0) h]
      simp [show off + i < cs.length by omega]
    have e : (cs.toArray.setIfInBounds (off + i) v) = (cs.set (off + i) v).toArray := by simp
    rw [e] at hset
    obtain ⟨w', h2, h3, h4⟩ := run_storeBlk (off := off) vs (cs.set (off + i) v) (i + 1) (w.setCell ⟨b, off + i, none⟩ v) hset (by rw [List.length_set]; omega) h1.2
    refine ⟨w', ?_, ?_, Keeps.trans ⟨by simp, fun x hx hn => heap_setCell_other w ⟨b, off + i, none⟩ x v hn, rfl, rfl, rfl⟩ h4⟩
    · simp only [storeCells, Sem.run_bind, Addr.add_lit]
      rw [run_store P w ⟨b, off + i, none⟩ v .plain h1.1]
      rw [hcell]
      simp only [frozen_of_row w b (off + i) cs.toArray T h]
      simpa using h2
    · rw [h3]; rfl
theorem run_storeVar {b : Nat} {T T' : TypeId} {off : Nat} {v : Value} {vs cs : List Value} {w : World} (h : w.heap[b]? = some (.cells cs.toArray T (0, 0))) (hv : v.cells = vs.toArray) (hs : sizeB P T' vs.length = true) (hl : off + vs.length ≤ cs.length) (h1 : vs.all (·.oneCell') = true) :
    ∃ w', (storeVar T' ⟨b, off, none⟩ v).run P w = .ok () w' ∧ w'.heap[b]? = some (.cells (setAt cs off vs).toArray T (0, 0)) ∧ Keeps (fun x => x = b) w w' := by
  obtain ⟨w', h2, h3, h4⟩ := run_storeBlk (P := P) vs cs 0 w h (by omega) h1
  refine ⟨w', ?_, h3, h4⟩
  simp [storeVar, hv, run_sizeOf hs, h2]
/-- a turn of one label's blocks, the labels staying -/
theorem same_turn {κ : Nat → Nat} {w w' : World} (hw : Wf κ w) {n : Nat} (hn : 2 ≤ n) (k : Keeps (fun x => κ x = n) w w') : Turn (fun x => x = n) κ κ w w' :=
  ⟨by omega, by omega, k, fun b hb => hw b (Nat.le_trans k.size hb), fun _ _ h => h, fun _ _ _ _ => Iff.rfl⟩
theorem St.turn1 {a : Act} {w w' : World} {κ : Nat → Nat} {n : Nat} {φ : RP} (hn : 2 ≤ n) (size : a.tmps.size = B.N) (defers : a.defers = []) (g : Good B κ w) (m : MemOk κ M w) (r : RegOk (live κ) Γ a w)
    (k : Keeps (fun x => κ x = n) w w') (h : ResOk κ n φ w') : St B ((n, φ) :: M) Γ a w' := by
  have t := same_turn g.wf hn k
  refine ⟨size, defers, κ, t.good g (by rintro l rfl; exact hn), m.turn t (fun l' ψ h2 hg hne => ?_) (fun l' ψ h2 hg hs => ?_), r.turn t⟩
  · have : Nat.beq n l' = false := by
      cases h : Nat.beq n l' with
      | false => rfl
      | true => exact absurd (beq_true h).symm hne
    simpa [Mem.get, this] using hg
  · subst hs
    simp only [Mem.get, Nat.beq_eq, decide_true, cond_true] at hg
    have : ψ = φ := by simpa using hg.symm
    subst this
    exact h
theorem St.put_undef {a : Act} {w : World} (s : St B M Γ a w) {d : Option Nat} (hd : d = none) (v : Value) : St B M Γ (a.put d v) w := by subst hd; exact s
theorem blk_ok {κ : Nat → Nat} {n b : Nat} {cs : List Value} {T : TypeId} {w : World} (hb : κ b = n) (h : w.heap[b]? = some (.cells cs.toArray T (0, 0))) : ResOk κ n (Blk b cs T) w := fun w' k =>
  ⟨hb, by rw [k.block b (by
    rcases Nat.lt_or_ge b w.heap.size with h' | h'
    · exact h'
    · rw [Array.getElem?_eq_none h'] at h; cases h) (by rintro ⟨_, h2⟩; exact h2 hb)]; exact h⟩
theorem TrL.store (n : Nat) {b off : Nat} {T T' : TypeId} {x y : Operand} {v : Value} {vs cs : List Value} (ho : o.op = .store T' x y) (hg : o.guard = none) (hd : o.dst = none) (hx : Has M Γ x (is (.pointer (some ⟨b, off, none⟩)))) (hy : Has M Γ y (is v))
    (hm : M.get n = some (Blk b cs T)) (hn : Nat.ble 2 n = true) (hv : v.cells = vs.toArray) (hs : sizeB P T' vs.length = true) (hl : off + vs.length ≤ cs.length) (h1 : vs.all (·.oneCell') = true)
    (k : TrL B P ops l ((n, Blk b (setAt cs off vs) T) :: M) Γ Q) : TrL B P ops (o :: l) M Γ Q := by
  intro a w s
  obtain ⟨κ, g, m, r⟩ := s.ex
  have hn' : 2 ≤ n := by simpa [Nat.ble_eq] using hn
  obtain ⟨hb, hh⟩ := (m n _ hn' hm).now
  obtain ⟨w', h2, h3, h4⟩ := run_storeVar (P := P) hh hv hs hl h1
  refine wpList_step fun K hK => ?_
  rw [if_pos (by simp [Region.wanted, hg])]
  unfold Oper.wp execOp
  rw [ho]
  simp only [hx.val m (r.on o.op.operands.toList) (by simp [ho, Op.operands]), hy.val m (r.on o.op.operands.toList) (by simp [ho, Op.operands]), Instr.storeAt, Instr.sureAddr, Sem.run_bind, Sem.run_pure, Result.andThen_ok, h2]
  exact hK _ _ (k _ _ ((St.turn1 hn' s.size s.defers g m r (h4.mono fun x _ hx => hx ▸ hb) (blk_ok hb h3)).put_undef hd _))
theorem TrL.store1 (n : Nat) {b off : Nat} {T T' : TypeId} {x y : Operand} {v : Value} {cs : List Value} (ho : o.op = .store T' x y) (hg : o.guard = none) (hd : o.dst = none) (hx : Has M Γ x (is (.pointer (some ⟨b, off, none⟩)))) (hy : Has M Γ y (is v))
    (hm : M.get n = some (Blk b cs T)) (hn : Nat.ble 2 n = true) (hv : v.cells = #[v]) (hs : sizeB P T' 1 = true) (hl : Nat.ble (off + 1) cs.length = true) (h1 : v.oneCell' = true)
    (k : TrL B P ops l ((n, Blk b (cs.set off v) T) :: M) Γ Q) : TrL B P ops (o :: l) M Γ Q :=
  TrL.store n (vs := [v]) ho hg hd hx hy hm hn hv hs (by simpa [Nat.ble_eq] using hl) (by simp [h1]) k
theorem TrL.storeA (n : Nat) {b off : Nat} {T T' : TypeId} {x y : Operand} {vs cs : List Value} (ho : o.op = .store T' x y) (hg : o.guard = none) (hd : o.dst = none) (hx : Has M Γ x (is (.pointer (some ⟨b, off, none⟩)))) (hy : Has M Γ y (is (.agg vs.toArray)))
    (hm : M.get n = some (Blk b cs T)) (hn : Nat.ble 2 n = true) (hs : sizeB P T' vs.length = true) (hl : Nat.ble (off + vs.length) cs.length = true) (h1 : vs.all (·.oneCell') = true)
    (k : TrL B P ops l ((n, Blk b (setAt cs off vs) T) :: M) Γ Q) : TrL B P ops (o :: l) M Γ Q :=
  TrL.store n (vs := vs) ho hg hd hx hy hm hn rfl hs (by simpa [Nat.ble_eq] using hl) h1 k
/-- the whole variable anew -/
theorem TrL.storeW (n : Nat) {b : Nat} {T T' : TypeId} {x y : Operand} {vs cs : List Value} (ho : o.op = .store T' x y) (hg : o.guard = none) (hd : o.dst = none) (hx : Has M Γ x (is (.pointer (some ⟨b, 0, none⟩)))) (hy : Has M Γ y (is (.agg vs.toArray)))
    (hm : M.get n = some (Blk b cs T)) (hn : Nat.ble 2 n = true) (hs : sizeB P T' vs.length = true) (hl : Nat.beq vs.length cs.length = true) (h1 : vs.all (·.oneCell') = true)
    (k : TrL B P ops l ((n, Blk b vs T) :: M) Γ Q) : TrL B P ops (o :: l) M Γ Q := by
  refine TrL.storeA n ho hg hd hx hy hm hn hs ?_ h1 ?_
  · rw [Nat.zero_add, beq_true hl]; simp
  · rw [setAt_all _ _ (beq_true hl)]; exact k
theorem TrL.boxW (n : Nat) {T : TypeId} {x : Operand} {cs : List Value} (ho : o.op = .box T x) (hg : o.guard = none) (hx : Has M Γ x (is (.agg cs.toArray))) (d : Nat) (he : o.dst = some d) (hd : Nat.blt d B.N = true) (hn : Nat.ble 2 n = true)
    (k : ∀ b, TrL B P ops l ((n, Blk b cs T) :: M) ((d, is (.pointer (some ⟨b, 0, none⟩))) :: Γ) Q) : TrL B P ops (o :: l) M Γ Q :=
  TrL.box n (cs := cs) ho hg hx rfl (by rw [he]; exact hd) hn fun b => by rw [he]; exact k b
theorem TrL.box1 (n : Nat) {T : TypeId} {x : Operand} {v : Value} (ho : o.op = .box T x) (hg : o.guard = none) (hx : Has M Γ x (is v)) (hv : v.cells = #[v]) (d : Nat) (he : o.dst = some d) (hd : Nat.blt d B.N = true) (hn : Nat.ble 2 n = true)
    (k : ∀ b, TrL B P ops l ((n, Blk b [v] T) :: M) ((d, is (.pointer (some ⟨b, 0, none⟩))) :: Γ) Q) : TrL B P ops (o :: l) M Γ Q :=
  TrL.box n (cs := [v]) ho hg hx hv (by rw [he]; exact hd) hn fun b => by rw [he]; exact k b
theorem TrL.allocS (n : Nat) {T : TypeId} {zs : List Value} (ho : o.op = .alloc T) (hg : o.guard = none) (hz : ((P.info? T).bind (·.zero)).map (·.cells.toList) = some zs) (d : Nat) (he : o.dst = some d) (hd : Nat.blt d B.N = true) (hn : Nat.ble 2 n = true)
    (k : ∀ b, TrL B P ops l ((n, Blk b zs T) :: M) ((d, is (.pointer (some ⟨b, 0, none⟩))) :: Γ) Q) : TrL B P ops (o :: l) M Γ Q :=
  TrL.alloc n ho hg hz (by rw [he]; exact hd) hn fun b => by rw [he]; exact k b
theorem OpM.loadB (n : Nat) {b off : Nat} {T T' : TypeId} {x : Operand} {c : Value} {cs ds : List Value} (ho : o.op = .load T' x) (hx : Has M Γ x (is (.pointer (some ⟨b, off, none⟩)))) (hm : M.get n = some (Blk b cs T)) (hn : Nat.ble 2 n = true)
    (hc : cs.drop off = c :: ds) (ht : scalarB P T' = true) : OpM P M Γ o (is c) :=
  OpM.isv fun a w κ m hr => by
    obtain ⟨hb, hh⟩ := (m n _ (by simpa [Nat.ble_eq] using hn) hm).now
    have h0 : w.cell? ⟨b, off, none⟩ = some c := by
      rw [cell_of_row w b off cs.toArray T (0, 0) hh]
      have : cs[off]? = (cs.drop off)[0]? := by simp
      simp [this, hc]
    unfold execOp
    rw [ho]
    simp only [Instr.loadAt, hx.val m hr (by simp [ho, Op.operands]), Instr.sureAddr, Sem.run_bind, Sem.run_pure, Result.andThen_ok, run_loadVar1 ht h0]
theorem blk_cells {w : World} {b off : Nat} {cs : List Value} {T : TypeId} (h : w.heap[b]? = some (.cells cs.toArray T (0, 0))) : CellsAt w ⟨b, off, none⟩ (cs.drop off) := by
  intro j u hj
  rw [Addr.add_lit, cell_of_row w b (off + j) cs.toArray T (0, 0) h]
  simpa using hj
theorem OpM.loadBN (n : Nat) {b off k : Nat} {T T' : TypeId} {x : Operand} {cs ds : List Value} (ho : o.op = .load T' x) (hx : Has M Γ x (is (.pointer (some ⟨b, off, none⟩)))) (hm : M.get n = some (Blk b cs T)) (hn : Nat.ble 2 n = true)
    (hc : (cs.drop off).take k = ds) (ht : aggB P T' k = true) (hk : ds.length = k) : OpM P M Γ o (is (.agg ds.toArray)) :=
  OpM.isv fun a w κ m hr => by
    obtain ⟨hb, hh⟩ := (m n _ (by simpa [Nat.ble_eq] using hn) hm).now
    have hl := run_loadVarN (P := P) (w := w) (n := k) (cs := ds) ht hk (hc ▸ (blk_cells hh).take k)
    unfold execOp
    rw [ho]
    simp only [Instr.loadAt, hx.val m hr (by simp [ho, Op.operands]), Instr.sureAddr, Sem.run_bind, Sem.run_pure, Result.andThen_ok, hl]
theorem ResV.cellB (n : Nat) {t b off k : Nat} {ty T : TypeId} {cs ds : List Value} (h : Γ.get t = some (is (.pointer (some ⟨b, off, none⟩)))) (hm : M.get n = some (Blk b cs T)) (hn : Nat.ble 2 n = true) (hc : (cs.drop off).take k = ds) (ht : aggB P ty k = true) (hk : ds.length = k) :
    ResV P M Γ (.cell t ty) (is (.agg ds.toArray)) := fun a w κ _ m r => by
  obtain ⟨hb, hh⟩ := (m n _ (by simpa [Nat.ble_eq] using hn) hm).now
  have hl := run_loadVarN (P := P) (w := w) (n := k) (cs := ds) ht hk (hc ▸ (blk_cells hh).take k)
  refine ⟨.agg ds.toArray, ?_, Box.is⟩
  have e2 : a.tmps.getD t undef = .pointer (some ⟨b, off, none⟩) := (r t _ h).now
  simp only [e2, asAddr, Sem.run_bind, Sem.run_pure, Result.andThen_ok, hl]
theorem ResV.cellB1 (n : Nat) {t b off : Nat} {ty T : TypeId} {c : Value} {cs ds : List Value} (h : Γ.get t = some (is (.pointer (some ⟨b, off, none⟩)))) (hm : M.get n = some (Blk b cs T)) (hn : Nat.ble 2 n = true) (hc : cs.drop off = c :: ds) (ht : scalarB P ty = true) :
    ResV P M Γ (.cell t ty) (is c) := fun a w κ _ m r => by
  obtain ⟨hb, hh⟩ := (m n _ (by simpa [Nat.ble_eq] using hn) hm).now
  have h0 : w.cell? ⟨b, off, none⟩ = some c := by
    rw [cell_of_row w b off cs.toArray T (0, 0) hh]
    have : cs[off]? = (cs.drop off)[0]? := by simp
    simp [this, hc]
  refine ⟨c, ?_, Box.is⟩
  have e2 : a.tmps.getD t undef = .pointer (some ⟨b, off, none⟩) := (r t _ h).now
  simp only [e2, asAddr, Sem.run_bind, Sem.run_pure, Result.andThen_ok, run_loadVar1 ht h0]

/-! ### 3. A slice of this call's own, that grows -/
structure PRep (τ : Type) where
  n : Nat
  enc : τ → List Value
  len : ∀ x, (enc x).length = n
  one : ∀ x, (enc x).all (·.oneCell') = true
  pos : 0 < n
  d : τ
def PRep.rep {τ : Type} (K : PRep τ) : Rep τ := ⟨K.n, fun x => (K.enc x).map is, fun x => by simp [K.len], K.d⟩
def Own {τ : Type} (K : PRep τ) (e : TypeId) (v : Value) (xs : List τ) : RP := fun F w => w.ownsRow 0 e K.n v xs.length (xs.flatMap K.enc) ∧ ∀ g, v.ownBlock = some g → F g
theorem flat_get' {τ : Type} (K : PRep τ) : ∀ (xs : List τ) (i j : Nat) (x : τ) (u : Value), xs[i]? = some x → (K.enc x)[j]? = some u → (xs.flatMap K.enc)[i * K.n + j]? = some u
  | [], i, j, x, u, h, _ => by simp at h
  | x0 :: xs, 0, j, x, u, h, hu => by
    simp only [List.getElem?_cons_zero, Option.some.injEq] at h
    subst h
    rw [Nat.zero_mul, Nat.zero_add, List.flatMap_cons, List.getElem?_append_left (by
      rcases Nat.lt_or_ge j (K.enc x0).length with h | h
      · exact h
      · rw [List.getElem?_eq_none h] at hu; cases hu)]
    exact hu
  | x0 :: xs, i + 1, j, x, u, h, hu => by
    have hsz := K.len x0
    rw [List.flatMap_cons, List.getElem?_append_right (by rw [hsz, Nat.succ_mul]; omega)]
    have := flat_get' K xs i j x u (by simpa using h) hu
    rw [show (i + 1) * K.n + j - (K.enc x0).length = i * K.n + j by rw [hsz, Nat.succ_mul]; omega]
    exact this
theorem Own.lst {τ : Type} {K : PRep τ} {e : TypeId} {v : Value} {xs : List τ} {F : Foot} {w : World} (h : Own K e v xs F w) : Lst K.rep xs v w := by
  obtain ⟨⟨hl, h⟩, _⟩ := h
  rcases h with ⟨rfl, h0⟩ | ⟨g, cap, cur, rfl, _, hh, hn, _, hc, ht⟩
  · have : xs = [] := List.eq_nil_of_length_eq_zero h0
    subst this
    exact ⟨none, 0, rfl, Nat.le_refl _, fun h => absurd h (by simp)⟩
  · refine ⟨_, cap, rfl, hn, fun _ => ⟨_, rfl, fun i x hx => ⟨K.enc x, All2.of_is _, fun j u hu => ?_⟩⟩⟩
    have h1 := flat_get' K xs i j x u hx hu
    rw [add_add, Addr.add_lit, Nat.zero_add, cell_of_row w g _ cur e (0, 0) hh]
    rw [← ht, List.getElem?_take] at h1
    have e1 : K.rep.n = K.n := rfl
    rw [e1]
    split at h1
    · simpa using h1
    · cases h1

/-- a label whose blocks nobody asks for any more is given to the others -/
theorem St.relabel {a : Act} {w : World} (s : St B M Γ a w) {n : Nat} (hn : 2 ≤ n) : ∃ κ, Good B κ w ∧ (∀ b, κ b ≠ n) ∧ RegOk (live κ) Γ a w ∧ ∀ l φ, 2 ≤ l → l ≠ n → M.get l = some φ → ResOk κ l φ w := by
  obtain ⟨κ, g, m, r⟩ := s.ex
  have hlive : live (fun b => if κ b = n then 1 else κ b) = live κ := funext fun b => propext (by
    simp only [live]; split <;> omega)
  refine ⟨fun b => if κ b = n then 1 else κ b, ⟨fun b hb => ?_, g.keeps, fun b hb h2 => ?_⟩, fun b => ?_, ?_, fun l φ h2 hne hl => ?_⟩
  · show (if κ b = n then 1 else κ b) = 0
    have := g.wf b hb
    rw [if_neg (by omega)]; exact this
  · show (if κ b = n then 1 else κ b) = _
    have := g.old b hb h2
    rw [if_neg (by omega)]; exact this
  · show (if κ b = n then 1 else κ b) ≠ n
    split <;> omega
  · rw [hlive]; exact r
  · have h := m l φ h2 hl
    intro w' k
    have e1 : (fun b => (if κ b = n then 1 else κ b) = l) = fun b => κ b = l := funext fun b => propext (by split <;> omega)
    show φ (fun b => (if κ b = n then 1 else κ b) = l) w'
    rw [e1]
    refine h w' (k.mono fun b _ hb => ?_)
    have : (if κ b = n then 1 else κ b) ≠ 0 ∧ (if κ b = n then 1 else κ b) ≠ l := hb
    split at this <;> omega
theorem St.fresh {a : Act} {w : World} (s : St B M Γ a w) {n : Nat} (hn : 2 ≤ n) {φ : RP} (h : ∀ κ, (∀ b, κ b ≠ n) → RegOk (live κ) Γ a w → ResOk κ n φ w) : St B ((n, φ) :: M) Γ a w := by
  have s' := s
  obtain ⟨κ, g, h0, r, m⟩ := s.relabel hn
  refine ⟨s'.size, s'.defers, κ, g, fun l ψ h2 hl => ?_, r⟩
  by_cases e : l = n
  · subst e
    simp only [Mem.get, Nat.beq_eq, decide_true, cond_true] at hl
    have : ψ = φ := by simpa using hl.symm
    subst this
    exact h κ h0 r
  · have : Nat.beq n l = false := by
      cases h : Nat.beq n l with
      | false => rfl
      | true => exact absurd (beq_true h).symm e
    simp only [Mem.get, this, cond_false] at hl
    exact m l ψ h2 e hl
/-- an empty slice of this call's own -/
theorem St.own0 {τ : Type} (K : PRep τ) (e : TypeId) {a : Act} {w : World} (s : St B M Γ a w) {n : Nat} (hn : 2 ≤ n) : St B ((n, Own K e (.slice none 0 0) []) :: M) Γ a w :=
  s.fresh hn fun κ _ _ w' _ => ⟨World.ownsRow_nil w' 0 e K.n, fun g hg => by simp [Value.ownBlock] at hg⟩
theorem Tr.own0 {c : Code} {τ : Type} (n : Nat) (K : PRep τ) (e : TypeId) (hn : Nat.ble 2 n = true) (k : Tr B P ((n, Own K e (.slice none 0 0) []) :: M) Γ c Q) : Tr B P M Γ c Q := fun a w s => k a w (s.own0 K e (by simpa [Nat.ble_eq] using hn))
theorem Fin.own0 {x : Exit} {τ : Type} (n : Nat) (K : PRep τ) (e : TypeId) (hn : Nat.ble 2 n = true) (k : Fin B ((n, Own K e (.slice none 0 0) []) :: M) Γ x Q) : Fin B M Γ x Q := fun a w s => k a w (s.own0 K e (by simpa [Nat.ble_eq] using hn))
/-- a value is given a name -/
theorem St.name {a : Act} {w : World} (s : St B M Γ a w) {n t : Nat} (hn : 2 ≤ n) (ht : Γ.get t = some R) : ∃ v, St B ((n, Fact R v) :: M) ((t, is v) :: Γ) a w := by
  refine ⟨a.eval (.tmp t), ?_⟩
  have s1 := s.fresh (φ := Fact R (a.eval (.tmp t))) hn fun κ h0 r w' k => ⟨fun b => h0 b, (r t R ht) w' (k.mono fun b _ hb => hb.1)⟩
  obtain ⟨κ, g, m, r⟩ := s1.ex
  refine ⟨s1.size, s1.defers, κ, g, m, fun u R' hu => ?_⟩
  simp only [Env.get] at hu
  cases hb : Nat.beq t u with
  | true =>
    rw [hb] at hu
    simp only [cond_true, Option.some.injEq] at hu
    subst hu
    obtain rfl := beq_true hb
    exact Box.is
  | false =>
    rw [hb] at hu
    exact r u R' hu
theorem Tr.name {c : Code} (n t : Nat) (hn : Nat.ble 2 n = true) (ht : Γ.get t = some R) (k : ∀ v, Tr B P ((n, Fact R v) :: M) ((t, is v) :: Γ) c Q) : Tr B P M Γ c Q := fun a w s =>
  let ⟨v, s'⟩ := s.name (n := n) (by simpa [Nat.ble_eq] using hn) ht
  k v a w s'
theorem TrL.name (n t : Nat) (hn : Nat.ble 2 n = true) (ht : Γ.get t = some R) (k : ∀ v, TrL B P ops l ((n, Fact R v) :: M) ((t, is v) :: Γ) Q) : TrL B P ops l M Γ Q := fun a w s =>
  let ⟨v, s'⟩ := s.name (n := n) (by simpa [Nat.ble_eq] using hn) ht
  k v a w s'
/-- from now on nobody writes it any more -/
theorem St.freeze {τ : Type} {K : PRep τ} {e : TypeId} {v : Value} {xs : List τ} {a : Act} {w : World} (s : St B M Γ a w) {n t : Nat} (hn : 2 ≤ n) (hm : M.get n = some (Own K e v xs)) (ht : Γ.get t = some (is v)) : St B ((n, anyR) :: M) ((t, Lst K.rep xs) :: Γ) a w := by
  obtain ⟨κ, g, m, r⟩ := s.ex
  have turn : Turn (fun x => x = n) κ (fun b => if κ b = n then 0 else κ b) w w :=
    ⟨by omega, by omega, Keeps.refl _ _, fun b hb => by show (if κ b = n then 0 else κ b) = 0; rw [g.wf b hb]; split <;> rfl, fun b _ h0 => by show (if κ b = n then 0 else κ b) = 0; rw [h0]; split <;> rfl,
      fun l hl h0 b => by show (if κ b = n then 0 else κ b) = l ↔ _; split <;> omega⟩
  refine ⟨s.size, s.defers, _, turn.good g (by rintro l rfl; exact hn), m.turn turn (fun l' φ h2 hg hne => ?_) (fun l' φ h2 hg hs => ?_), fun u R' hu => ?_⟩
  · have : Nat.beq n l' = false := by
      cases h : Nat.beq n l' with
      | false => rfl
      | true => exact absurd (beq_true h).symm hne
    simpa [Mem.get, this] using hg
  · subst hs
    simp only [Mem.get, Nat.beq_eq, decide_true, cond_true] at hg
    have : φ = anyR := by simpa using hg.symm
    subst this
    exact fun _ _ => trivial
  · simp only [Env.get] at hu
    cases hb : Nat.beq t u with
    | true =>
      rw [hb] at hu
      simp only [cond_true, Option.some.injEq] at hu
      subst hu
      obtain rfl := beq_true hb
      rw [(r t _ ht).now]
      refine fun w' k => (m n _ hn hm w' (k.mono fun b _ hb => ?_)).lst
      have : (if κ b = n then 0 else κ b) ≠ 0 := hb
      split at this <;> omega
    | false =>
      rw [hb] at hu
      exact r.turn turn u R' hu
theorem Tr.freeze {c : Code} {τ : Type} {K : PRep τ} {e : TypeId} {v : Value} {xs : List τ} (n t : Nat) (hn : Nat.ble 2 n = true) (hm : M.get n = some (Own K e v xs)) (ht : Γ.get t = some (is v)) (k : Tr B P ((n, anyR) :: M) ((t, Lst K.rep xs) :: Γ) c Q) : Tr B P M Γ c Q :=
  fun a w s => k a w (s.freeze (by simpa [Nat.ble_eq] using hn) hm ht)
theorem Fin.freeze {x : Exit} {τ : Type} {K : PRep τ} {e : TypeId} {v : Value} {xs : List τ} (n t : Nat) (hn : Nat.ble 2 n = true) (hm : M.get n = some (Own K e v xs)) (ht : Γ.get t = some (is v)) (k : Fin B ((n, anyR) :: M) ((t, Lst K.rep xs) :: Γ) x Q) : Fin B M Γ x Q :=
  fun a w s => k a w (s.freeze (by simpa [Nat.ble_eq] using hn) hm ht)

theorem owns_block {w w' : World} {base : Nat} {e : TypeId} {size n : Nat} {v : Value} {xs : List Value} (h : w.ownsRow base e size v n xs) (hb : ∀ g, v.ownBlock = some g → w'.heap[g]? = w.heap[g]?) : w'.ownsRow base e size v n xs := by
  obtain ⟨h1, h2⟩ := h
  refine ⟨h1, ?_⟩
  rcases h2 with h2 | ⟨g, cap, cur, rfl, hg, hh, r⟩
  · exact .inl h2
  · exact .inr ⟨g, cap, cur, rfl, hg, by rw [hb g rfl]; exact hh, r⟩
theorem append_block {w w' : World} {t ty e : TypeId} {i : TypeInfo} {z : Value} (ht : P.underlying t = some (.slice e)) (hi : P.info? e = some i) (hz : i.zero = some z) {v v' : Value} {n : Nat} {xs : List Value} (hown : w.ownsRow 0 e i.size v n xs)
    (a : Addr) {m c : Nat} {news : List Value} (hl : news.length = m * i.size) (hnews : ∀ j u, news[j]? = some u → w.cell? (a.add j) = some u) (h1 : ∀ u ∈ news, u.oneCell' = true) (hm : 0 < m)
    (h63 : n + m ≤ maxLen) (hbytes : (n + m) * i.bytes ≤ 140737488355328) (hrun : (Builtin.append_ #[t, t] ty #[v, .slice (some a) m c]).run P w = .ok v' w') : v'.ownBlock = v.ownBlock ∨ v'.ownBlock = some w.heap.size := by
  simp only [maxLen] at h63
  rcases hown.2 with ⟨rfl, rfl⟩ | ⟨g, cap, cur, rfl, hbg, hg, hnc, hcm, hcs, htake⟩
  · have hr := run_append_nil (P := P) w t ty e i z ht hi hz a m c news hl hnews hm (by omega) (by rw [Nat.zero_add] at hbytes; omega)
    rw [hr] at hrun
    simp only [Result.ok.injEq] at hrun
    rw [← hrun.1]
    exact .inr rfl
  · by_cases hroom : n + m ≤ cap
    · have hfit : n * i.size + news.length ≤ cur.size := by rw [hl, hcs, ← Nat.add_mul]; exact Nat.mul_le_mul_right _ hroom
      have hr := run_append_room (P := P) w t ty e i ht hi g n cap cur hg a m c news hl hnews h1 hroom hfit
      rw [hr] at hrun
      simp only [Result.ok.injEq] at hrun
      rw [← hrun.1]
      exact .inl rfl
    · have holds : ∀ j u, xs[j]? = some u → w.cell? ((⟨g, 0, none⟩ : Addr).add j) = some u := hown.cells (g := g) rfl
      have hr := run_append_grow (P := P) w t ty e i z ht hi hz ⟨g, 0, none⟩ n cap xs hown.1 holds a m c news hl hnews (by omega) (by omega) (growslice_fits (by omega) hbytes)
      rw [hr] at hrun
      simp only [Result.ok.injEq] at hrun
      rw [← hrun.1]
      exact .inr rfl
theorem TrL.append {τ : Type} {K : PRep τ} (n : Nat) {t e : TypeId} {bytes : Nat} {x y : Operand} {v : Value} {xs ys : List τ} (ho : o.op = .call ⟨.builtin .append, #[x, y], #[t, t]⟩) (hg : o.guard = none) (hd : dstOk o.dst B.N = true)
    (hx : Has M Γ x (is v)) (hm : M.get n = some (Own K e v xs)) (hn : Nat.ble 2 n = true) (hy : Has M Γ y (Lst K.rep ys)) (hu : P.underlying t = some (.slice e)) (he : elemB P e K.n bytes = true) (hpos : 0 < ys.length)
    (hlen : (xs.length + ys.length) * bytes ≤ 140737488355328) (hlen2 : xs.length + ys.length ≤ maxLen)
    (k : ∀ v', TrL B P ops l ((n, Own K e v' (xs ++ ys)) :: M) (Γ.put o.dst (is v')) Q) : TrL B P ops (o :: l) M Γ Q := by
  intro a w s
  obtain ⟨κ, g, m, r⟩ := s.ex
  have hn' : 2 ≤ n := by simpa [Nat.ble_eq] using hn
  obtain ⟨hown, hF⟩ := (m n _ hn' hm).now
  have hin : y ∈ o.op.operands.toList := by rw [ho]; simp [Op.operands, Call.operands]
  obtain ⟨A, c, ev, hc, hA⟩ := (hy.box m (r.on o.op.operands.toList) hin).now
  obtain ⟨ad, rfl, hl⟩ := hA hpos
  have hnews : ∀ j u, (ys.flatMap K.enc)[j]? = some u → w.cell? (ad.add j) = some u := by
    intro j u hj
    have hjl : j < (ys.flatMap K.enc).length := by
      rcases Nat.lt_or_ge j (ys.flatMap K.enc).length with h | h
      · exact h
      · rw [List.getElem?_eq_none h] at hj; cases hj
    have hfl : ∀ zs : List τ, (zs.flatMap K.enc).length = zs.length * K.n := by
      intro zs
      induction zs with
      | nil => simp
      | cons z zs ih => rw [List.flatMap_cons, List.length_append, ih, K.len, List.length_cons, Nat.succ_mul]; omega
    rw [hfl] at hjl
    have hi : j / K.n < ys.length := Nat.div_lt_of_lt_mul (by rw [Nat.mul_comm]; exact hjl)
    obtain ⟨cs, hcs, hat⟩ := hl (j / K.n) ys[j / K.n] (by simp [hi])
    have : cs = K.enc ys[j / K.n] := All2.is hcs
    subst this
    have hr : j % K.n < (K.enc ys[j / K.n]).length := by rw [K.len]; exact Nat.mod_lt _ K.pos
    have h1 := flat_get' K ys (j / K.n) (j % K.n) ys[j / K.n] _ (by simp [hi]) (List.getElem?_eq_getElem hr)
    have hj' : j / K.n * K.n + j % K.n = j := by rw [Nat.mul_comm]; exact Nat.div_add_mod j K.n
    rw [hj', hj] at h1
    have h2 := hat (j % K.n) _ (List.getElem?_eq_getElem hr)
    rw [add_add] at h2
    have e1 : K.rep.n = K.n := rfl
    rw [e1, hj'] at h2
    rw [h2, h1]
  have hones : ∀ u ∈ ys.flatMap K.enc, u.oneCell' = true := by
    intro u hu'
    obtain ⟨z, _, hz⟩ := List.mem_flatMap.1 hu'
    exact List.all_eq_true.1 (K.one z) u hz
  have hfl : (ys.flatMap K.enc).length = ys.length * K.n := by
    clear hnews hones hl hA hc ev hlen hlen2 hpos hy k
    induction ys with
    | nil => simp
    | cons z zs ih => rw [List.flatMap_cons, List.length_append, ih, K.len, List.length_cons, Nat.succ_mul]; omega
  unfold elemB at he
  cases hi : P.info? e with
  | none => rw [hi] at he; cases he
  | some i =>
    rw [hi] at he
    simp only [Bool.and_eq_true] at he
    cases hz : i.zero with
    | none => rw [hz] at he; simp at he
    | some z =>
      rw [hz] at he
      obtain ⟨v', w', hrun, hown', hgrow, _⟩ := run_append_own (P := P) (w := w) 0 t o.type e i z K.n bytes hu hi hz (beq_true he.1.1) (beq_true he.1.2) (beq_true he.2) K.pos v xs.length (xs.flatMap K.enc) hown ad ys.length c (ys.flatMap K.enc) hfl hnews hones hlen2 hlen (Nat.zero_le _)
      refine wpList_step fun K' hK => ?_
      rw [if_pos (by simp [Region.wanted, hg])]
      unfold Oper.wp execOp
      rw [ho]
      have hxv := hx.val m (r.on o.op.operands.toList) (by rw [ho]; simp [Op.operands, Call.operands])
      simp only [resolve, invoke, builtin, Sem.run_bind, Sem.run_pure, Result.andThen_ok, List.map_toArray, List.map_cons, List.map_nil, hxv, ev, hrun]
      refine hK _ _ (k v' _ _ ?_)
      -- the new labels: a new block bears n
      have hkeep : Keeps (fun x => κ x = n) w w' := ⟨hgrow.size, fun b hb hne => hgrow.block b hb fun e => hne (hF b e.symm), hgrow.tape, hgrow.os, hgrow.output⟩
      have turn : Turn (fun x => x = n) κ (fun b => if w.heap.size ≤ b ∧ b < w'.heap.size then n else κ b) w w' :=
        ⟨by omega, by omega, hkeep, fun b hb => by
            show (if _ then n else κ b) = 0
            rw [if_neg (by omega)]; exact g.wf b (Nat.le_trans hgrow.size hb),
          fun b hb h0 => by show (if _ then n else κ b) = 0; rw [if_neg (by omega)]; exact h0,
          fun l' hl' h0 b => by
            show (if _ then n else κ b) = l' ↔ _
            by_cases hb : w.heap.size ≤ b ∧ b < w'.heap.size
            · rw [if_pos hb, g.wf b hb.1]; exact ⟨fun e => absurd e.symm hl', fun e => absurd e.symm h0⟩
            · rw [if_neg hb]⟩
      have hF' : ∀ gb, v'.ownBlock = some gb → (if w.heap.size ≤ gb ∧ gb < w'.heap.size then n else κ gb) = n := fun gb hgb => by
        have hlt := (hown'.lt gb hgb).2
        by_cases hnew : w.heap.size ≤ gb
        · rw [if_pos ⟨hnew, hlt⟩]
        · rw [if_neg (by omega)]
          rcases append_block (P := P) hu hi hz (v := v) (by rw [beq_true he.1.1]; exact hown) ad (by rw [beq_true he.1.1]; exact hfl) hnews hones hpos hlen2 (by rw [beq_true he.1.2]; exact hlen) hrun with e | e
          · exact hF gb (e ▸ hgb)
          · rw [hgb] at e; simp only [Option.some.injEq] at e; omega
      refine ⟨by rw [put_size]; exact s.size, by rw [put_defers]; exact s.defers, _, turn.good g (by rintro l rfl; exact hn'), m.turn turn (fun l' φ h2 hg hne => ?_) (fun l' φ h2 hg hs => ?_), (r.turn turn).put (by rw [s.size]; exact dstOk.to hd) Box.is⟩
      · have : Nat.beq n l' = false := by
          cases h : Nat.beq n l' with
          | false => rfl
          | true => exact absurd (beq_true h).symm hne
        simpa [Mem.get, this] using hg
      · subst hs
        simp only [Mem.get, Nat.beq_eq, decide_true, cond_true] at hg
        have : φ = Own K e v' (xs ++ ys) := by simpa using hg.symm
        subst this
        intro w'' k'
        refine ⟨?_, hF'⟩
        rw [List.flatMap_append, List.length_append]
        exact owns_block hown' fun gb hgb => k'.block gb (hown'.lt gb hgb).2 (by rintro ⟨_, h2⟩; exact h2 (hF' gb hgb))
theorem TrL.appendS {τ : Type} {K : PRep τ} (n : Nat) {t e : TypeId} {bytes : Nat} {x y : Operand} {v : Value} {xs ys : List τ} (ho : o.op = .call ⟨.builtin .append, #[x, y], #[t, t]⟩) (hg : o.guard = none) (d : Nat) (hed : o.dst = some d) (hd : Nat.blt d B.N = true)
    (hx : Has M Γ x (is v)) (hm : M.get n = some (Own K e v xs)) (hn : Nat.ble 2 n = true) (hy : Has M Γ y (Lst K.rep ys)) (hu : P.underlying t = some (.slice e)) (he : elemB P e K.n bytes = true) (hpos : 0 < ys.length)
    (hlen : (xs.length + ys.length) * bytes ≤ 140737488355328) (hlen2 : xs.length + ys.length ≤ maxLen)
    (k : ∀ v', TrL B P ops l ((n, Own K e v' (xs ++ ys)) :: M) ((d, is v') :: Γ) Q) : TrL B P ops (o :: l) M Γ Q :=
  TrL.append n ho hg (by rw [hed]; exact hd) hx hm hn hy hu he hpos hlen hlen2 fun v' => by rw [hed]; exact k v'
end
end Go.Proofs.Ytemkogoclljhpaa.L
