/- This call's own memory: variables that are written, slices that grow. -/
import Derived.Test.YtemkogoclljhpaaLE
namespace Go.Proofs.Ytemkogoclljhpaa.L
open Go
set_option linter.unusedVariables false
set_option linter.unusedSimpArgs false

/-! ### 1. New blocks -/
def Blk (b : Nat) (cs : List Value) (T : TypeId) : RP := fun F L w => F b ∧ w.heap[b]? = some (.cells cs.toArray T (0, 0))
def anyR : RP := fun _ _ _ => True
theorem alloc_turn {κ : Nat → Nat} {w : World} (hw : Wf κ w) {l : Nat} (hl : 2 ≤ l) (ob : Obj) : Turn (fun x => x = l) κ (fun b => if b = w.heap.size then l else κ b) w (w.alloc ob) :=
  ⟨by omega, by omega, (keeps_alloc w ob).none, fun b hb => by
      have : w.heap.size + 1 ≤ b := by simpa using hb
      show (if b = w.heap.size then l else κ b) = 0
      rw [if_neg (by omega)]; exact hw b (by omega),
    fun b hb h0 => by show (if b = w.heap.size then l else κ b) = 0; rw [if_neg (by omega)]; exact h0,
    fun l' hl' h0 b => by
      show (if b = w.heap.size then l else κ b) = l' ↔ _
      by_cases hb : b = w.heap.size
      · subst hb; rw [if_pos rfl, hw w.heap.size (Nat.le_refl _)]; exact ⟨fun e => absurd e.symm hl', fun e => absurd e.symm h0⟩
      · rw [if_neg hb]⟩
theorem St.alloc {B : Base} {M : Mem} {Γ : Env} {a : Act} {w : World} (s : St B M Γ a w) {l : Nat} (hl : B.own l = true) {d : Option Nat} (hd : dstOk d B.N = true) (cs : List Value) (T : TypeId) :
    St B ((l, Blk w.heap.size cs T) :: M) (Γ.put d (is (.pointer (some ⟨w.heap.size, 0, none⟩)))) (a.put d (.pointer (some ⟨w.heap.size, 0, none⟩))) (w.alloc (.cells cs.toArray T)) := by
  obtain ⟨κ, g, m, r⟩ := s.ex
  have t := alloc_turn g.wf (g.two _ hl) (.cells cs.toArray T)
  refine ⟨by rw [put_size]; exact s.size, by rw [put_defers]; exact s.defers, _, t.good g (by rintro l' rfl; exact hl), m.turn t (fun l' φ h2 hg hn => ?_) (fun l' φ h2 hg hs => ?_), (r.turn t).put (by rw [s.size]; exact dstOk.to hd) Box.is⟩
  · have : Nat.beq l l' = false := by
      cases h : Nat.beq l l' with
      | false => rfl
      | true => exact absurd (beq_true h).symm hn
    simpa [Mem.get, this] using hg
  · subst hs
    simp only [Mem.get, Nat.beq_eq, decide_true, cond_true] at hg
    have : φ = Blk w.heap.size cs T := by simpa using hg.symm
    subst this
    intro L w' hL k
    refine ⟨by simp, ?_⟩
    rw [k.block _ (by simp) (by simp)]
    exact heap_alloc_new w _

section
variable {B : Base} {P : Program} {M : Mem} {Γ : Env} {Q : Exit → Act → World → Prop} {ops : Array Oper} {o : Oper} {l : List Oper} {R : VP}

theorem TrL.alloc (n : Nat) {T : TypeId} {zs : List Value} (ho : o.op = .alloc T) (hg : o.guard = none) (hz : ((P.info? T).bind (·.zero)).map (·.cells.toList) = some zs) (hd : dstOk o.dst B.N = true) (hn : B.own n = true)
    (k : ∀ b, TrL B P ops l ((n, Blk b zs T) :: M) (Γ.put o.dst (is (.pointer (some ⟨b, 0, none⟩)))) Q) : TrL B P ops (o :: l) M Γ Q := by
  intro a w s
  refine wpList_step fun K hK => ?_
  rw [if_pos (by simp [Region.wanted, hg])]
  unfold Oper.wp execOp
  rw [ho]
  cases hi : P.info? T with
  | none => rw [hi] at hz; simp at hz
  | some i =>
    rw [hi] at hz
    simp only [Option.bind_some, Option.map_eq_some_iff] at hz
    obtain ⟨z, hz1, hz2⟩ := hz
    have hc : z.cells = zs.toArray := by rw [← hz2]
    simp only [Instr.alloc, zeroValue, typeInfo, hi, Sem.run_bind, run_program, Result.andThen_ok, Sem.run_pure, hz1, newVar, newRow, run_newObj, World.alloc_eq, hc]
    exact hK _ _ (k _ _ _ (s.alloc (by simpa [Nat.ble_eq] using hn) hd zs T))
theorem TrL.box (n : Nat) {T : TypeId} {x : Operand} {v : Value} {cs : List Value} (ho : o.op = .box T x) (hg : o.guard = none) (hx : Has M Γ x (is v)) (hc : v.cells = cs.toArray) (hd : dstOk o.dst B.N = true) (hn : B.own n = true)
    (k : ∀ b, TrL B P ops l ((n, Blk b cs T) :: M) (Γ.put o.dst (is (.pointer (some ⟨b, 0, none⟩)))) Q) : TrL B P ops (o :: l) M Γ Q := by
  intro a w s
  have s' := s
  obtain ⟨κ, g, m, r⟩ := s.ex
  refine wpList_step fun K hK => ?_
  rw [if_pos (by simp [Region.wanted, hg])]
  unfold Oper.wp execOp
  rw [ho]
  simp only [hx.val m (r.on o.op.operands.toList) (by simp [ho, Op.operands]), Instr.box, newVar, newRow, Sem.run_bind, run_newObj, Result.andThen_ok, Sem.run_pure, World.alloc_eq, hc]
  exact hK _ _ (k _ _ _ (s'.alloc (by simpa [Nat.ble_eq] using hn) hd cs T))

/-! ### 2. Loads and stores -/
def setAt : List Value → Nat → List Value → List Value
  | cs, _, [] => cs
  | cs, off, v :: vs => setAt (cs.set off v) (off + 1) vs
theorem setAt_length : ∀ (vs cs : List Value) (off : Nat), (setAt cs off vs).length = cs.length
  | [], _, _ => rfl
  | v :: vs, cs, off => by rw [setAt, setAt_length]; simp
theorem setAt_eq : ∀ (vs pre post cs : List Value), cs.length = vs.length → setAt (pre ++ cs ++ post) pre.length vs = pre ++ vs ++ post
  | [], pre, post, cs, h => by
    have : cs = [] := List.eq_nil_of_length_eq_zero h
    subst this; rfl
  | v :: vs, pre, post, cs, h => by
    cases cs with
    | nil => simp at h
    | cons c cs =>
      have ih := setAt_eq vs (pre ++ [v]) post cs (by simpa using h)
      rw [setAt]
      have e : (pre ++ c :: cs ++ post).set pre.length v = pre ++ [v] ++ cs ++ post := by simp
      rw [e]
      have e2 : pre.length + 1 = (pre ++ [v]).length := by simp
      rw [e2, ih]
      simp
theorem setAt_all (vs cs : List Value) (h : vs.length = cs.length) : setAt cs 0 vs = vs := by
  have := setAt_eq vs [] [] cs h.symm
  simpa using this
theorem run_storeBlk {b : Nat} {T : TypeId} {off : Nat} : ∀ (vs cs : List Value) (i : Nat) (w : World), w.heap[b]? = some (.cells cs.toArray T (0, 0)) → off + i + vs.length ≤ cs.length → vs.all (·.oneCell') = true →
    ∃ w', (storeCells ⟨b, off, none⟩ vs i).run P w = .ok () w' ∧ w'.heap[b]? = some (.cells (setAt cs (off + i) vs).toArray T (0, 0)) ∧ Keeps (fun x => x = b) w w'
  | [], cs, i, w, h, _, _ => ⟨w, by simp [storeCells], h, Keeps.refl _ _⟩
  | v :: vs, cs, i, w, h, hl, h1 => by
    simp only [List.length_cons] at hl
    simp only [List.all_cons, Bool.and_eq_true] at h1
    have hset := heap_setCell_same w b (off + i) cs.toArray T v h
    have hcell : w.cell? ⟨b, off + i, none⟩ = some (cs[off + i]'(by omega)) := by
      rw [cell_of_row w b (off + i) cs.toArray T (0, 0) h]
      simp [show off + i < cs.length by omega]
    have e : (cs.toArray.setIfInBounds (off + i) v) = (cs.set (off + i) v).toArray := by simp
    rw [e] at hset
    obtain ⟨w', h2, h3, h4⟩ := run_storeBlk (off := off) vs (cs.set (off + i) v) (i + 1) (w.setCell ⟨b, off + i, none⟩ v) hset (by rw [List.length_set]; omega) h1.2
    refine ⟨w', ?_, ?_, Keeps.trans ⟨by simp, fun x hx hn => heap_setCell_other w ⟨b, off + i, none⟩ x v hn, rfl, rfl, rfl⟩ h4⟩
    · simp only [storeCells, Sem.run_bind, Addr.add_lit]
      rw [run_store P w ⟨b, off + i, none⟩ v .plain h1.1]
      rw [hcell]
      simp only [frozen_of_row w b (off + i) cs.toArray T h]
      simpa using h2
    · rw [h3]; rfl
theorem run_storeVar {b : Nat} {T T' : TypeId} {off : Nat} {v : Value} {vs cs : List Value} {w : World} (h : w.heap[b]? = some (.cells cs.toArray T (0, 0))) (hv : v.cells = vs.toArray) (hs : sizeB P T' vs.length = true) (hl : off + vs.length ≤ cs.length) (h1 : vs.all (·.oneCell') = true) :
    ∃ w', (storeVar T' ⟨b, off, none⟩ v).run P w = .ok () w' ∧ w'.heap[b]? = some (.cells (setAt cs off vs).toArray T (0, 0)) ∧ Keeps (fun x => x = b) w w' := by
  obtain ⟨w', h2, h3, h4⟩ := run_storeBlk (P := P) vs cs 0 w h (by omega) h1
  refine ⟨w', ?_, h3, h4⟩
  simp [storeVar, hv, run_sizeOf hs, h2]
/-- a turn of one label's blocks, the labels staying -/
theorem same_turn {κ : Nat → Nat} {w w' : World} (hw : Wf κ w) {n : Nat} (hn : 2 ≤ n) (k : Keeps (fun x => κ x = n) w w') : Turn (fun x => x = n) κ κ w w' :=
  ⟨by omega, by omega, k, fun b hb => hw b (Nat.le_trans k.size hb), fun _ _ h => h, fun _ _ _ _ => Iff.rfl⟩
theorem St.turn1 {a : Act} {w w' : World} {κ : Nat → Nat} {n : Nat} {φ : RP} (hn : B.own n = true) (size : a.tmps.size = B.N) (defers : a.defers = []) (g : Good B κ w) (m : MemOk κ M w) (r : RegOk (live κ) Γ a w)
    (k : Keeps (fun x => κ x = n) w w') (h : ResOk κ n φ w') : St B ((n, φ) :: M) Γ a w' := by
  have t := same_turn g.wf (g.two _ hn) k
  refine ⟨size, defers, κ, t.good g (by rintro l rfl; exact hn), m.turn t (fun l' ψ h2 hg hne => ?_) (fun l' ψ h2 hg hs => ?_), r.turn t⟩
  · have : Nat.beq n l' = false := by
      cases h : Nat.beq n l' with
      | false => rfl
      | true => exact absurd (beq_true h).symm hne
    simpa [Mem.get, this] using hg
  · subst hs
    simp only [Mem.get, Nat.beq_eq, decide_true, cond_true] at hg
    have : ψ = φ := by simpa using hg.symm
    subst this
    exact h
theorem St.put_undef {a : Act} {w : World} (s : St B M Γ a w) {d : Option Nat} (hd : d = none) (v : Value) : St B M Γ (a.put d v) w := by subst hd; exact s
theorem blk_ok {κ : Nat → Nat} {n b : Nat} {cs : List Value} {T : TypeId} {w : World} (hb : κ b = n) (h : w.heap[b]? = some (.cells cs.toArray T (0, 0))) : ResOk κ n (Blk b cs T) w := fun L w' hL k =>
  ⟨hb, by rw [k.block b (by
    rcases Nat.lt_or_ge b w.heap.size with h' | h'
    · exact h'
    · rw [Array.getElem?_eq_none h'] at h; cases h) (by rintro ⟨_, h2⟩; exact h2 hb)]; exact h⟩
theorem TrL.store (n : Nat) {b off : Nat} {T T' : TypeId} {x y : Operand} {v : Value} {vs cs : List Value} (ho : o.op = .store T' x y) (hg : o.guard = none) (hd : o.dst = none) (hx : Has M Γ x (is (.pointer (some ⟨b, off, none⟩)))) (hy : Has M Γ y (is v))
    (hm : M.get n = some (Blk b cs T)) (hn : B.own n = true) (hv : v.cells = vs.toArray) (hs : sizeB P T' vs.length = true) (hl : off + vs.length ≤ cs.length) (h1 : vs.all (·.oneCell') = true)
    (k : TrL B P ops l ((n, Blk b (setAt cs off vs) T) :: M) Γ Q) : TrL B P ops (o :: l) M Γ Q := by
  intro a w s
  obtain ⟨κ, g, m, r⟩ := s.ex
  have hn' : B.own n = true := hn
  obtain ⟨hb, hh⟩ := (m n _ (g.two _ hn') hm).now
  obtain ⟨w', h2, h3, h4⟩ := run_storeVar (P := P) hh hv hs hl h1
  refine wpList_step fun K hK => ?_
  rw [if_pos (by simp [Region.wanted, hg])]
  unfold Oper.wp execOp
  rw [ho]
  simp only [hx.val m (r.on o.op.operands.toList) (by simp [ho, Op.operands]), hy.val m (r.on o.op.operands.toList) (by simp [ho, Op.operands]), Instr.storeAt, Instr.sureAddr, Sem.run_bind, Sem.run_pure, Result.andThen_ok, h2]
  exact hK _ _ (k _ _ ((St.turn1 hn' s.size s.defers g m r (h4.mono fun x _ hx => hx ▸ hb) (blk_ok hb h3)).put_undef hd _))
theorem TrL.store1 (n : Nat) {b off : Nat} {T T' : TypeId} {x y : Operand} {v : Value} {cs : List Value} (ho : o.op = .store T' x y) (hg : o.guard = none) (hd : o.dst = none) (hx : Has M Γ x (is (.pointer (some ⟨b, off, none⟩)))) (hy : Has M Γ y (is v))
    (hm : M.get n = some (Blk b cs T)) (hn : B.own n = true) (hv : v.cells = #[v]) (hs : sizeB P T' 1 = true) (hl : Nat.ble (off + 1) cs.length = true) (h1 : v.oneCell' = true)
    (k : TrL B P ops l ((n, Blk b (cs.set off v) T) :: M) Γ Q) : TrL B P ops (o :: l) M Γ Q :=
  TrL.store n (vs := [v]) ho hg hd hx hy hm hn hv hs (by simpa [Nat.ble_eq] using hl) (by simp [h1]) k
theorem TrL.storeA (n : Nat) {b off : Nat} {T T' : TypeId} {x y : Operand} {vs cs : List Value} (ho : o.op = .store T' x y) (hg : o.guard = none) (hd : o.dst = none) (hx : Has M Γ x (is (.pointer (some ⟨b, off, none⟩)))) (hy : Has M Γ y (is (.agg vs.toArray)))
    (hm : M.get n = some (Blk b cs T)) (hn : B.own n = true) (hs : sizeB P T' vs.length = true) (hl : Nat.ble (off + vs.length) cs.length = true) (h1 : vs.all (·.oneCell') = true)
    (k : TrL B P ops l ((n, Blk b (setAt cs off vs) T) :: M) Γ Q) : TrL B P ops (o :: l) M Γ Q :=
  TrL.store n (vs := vs) ho hg hd hx hy hm hn rfl hs (by simpa [Nat.ble_eq] using hl) h1 k
/-- the whole variable anew -/
theorem TrL.storeW (n : Nat) {b : Nat} {T T' : TypeId} {x y : Operand} {vs cs : List Value} (ho : o.op = .store T' x y) (hg : o.guard = none) (hd : o.dst = none) (hx : Has M Γ x (is (.pointer (some ⟨b, 0, none⟩)))) (hy : Has M Γ y (is (.agg vs.toArray)))
    (hm : M.get n = some (Blk b cs T)) (hn : B.own n = true) (hs : sizeB P T' vs.length = true) (hl : Nat.beq vs.length cs.length = true) (h1 : vs.all (·.oneCell') = true)
    (k : TrL B P ops l ((n, Blk b vs T) :: M) Γ Q) : TrL B P ops (o :: l) M Γ Q := by
  refine TrL.storeA n ho hg hd hx hy hm hn hs ?_ h1 ?_
  · rw [Nat.zero_add, beq_true hl]; simp
  · rw [setAt_all _ _ (beq_true hl)]; exact k
theorem TrL.boxW (n : Nat) {T : TypeId} {x : Operand} {cs : List Value} (ho : o.op = .box T x) (hg : o.guard = none) (hx : Has M Γ x (is (.agg cs.toArray))) (d : Nat) (he : o.dst = some d) (hd : Nat.blt d B.N = true) (hn : B.own n = true)
    (k : ∀ b, TrL B P ops l ((n, Blk b cs T) :: M) ((d, is (.pointer (some ⟨b, 0, none⟩))) :: Γ) Q) : TrL B P ops (o :: l) M Γ Q :=
  TrL.box n (cs := cs) ho hg hx rfl (by rw [he]; exact hd) hn fun b => by rw [he]; exact k b
theorem TrL.box1 (n : Nat) {T : TypeId} {x : Operand} {v : Value} (ho : o.op = .box T x) (hg : o.guard = none) (hx : Has M Γ x (is v)) (hv : v.cells = #[v]) (d : Nat) (he : o.dst = some d) (hd : Nat.blt d B.N = true) (hn : B.own n = true)
    (k : ∀ b, TrL B P ops l ((n, Blk b [v] T) :: M) ((d, is (.pointer (some ⟨b, 0, none⟩))) :: Γ) Q) : TrL B P ops (o :: l) M Γ Q :=
  TrL.box n (cs := [v]) ho hg hx hv (by rw [he]; exact hd) hn fun b => by rw [he]; exact k b
theorem TrL.allocS (n : Nat) {T : TypeId} {zs : List Value} (ho : o.op = .alloc T) (hg : o.guard = none) (hz : ((P.info? T).bind (·.zero)).map (·.cells.toList) = some zs) (d : Nat) (he : o.dst = some d) (hd : Nat.blt d B.N = true) (hn : B.own n = true)
    (k : ∀ b, TrL B P ops l ((n, Blk b zs T) :: M) ((d, is (.pointer (some ⟨b, 0, none⟩))) :: Γ) Q) : TrL B P ops (o :: l) M Γ Q :=
  TrL.alloc n ho hg hz (by rw [he]; exact hd) hn fun b => by rw [he]; exact k b
theorem OpM.loadB (n : Nat) {b off : Nat} {T T' : TypeId} {x : Operand} {c : Value} {cs ds : List Value} (ho : o.op = .load T' x) (hx : Has M Γ x (is (.pointer (some ⟨b, off, none⟩)))) (hm : M.get n = some (Blk b cs T)) (hn : Nat.ble 2 n = true)
    (hc : cs.drop off = c :: ds) (ht : scalarB P T' = true) : OpM P M Γ o (is c) :=
  OpM.isv fun a w κ m hr => by
    obtain ⟨hb, hh⟩ := (m n _ (by simpa [Nat.ble_eq] using hn) hm).now
    have h0 : w.cell? ⟨b, off, none⟩ = some c := by
      rw [cell_of_row w b off cs.toArray T (0, 0) hh]
      have : cs[off]? = (cs.drop off)[0]? := by simp
      simp [this, hc]
    unfold execOp
    rw [ho]
    simp only [Instr.loadAt, hx.val m hr (by simp [ho, Op.operands]), Instr.sureAddr, Sem.run_bind, Sem.run_pure, Result.andThen_ok, run_loadVar1 ht h0]
theorem blk_cells {w : World} {b off : Nat} {cs : List Value} {T : TypeId} (h : w.heap[b]? = some (.cells cs.toArray T (0, 0))) : CellsAt w ⟨b, off, none⟩ (cs.drop off) := by
  intro j u hj
  rw [Addr.add_lit, cell_of_row w b (off + j) cs.toArray T (0, 0) h]
  simpa using hj
theorem OpM.loadBN (n : Nat) {b off k : Nat} {T T' : TypeId} {x : Operand} {cs ds : List Value} (ho : o.op = .load T' x) (hx : Has M Γ x (is (.pointer (some ⟨b, off, none⟩)))) (hm : M.get n = some (Blk b cs T)) (hn : Nat.ble 2 n = true)
    (hc : (cs.drop off).take k = ds) (ht : aggB P T' k = true) (hk : ds.length = k) : OpM P M Γ o (is (.agg ds.toArray)) :=
  OpM.isv fun a w κ m hr => by
    obtain ⟨hb, hh⟩ := (m n _ (by simpa [Nat.ble_eq] using hn) hm).now
    have hl := run_loadVarN (P := P) (w := w) (n := k) (cs := ds) ht hk (hc ▸ (blk_cells hh).take k)
    unfold execOp
    rw [ho]
    simp only [Instr.loadAt, hx.val m hr (by simp [ho, Op.operands]), Instr.sureAddr, Sem.run_bind, Sem.run_pure, Result.andThen_ok, hl]
theorem ResV.cellB (n : Nat) {t b off k : Nat} {ty T : TypeId} {cs ds : List Value} (h : Γ.get t = some (is (.pointer (some ⟨b, off, none⟩)))) (hm : M.get n = some (Blk b cs T)) (hn : Nat.ble 2 n = true) (hc : (cs.drop off).take k = ds) (ht : aggB P ty k = true) (hk : ds.length = k) :
    ResV P M Γ (.cell t ty) (is (.agg ds.toArray)) := fun a w κ _ m r => by
  obtain ⟨hb, hh⟩ := (m n _ (by simpa [Nat.ble_eq] using hn) hm).now
  have hl := run_loadVarN (P := P) (w := w) (n := k) (cs := ds) ht hk (hc ▸ (blk_cells hh).take k)
  refine ⟨.agg ds.toArray, ?_, Box.is⟩
  have e2 : a.tmps.getD t undef = .pointer (some ⟨b, off, none⟩) := (r t _ h).now
  simp only [e2, asAddr, Sem.run_bind, Sem.run_pure, Result.andThen_ok, hl]
theorem ResV.cellB1 (n : Nat) {t b off : Nat} {ty T : TypeId} {c : Value} {cs ds : List Value} (h : Γ.get t = some (is (.pointer (some ⟨b, off, none⟩)))) (hm : M.get n = some (Blk b cs T)) (hn : Nat.ble 2 n = true) (hc : cs.drop off = c :: ds) (ht : scalarB P ty = true) :
    ResV P M Γ (.cell t ty) (is c) := fun a w κ _ m r => by
  obtain ⟨hb, hh⟩ := (m n _ (by simpa [Nat.ble_eq] using hn) hm).now
  have h0 : w.cell? ⟨b, off, none⟩ = some c := by
    rw [cell_of_row w b off cs.toArray T (0, 0) hh]
    have : cs[off]? = (cs.drop off)[0]? := by simp
    simp [this, hc]
  refine ⟨c, ?_, Box.is⟩
  have e2 : a.tmps.getD t undef = .pointer (some ⟨b, off, none⟩) := (r t _ h).now
  simp only [e2, asAddr, Sem.run_bind, Sem.run_pure, Result.andThen_ok, run_loadVar1 ht h0]

/-! ### 3. A slice of this call's own, that grows -/
structure PRep (τ : Type) where
  n : Nat
  enc : τ → List Value
  len : ∀ x, (enc x).length = n
  one : ∀ x, (enc x).all (·.oneCell') = true
  pos : 0 < n
  d : τ
def PRep.rep {τ : Type} (K : PRep τ) : Rep τ := ⟨K.n, fun x => (K.enc x).map is, fun x => by simp [K.len], fun x w cs h u hu => by rw [All2.is h] at hu; exact List.all_eq_true.1 (K.one x) u hu, K.pos, K.d⟩
/-- the cells of one element -/
def Chunk {τ : Type} (K : Rep τ) (L : Foot) (w : World) (x : τ) (cs : List Value) : Prop := (∀ u ∈ cs, u.oneCell' = true) ∧ ∀ w', Keeps L w w' → All2 w' (K.fs x) cs
theorem Chunk.length {τ : Type} {K : Rep τ} {L : Foot} {w : World} {x : τ} {cs : List Value} (h : Chunk K L w x cs) : cs.length = K.n := by rw [(h.2 w (Keeps.refl _ _)).length, K.len]
theorem Chunk.later {τ : Type} {K : Rep τ} {S L L' : Foot} {w w' : World} {x : τ} {cs : List Value} (h : Chunk K L w x cs) (k : Keeps S w w') (h1 : ∀ b, b < w.heap.size → S b → L b) (h2 : ∀ b, b < w.heap.size → L' b → L b) : Chunk K L' w' x cs :=
  ⟨h.1, fun w'' k' => h.2 w'' (k.then k' h1 h2)⟩
/-- all elements -/
def Chunks {τ : Type} (K : Rep τ) (L : Foot) (w : World) (xs : List τ) (css : List (List Value)) : Prop := css.length = xs.length ∧ ∀ (i : Nat) (x : τ) (cs : List Value), xs[i]? = some x → css[i]? = some cs → Chunk K L w x cs
theorem Chunks.later {τ : Type} {K : Rep τ} {S L L' : Foot} {w w' : World} {xs : List τ} {css : List (List Value)} (h : Chunks K L w xs css) (k : Keeps S w w') (h1 : ∀ b, b < w.heap.size → S b → L b) (h2 : ∀ b, b < w.heap.size → L' b → L b) : Chunks K L' w' xs css :=
  ⟨h.1, fun i x cs hx hc => (h.2 i x cs hx hc).later k h1 h2⟩
theorem Chunks.get {τ : Type} {K : Rep τ} {L : Foot} {w : World} {xs : List τ} {css : List (List Value)} (h : Chunks K L w xs css) {i : Nat} {x : τ} (hx : xs[i]? = some x) : ∃ cs, css[i]? = some cs ∧ Chunk K L w x cs := by
  have hi : i < css.length := by
    rw [h.1]
    rcases Nat.lt_or_ge i xs.length with h' | h'
    · exact h'
    · rw [List.getElem?_eq_none h'] at hx; cases hx
  exact ⟨css[i], List.getElem?_eq_getElem hi, h.2 i x _ hx (List.getElem?_eq_getElem hi)⟩
theorem Chunks.each {τ : Type} {K : Rep τ} {L : Foot} {w : World} {xs : List τ} {css : List (List Value)} (h : Chunks K L w xs css) : ∀ cs ∈ css, cs.length = K.n ∧ ∀ u ∈ cs, u.oneCell' = true := by
  intro cs hcs
  obtain ⟨i, hi⟩ := List.mem_iff_getElem?.1 hcs
  have hlt : i < xs.length := by
    rw [← h.1]
    rcases Nat.lt_or_ge i css.length with h' | h'
    · exact h'
    · rw [List.getElem?_eq_none h'] at hi; cases hi
  have := h.2 i xs[i] cs (List.getElem?_eq_getElem hlt) hi
  exact ⟨this.length, this.1⟩
theorem flat_len {n : Nat} : ∀ (css : List (List Value)), (∀ cs ∈ css, cs.length = n) → css.flatten.length = css.length * n
  | [], _ => by simp
  | cs :: css, h => by
    rw [List.flatten_cons, List.length_append, flat_len css (fun c hc => h c (by simp [hc])), h cs (by simp), List.length_cons, Nat.succ_mul]; omega
theorem chunk_get {n : Nat} : ∀ (css : List (List Value)), (∀ cs ∈ css, cs.length = n) → ∀ (i j : Nat) (cs : List Value) (u : Value), css[i]? = some cs → cs[j]? = some u → css.flatten[i * n + j]? = some u
  | [], _, i, j, cs, u, h, _ => by simp at h
  | c0 :: css, hl, 0, j, cs, u, h, hu => by
    simp only [List.getElem?_cons_zero, Option.some.injEq] at h
    subst h
    rw [Nat.zero_mul, Nat.zero_add, List.flatten_cons, List.getElem?_append_left (by
      rcases Nat.lt_or_ge j c0.length with h | h
      · exact h
      · rw [List.getElem?_eq_none h] at hu; cases hu)]
    exact hu
  | c0 :: css, hl, i + 1, j, cs, u, h, hu => by
    have hsz := hl c0 (by simp)
    rw [List.flatten_cons, List.getElem?_append_right (by rw [hsz, Nat.succ_mul]; omega)]
    have := chunk_get css (fun c hc => hl c (by simp [hc])) i j cs u (by simpa using h) hu
    rw [show (i + 1) * n + j - c0.length = i * n + j by rw [hsz, Nat.succ_mul]; omega]
    exact this
theorem list_of {α : Type} (p : Nat → α → Prop) : ∀ n, (∀ i, i < n → ∃ x, p i x) → ∃ xs : List α, xs.length = n ∧ ∀ i x, xs[i]? = some x → p i x
  | 0, _ => ⟨[], rfl, fun i x h => by simp at h⟩
  | n + 1, h => by
    obtain ⟨xs, hl, hx⟩ := list_of p n (fun i hi => h i (by omega))
    obtain ⟨x, hp⟩ := h n (by omega)
    refine ⟨xs ++ [x], by simp [hl], fun i y hy => ?_⟩
    rcases Nat.lt_or_ge i xs.length with hi | hi
    · rw [List.getElem?_append_left hi] at hy; exact hx i y hy
    · rw [List.getElem?_append_right hi] at hy
      have hz : i - xs.length = 0 := by
        rcases Nat.eq_zero_or_pos (i - xs.length) with h | h
        · exact h
        · rw [List.getElem?_eq_none (by simp; omega)] at hy; cases hy
      rw [hz] at hy
      simp only [List.getElem?_cons_zero, Option.some.injEq] at hy
      subst hy
      rw [show i = n by omega]; exact hp
/-- the cells of a slice that is only read -/
theorem lst_chunks {τ : Type} {K : Rep τ} {S : Foot} {ys : List τ} {v : Value} {w : World} (h : Box S (Lst K ys) v w) (hpos : 0 < ys.length) :
    ∃ ad c css, v = .slice (some ad) ys.length c ∧ ys.length ≤ c ∧ Chunks K S w ys css ∧ (∀ i cs, css[i]? = some cs → CellsAt w (ad.add (i * K.n)) cs) ∧ ∀ j u, css.flatten[j]? = some u → w.cell? (ad.add j) = some u := by
  obtain ⟨A, c, ev, hc, hA⟩ := h.now
  obtain ⟨ad, rfl, hl⟩ := hA hpos
  obtain ⟨css, hcl, hcs⟩ := list_of (fun i (cs : List Value) => ∀ x, ys[i]? = some x → Chunk K S w x cs ∧ CellsAt w (ad.add (i * K.n)) cs) ys.length (fun i hi => by
    have hx : ys[i]? = some ys[i] := List.getElem?_eq_getElem hi
    have hb : Box S (Cells (K.fs ys[i])) (.pointer (some (ad.add (i * K.n)))) w := fun w' k => by
      obtain ⟨A', c', ev', _, hA'⟩ := h w' k
      obtain ⟨ad', e2, hl'⟩ := hA' hpos
      rw [ev] at ev'
      have : ad = ad' := by simp only [Value.slice.injEq] at ev'; rw [e2] at ev'; simpa using ev'.1
      subst this
      obtain ⟨cs, h1, h2⟩ := hl' i _ hx
      exact ⟨_, rfl, cs, h1, h2⟩
    obtain ⟨ad2, cs, e, hf⟩ := Cells.fix hb
    have : ad.add (i * K.n) = ad2 := by simpa using e
    subst this
    refine ⟨cs, fun x' hx' => ?_⟩
    rw [hx] at hx'
    simp only [Option.some.injEq] at hx'
    subst hx'
    exact ⟨⟨K.one _ w cs (hf w (Keeps.refl _ _)).1, fun w' k => (hf w' k).1⟩, (hf w (Keeps.refl _ _)).2⟩)
  have hch : Chunks K S w ys css := ⟨hcl, fun i x cs hx hc => (hcs i cs hc x hx).1⟩
  refine ⟨ad, c, css, ev, hc, hch, fun i cs hi => ?_, fun j u hj => ?_⟩
  · have hlt : i < ys.length := by
      rw [← hcl]
      rcases Nat.lt_or_ge i css.length with h | h
      · exact h
      · rw [List.getElem?_eq_none h] at hi; cases hi
    exact (hcs i cs hi _ (List.getElem?_eq_getElem hlt)).2
  have hn := fun cs hcs => (hch.each cs hcs).1
  have hjl : j < css.flatten.length := by
    rcases Nat.lt_or_ge j css.flatten.length with h | h
    · exact h
    · rw [List.getElem?_eq_none h] at hj; cases hj
  rw [flat_len css hn] at hjl
  have hi : j / K.n < css.length := Nat.div_lt_of_lt_mul (by rw [Nat.mul_comm]; exact hjl)
  have hci : css[j / K.n]? = some css[j / K.n] := List.getElem?_eq_getElem hi
  have hxi : ys[j / K.n]? = some (ys[j / K.n]'(by omega)) := List.getElem?_eq_getElem _
  have hr : j % K.n < css[j / K.n].length := by rw [hn _ (List.mem_of_getElem? hci)]; exact Nat.mod_lt _ K.pos
  have h1 := chunk_get css hn (j / K.n) (j % K.n) _ _ hci (List.getElem?_eq_getElem hr)
  have hj' : j / K.n * K.n + j % K.n = j := by rw [Nat.mul_comm]; exact Nat.div_add_mod j K.n
  rw [hj', hj] at h1
  have h2 := (hcs _ _ hci _ hxi).2 (j % K.n) _ (List.getElem?_eq_getElem hr)
  rw [add_add, hj'] at h2
  rw [h2, h1]
theorem Chunks.append {τ : Type} {K : Rep τ} {L : Foot} {w : World} {xs ys : List τ} {cs ds : List (List Value)} (h : Chunks K L w xs cs) (k : Chunks K L w ys ds) : Chunks K L w (xs ++ ys) (cs ++ ds) := by
  refine ⟨by simp [h.1, k.1], fun i x c hx hc => ?_⟩
  rcases Nat.lt_or_ge i xs.length with hi | hi
  · rw [List.getElem?_append_left hi] at hx
    rw [List.getElem?_append_left (by rw [h.1]; exact hi)] at hc
    exact h.2 i x c hx hc
  · rw [List.getElem?_append_right hi] at hx
    rw [List.getElem?_append_right (by rw [h.1]; exact hi), h.1] at hc
    exact k.2 _ x c hx hc
def Own {τ : Type} (K : Rep τ) (e : TypeId) (v : Value) (xs : List τ) : RP := fun F L w => ∃ css, Chunks K L w xs css ∧ w.ownsRow 0 e K.n v xs.length css.flatten ∧ ∀ g, v.ownBlock = some g → F g
theorem Own.cells {τ : Type} {K : Rep τ} {e : TypeId} {v : Value} {xs : List τ} {F L : Foot} {w : World} (h : Own K e v xs F L w) (hp : 0 < xs.length) : ∃ g cap, v = .slice (some ⟨g, 0, none⟩) xs.length cap ∧ xs.length ≤ cap ∧ F g ∧
    ∀ i x, xs[i]? = some x → ∃ cs, Chunk K L w x cs ∧ CellsAt w ⟨g, i * K.n, none⟩ cs := by
  obtain ⟨css, hc, ⟨hl, h⟩, hF⟩ := h
  rcases h with ⟨rfl, h0⟩ | ⟨g, cap, cur, rfl, _, hh, hn, _, hcs, ht⟩
  · omega
  · refine ⟨g, cap, rfl, hn, hF g rfl, fun i x hx => ?_⟩
    obtain ⟨cs, h1, h2⟩ := hc.get hx
    refine ⟨cs, h2, fun j u hu => ?_⟩
    have h3 := chunk_get css (fun c hc' => (hc.each c hc').1) i j cs u h1 hu
    rw [Addr.add_lit, cell_of_row w g _ cur e (0, 0) hh]
    rw [← ht, List.getElem?_take] at h3
    split at h3
    · simpa using h3
    · cases h3
theorem Own.lst {τ : Type} {K : Rep τ} {e : TypeId} {v : Value} {xs : List τ} {F L : Foot} {w : World} (h : Own K e v xs F L w) : Lst K xs v w := by
  rcases Nat.eq_zero_or_pos xs.length with h0 | h0
  · obtain ⟨css, hc, ⟨hl, h⟩, hF⟩ := h
    rcases h with ⟨rfl, _⟩ | ⟨g, cap, cur, rfl, _, hh, hn, _, hcs, ht⟩
    · exact ⟨none, 0, by rw [h0], by omega, fun h => by omega⟩
    · exact ⟨_, cap, rfl, hn, fun h => by omega⟩
  · obtain ⟨g, cap, rfl, hn, _, hx⟩ := h.cells h0
    refine ⟨_, cap, rfl, hn, fun _ => ⟨_, rfl, fun i x hi => ?_⟩⟩
    obtain ⟨cs, h1, h2⟩ := hx i x hi
    refine ⟨cs, h1.2 w (Keeps.refl _ _), ?_⟩
    rw [Addr.add_lit, Nat.zero_add]
    exact h2

/-- a label whose blocks nobody asks for any more is given to the others -/
theorem St.relabel {a : Act} {w : World} (s : St B M Γ a w) {n : Nat} (hn : B.own n = true) : ∃ κ, Good B κ w ∧ (∀ b, κ b ≠ n) ∧ RegOk (live κ) Γ a w ∧ ∀ l φ, 2 ≤ l → l ≠ n → M.get l = some φ → ResOk κ l φ w := by
  obtain ⟨κ, g, m, r⟩ := s.ex
  have h2n := g.two _ hn
  have hlive : live (fun b => if κ b = n then 1 else κ b) = live κ := funext fun b => propext (by
    simp only [live]; split <;> omega)
  refine ⟨fun b => if κ b = n then 1 else κ b, ⟨g.two, fun b hb => ?_, g.keeps, fun b hb h2 => ?_⟩, fun b => ?_, ?_, fun l φ h2 hne hl => ?_⟩
  · show (if κ b = n then 1 else κ b) = 0
    have := g.wf b hb
    rw [if_neg (by omega)]; exact this
  · show (if κ b = n then 1 else κ b) = _
    have := g.old b hb h2
    rw [if_neg (fun e => by rw [this] at e; rw [e, hn] at h2; cases h2)]; exact this
  · show (if κ b = n then 1 else κ b) ≠ n
    split <;> omega
  · rw [hlive]; exact r
  · have h := m l φ h2 hl
    intro L w' hL k
    have e1 : (fun b => (if κ b = n then 1 else κ b) = l) = fun b => κ b = l := funext fun b => propext (by split <;> omega)
    show φ (fun b => (if κ b = n then 1 else κ b) = l) L w'
    rw [e1]
    refine h L w' (fun b hlt hb h0 => hL b hlt hb (by show (if κ b = n then 1 else κ b) = 0; rw [if_neg (by omega)]; exact h0)) (k.mono fun b _ hb => ?_)
    have : (if κ b = n then 1 else κ b) ≠ 0 ∧ (if κ b = n then 1 else κ b) ≠ l := hb
    split at this <;> omega
theorem St.fresh {a : Act} {w : World} (s : St B M Γ a w) {n : Nat} (hn : B.own n = true) {φ : RP} (h : ∀ κ, (∀ b, κ b ≠ n) → RegOk (live κ) Γ a w → ResOk κ n φ w) : St B ((n, φ) :: M) Γ a w := by
  have s' := s
  obtain ⟨κ, g, h0, r, m⟩ := s.relabel hn
  refine ⟨s'.size, s'.defers, κ, g, fun l ψ h2 hl => ?_, r⟩
  by_cases e : l = n
  · subst e
    simp only [Mem.get, Nat.beq_eq, decide_true, cond_true] at hl
    have : ψ = φ := by simpa using hl.symm
    subst this
    exact h κ h0 r
  · have : Nat.beq n l = false := by
      cases h : Nat.beq n l with
      | false => rfl
      | true => exact absurd (beq_true h).symm e
    simp only [Mem.get, this, cond_false] at hl
    exact m l ψ h2 e hl
/-- an empty slice of this call's own -/
theorem St.own0 {τ : Type} (K : Rep τ) (e : TypeId) {a : Act} {w : World} (s : St B M Γ a w) {n : Nat} (hn : B.own n = true) : St B ((n, Own K e (.slice none 0 0) []) :: M) Γ a w :=
  s.fresh hn fun κ _ _ L w' _ _ => ⟨[], ⟨rfl, fun i x cs h => by simp at h⟩, World.ownsRow_nil w' 0 e K.n, fun g hg => by simp [Value.ownBlock] at hg⟩
theorem Tr.own0 {c : Code} {τ : Type} (n : Nat) (K : Rep τ) (e : TypeId) (hn : B.own n = true) (k : Tr B P ((n, Own K e (.slice none 0 0) []) :: M) Γ c Q) : Tr B P M Γ c Q := fun a w s => k a w (s.own0 K e (by simpa [Nat.ble_eq] using hn))
theorem Fin.own0 {x : Exit} {τ : Type} (n : Nat) (K : Rep τ) (e : TypeId) (hn : B.own n = true) (k : Fin B ((n, Own K e (.slice none 0 0) []) :: M) Γ x Q) : Fin B M Γ x Q := fun a w s => k a w (s.own0 K e (by simpa [Nat.ble_eq] using hn))
/-- a value is given a name -/
theorem St.name {a : Act} {w : World} (s : St B M Γ a w) {n t : Nat} (hn : B.own n = true) (ht : Γ.get t = some R) : ∃ v, St B ((n, Fact R v) :: M) ((t, is v) :: Γ) a w := by
  refine ⟨a.eval (.tmp t), ?_⟩
  have s1 := s.fresh (φ := Fact R (a.eval (.tmp t))) hn fun κ h0 r L w' hL k => ⟨fun b => h0 b, fun w'' k2 => (r t R ht) w'' (k.then k2 (fun b _ hb => hb.1) hL)⟩
  obtain ⟨κ, g, m, r⟩ := s1.ex
  refine ⟨s1.size, s1.defers, κ, g, m, fun u R' hu => ?_⟩
  simp only [Env.get] at hu
  cases hb : Nat.beq t u with
  | true =>
    rw [hb] at hu
    simp only [cond_true, Option.some.injEq] at hu
    subst hu
    obtain rfl := beq_true hb
    exact Box.is
  | false =>
    rw [hb] at hu
    exact r u R' hu
theorem Tr.name {c : Code} (n t : Nat) (hn : B.own n = true) (ht : Γ.get t = some R) (k : ∀ v, Tr B P ((n, Fact R v) :: M) ((t, is v) :: Γ) c Q) : Tr B P M Γ c Q := fun a w s =>
  let ⟨v, s'⟩ := s.name (n := n) (by simpa [Nat.ble_eq] using hn) ht
  k v a w s'
theorem TrL.name (n t : Nat) (hn : B.own n = true) (ht : Γ.get t = some R) (k : ∀ v, TrL B P ops l ((n, Fact R v) :: M) ((t, is v) :: Γ) Q) : TrL B P ops l M Γ Q := fun a w s =>
  let ⟨v, s'⟩ := s.name (n := n) (by simpa [Nat.ble_eq] using hn) ht
  k v a w s'
/-- from now on nobody writes it any more -/
theorem St.freeze {τ : Type} {K : Rep τ} {e : TypeId} {v : Value} {xs : List τ} {a : Act} {w : World} (s : St B M Γ a w) {n t : Nat} (hn : B.own n = true) (hm : M.get n = some (Own K e v xs)) (ht : Γ.get t = some (is v)) : St B ((n, anyR) :: M) ((t, Lst K xs) :: Γ) a w := by
  obtain ⟨κ, g, m, r⟩ := s.ex
  have h2n := g.two _ hn
  have turn : Turn (fun x => x = n) κ (fun b => if κ b = n then 0 else κ b) w w :=
    ⟨by omega, by omega, Keeps.refl _ _, fun b hb => by show (if κ b = n then 0 else κ b) = 0; rw [g.wf b hb]; split <;> rfl, fun b _ h0 => by show (if κ b = n then 0 else κ b) = 0; rw [h0]; split <;> rfl,
      fun l hl h0 b => by show (if κ b = n then 0 else κ b) = l ↔ _; split <;> omega⟩
  refine ⟨s.size, s.defers, _, turn.good g (by rintro l rfl; exact hn), m.turn turn (fun l' φ h2 hg hne => ?_) (fun l' φ h2 hg hs => ?_), fun u R' hu => ?_⟩
  · have : Nat.beq n l' = false := by
      cases h : Nat.beq n l' with
      | false => rfl
      | true => exact absurd (beq_true h).symm hne
    simpa [Mem.get, this] using hg
  · subst hs
    simp only [Mem.get, Nat.beq_eq, decide_true, cond_true] at hg
    have : φ = anyR := by simpa using hg.symm
    subst this
    exact fun _ _ _ _ => trivial
  · simp only [Env.get] at hu
    cases hb : Nat.beq t u with
    | true =>
      rw [hb] at hu
      simp only [cond_true, Option.some.injEq] at hu
      subst hu
      obtain rfl := beq_true hb
      rw [(r t _ ht).now]
      refine fun w' k => Own.lst (m n _ h2n hm (live (fun b => if κ b = n then 0 else κ b)) w' (fun b _ hb => ?_) (k.mono fun b _ hb => ?_))
      · have : (if κ b = n then 0 else κ b) ≠ 0 := hb
        split at this <;> omega
      · have : (if κ b = n then 0 else κ b) ≠ 0 := hb
        split at this <;> omega
    | false =>
      rw [hb] at hu
      exact r.turn turn u R' hu
theorem Tr.freeze {c : Code} {τ : Type} {K : Rep τ} {e : TypeId} {v : Value} {xs : List τ} (n t : Nat) (hn : B.own n = true) (hm : M.get n = some (Own K e v xs)) (ht : Γ.get t = some (is v)) (k : Tr B P ((n, anyR) :: M) ((t, Lst K xs) :: Γ) c Q) : Tr B P M Γ c Q :=
  fun a w s => k a w (s.freeze (by simpa [Nat.ble_eq] using hn) hm ht)
theorem Fin.freeze {x : Exit} {τ : Type} {K : Rep τ} {e : TypeId} {v : Value} {xs : List τ} (n t : Nat) (hn : B.own n = true) (hm : M.get n = some (Own K e v xs)) (ht : Γ.get t = some (is v)) (k : Fin B ((n, anyR) :: M) ((t, Lst K xs) :: Γ) x Q) : Fin B M Γ x Q :=
  fun a w s => k a w (s.freeze (by simpa [Nat.ble_eq] using hn) hm ht)

theorem owns_block {w w' : World} {base : Nat} {e : TypeId} {size n : Nat} {v : Value} {xs : List Value} (h : w.ownsRow base e size v n xs) (hb : ∀ g, v.ownBlock = some g → w'.heap[g]? = w.heap[g]?) : w'.ownsRow base e size v n xs := by
  obtain ⟨h1, h2⟩ := h
  refine ⟨h1, ?_⟩
  rcases h2 with h2 | ⟨g, cap, cur, rfl, hg, hh, r⟩
  · exact .inl h2
  · exact .inr ⟨g, cap, cur, rfl, hg, by rw [hb g rfl]; exact hh, r⟩
theorem append_block {w w' : World} {t ty e : TypeId} {i : TypeInfo} {z : Value} (ht : P.underlying t = some (.slice e)) (hi : P.info? e = some i) (hz : i.zero = some z) {v v' : Value} {n : Nat} {xs : List Value} (hown : w.ownsRow 0 e i.size v n xs)
    (a : Addr) {m c : Nat} {news : List Value} (hl : news.length = m * i.size) (hnews : ∀ j u, news[j]? = some u → w.cell? (a.add j) = some u) (h1 : ∀ u ∈ news, u.oneCell' = true) (hm : 0 < m)
    (h63 : n + m ≤ maxLen) (hbytes : (n + m) * i.bytes ≤ 140737488355328) (hrun : (Builtin.append_ #[t, t] ty #[v, .slice (some a) m c]).run P w = .ok v' w') : v'.ownBlock = v.ownBlock ∨ v'.ownBlock = some w.heap.size := by
  simp only [maxLen] at h63
  rcases hown.2 with ⟨rfl, rfl⟩ | ⟨g, cap, cur, rfl, hbg, hg, hnc, hcm, hcs, htake⟩
  · have hr := run_append_nil (P := P) w t ty e i z ht hi hz a m c news hl hnews hm (by omega) (by rw [Nat.zero_add] at hbytes; omega)
    rw [hr] at hrun
    simp only [Result.ok.injEq] at hrun
    rw [← hrun.1]
    exact .inr rfl
  · by_cases hroom : n + m ≤ cap
    · have hfit : n * i.size + news.length ≤ cur.size := by rw [hl, hcs, ← Nat.add_mul]; exact Nat.mul_le_mul_right _ hroom
      have hr := run_append_room (P := P) w t ty e i ht hi g n cap cur hg a m c news hl hnews h1 hroom hfit
      rw [hr] at hrun
      simp only [Result.ok.injEq] at hrun
      rw [← hrun.1]
      exact .inl rfl
    · have holds : ∀ j u, xs[j]? = some u → w.cell? ((⟨g, 0, none⟩ : Addr).add j) = some u := hown.cells (g := g) rfl
      have hr := run_append_grow (P := P) w t ty e i z ht hi hz ⟨g, 0, none⟩ n cap xs hown.1 holds a m c news hl hnews (by omega) (by omega) (growslice_fits (by omega) hbytes)
      rw [hr] at hrun
      simp only [Result.ok.injEq] at hrun
      rw [← hrun.1]
      exact .inr rfl
theorem TrL.append {τ : Type} {K : Rep τ} (n : Nat) {t e : TypeId} {bytes : Nat} {x y : Operand} {v : Value} {xs ys : List τ} (ho : o.op = .call ⟨.builtin .append, #[x, y], #[t, t]⟩) (hg : o.guard = none) (hd : dstOk o.dst B.N = true)
    (hx : Has M Γ x (is v)) (hm : M.get n = some (Own K e v xs)) (hn : B.own n = true) (hy : Has M Γ y (Lst K ys)) (hu : P.underlying t = some (.slice e)) (he : elemB P e K.n bytes = true) (hpos : 0 < ys.length)
    (hlen : (xs.length + ys.length) * bytes ≤ 140737488355328) (hlen2 : xs.length + ys.length ≤ maxLen)
    (k : ∀ v', TrL B P ops l ((n, Own K e v' (xs ++ ys)) :: M) (Γ.put o.dst (is v')) Q) : TrL B P ops (o :: l) M Γ Q := by
  intro a w s
  obtain ⟨κ, g, m, r⟩ := s.ex
  have hn' : B.own n = true := hn
  have h2n := g.two _ hn'
  obtain ⟨css, hch, hown, hF⟩ := (m n _ h2n hm).now
  have hin : y ∈ o.op.operands.toList := by rw [ho]; simp [Op.operands, Call.operands]
  obtain ⟨ad, c, dss, ev, hc, hdh, _, hnews⟩ := lst_chunks (hy.box m (r.on o.op.operands.toList) hin) hpos
  have hones : ∀ u ∈ dss.flatten, u.oneCell' = true := by
    intro u hu'
    obtain ⟨z, hz1, hz⟩ := List.mem_flatten.1 hu'
    exact (hdh.each z hz1).2 u hz
  have hfl : dss.flatten.length = ys.length * K.n := by rw [flat_len dss fun cs hcs => (hdh.each cs hcs).1, hdh.1]
  unfold elemB at he
  cases hi : P.info? e with
  | none => rw [hi] at he; cases he
  | some i =>
    rw [hi] at he
    simp only [Bool.and_eq_true] at he
    cases hz : i.zero with
    | none => rw [hz] at he; simp at he
    | some z =>
      rw [hz] at he
      obtain ⟨v', w', hrun, hown', hgrow, _⟩ := run_append_own (P := P) (w := w) 0 t o.type e i z K.n bytes hu hi hz (beq_true he.1.1) (beq_true he.1.2) (beq_true he.2) K.pos v xs.length css.flatten hown ad ys.length c dss.flatten hfl hnews hones hlen2 hlen (Nat.zero_le _)
      refine wpList_step fun K' hK => ?_
      rw [if_pos (by simp [Region.wanted, hg])]
      unfold Oper.wp execOp
      rw [ho]
      have hxv := hx.val m (r.on o.op.operands.toList) (by rw [ho]; simp [Op.operands, Call.operands])
      simp only [resolve, invoke, builtin, Sem.run_bind, Sem.run_pure, Result.andThen_ok, List.map_toArray, List.map_cons, List.map_nil, hxv, ev, hrun]
      refine hK _ _ (k v' _ _ ?_)
      -- the new labels: a new block bears n
      have hkeep : Keeps (fun x => κ x = n) w w' := ⟨hgrow.size, fun b hb hne => hgrow.block b hb fun e => hne (hF b e.symm), hgrow.tape, hgrow.os, hgrow.output⟩
      have turn : Turn (fun x => x = n) κ (fun b => if w.heap.size ≤ b ∧ b < w'.heap.size then n else κ b) w w' :=
        ⟨by omega, by omega, hkeep, fun b hb => by
            show (if _ then n else κ b) = 0
            rw [if_neg (by omega)]; exact g.wf b (Nat.le_trans hgrow.size hb),
          fun b hb h0 => by show (if _ then n else κ b) = 0; rw [if_neg (by omega)]; exact h0,
          fun l' hl' h0 b => by
            show (if _ then n else κ b) = l' ↔ _
            by_cases hb : w.heap.size ≤ b ∧ b < w'.heap.size
            · rw [if_pos hb, g.wf b hb.1]; exact ⟨fun e => absurd e.symm hl', fun e => absurd e.symm h0⟩
            · rw [if_neg hb]⟩
      have hF' : ∀ gb, v'.ownBlock = some gb → (if w.heap.size ≤ gb ∧ gb < w'.heap.size then n else κ gb) = n := fun gb hgb => by
        have hlt := (hown'.lt gb hgb).2
        by_cases hnew : w.heap.size ≤ gb
        · rw [if_pos ⟨hnew, hlt⟩]
        · rw [if_neg (by omega)]
          rcases append_block (P := P) hu hi hz (v := v) (by rw [beq_true he.1.1]; exact hown) ad (by rw [beq_true he.1.1]; exact hfl) hnews hones hpos hlen2 (by rw [beq_true he.1.2]; exact hlen) hrun with e | e
          · exact hF gb (e ▸ hgb)
          · rw [hgb] at e; simp only [Option.some.injEq] at e; omega
      refine ⟨by rw [put_size]; exact s.size, by rw [put_defers]; exact s.defers, _, turn.good g (by rintro l rfl; exact hn'), m.turn turn (fun l' φ h2 hg hne => ?_) (fun l' φ h2 hg hs => ?_), (r.turn turn).put (by rw [s.size]; exact dstOk.to hd) Box.is⟩
      · have : Nat.beq n l' = false := by
          cases h : Nat.beq n l' with
          | false => rfl
          | true => exact absurd (beq_true h).symm hne
        simpa [Mem.get, this] using hg
      · subst hs
        simp only [Mem.get, Nat.beq_eq, decide_true, cond_true] at hg
        have : φ = Own K e v' (xs ++ ys) := by simpa using hg.symm
        subst this
        intro L w'' hL k'
        have hall := hch.append hdh
        have klive : Keeps (live κ) w w' := hkeep.mono fun b _ hb => by unfold live; omega
        have h1 : Chunks K (live fun b => if w.heap.size ≤ b ∧ b < w'.heap.size then l' else κ b) w' (xs ++ ys) (css ++ dss) := hall.later klive (fun b _ hb => hb) fun b hlt hb => by
          have : (if w.heap.size ≤ b ∧ b < w'.heap.size then l' else κ b) ≠ 0 := hb
          rw [if_neg (by omega)] at this
          exact this
        refine ⟨css ++ dss, h1.later k' (fun b _ hb => hb.1) hL, ?_, hF'⟩
        rw [List.flatten_append, List.length_append]
        exact owns_block hown' fun gb hgb => k'.block gb (hown'.lt gb hgb).2 (by rintro ⟨_, h2⟩; exact h2 (hF' gb hgb))
theorem TrL.appendS {τ : Type} {K : Rep τ} (n : Nat) {t e : TypeId} {bytes : Nat} {x y : Operand} {v : Value} {xs ys : List τ} (ho : o.op = .call ⟨.builtin .append, #[x, y], #[t, t]⟩) (hg : o.guard = none) (d : Nat) (hed : o.dst = some d) (hd : Nat.blt d B.N = true)
    (hx : Has M Γ x (is v)) (hm : M.get n = some (Own K e v xs)) (hn : B.own n = true) (hy : Has M Γ y (Lst K ys)) (hu : P.underlying t = some (.slice e)) (he : elemB P e K.n bytes = true) (hpos : 0 < ys.length)
    (hlen : (xs.length + ys.length) * bytes ≤ 140737488355328) (hlen2 : xs.length + ys.length ≤ maxLen)
    (k : ∀ v', TrL B P ops l ((n, Own K e v' (xs ++ ys)) :: M) ((d, is v') :: Γ) Q) : TrL B P ops (o :: l) M Γ Q :=
  TrL.append n ho hg (by rw [hed]; exact hd) hx hm hn hy hu he hpos hlen hlen2 fun v' => by rw [hed]; exact k v'
end
end Go.Proofs.Ytemkogoclljhpaa.L
