/- Own variables by facts; elements of own slices; small operations. -/
import Derived.Test.YtemkogoclljhpaaLI
namespace Go.Proofs.Ytemkogoclljhpaa.L
open Go
set_option linter.unusedVariables false
set_option linter.unusedSimpArgs false

/-! ### 1. Own variables, of whose cells facts hold -/
/-- facts on cells, kept whatever is written -/
def AllB (L : Foot) (w : World) (Rs : List VP) (cs : List Value) : Prop := ∀ w', Keeps L w w' → All2 w' Rs cs
theorem AllB.later {S L L' : Foot} {w w' : World} {Rs : List VP} {cs : List Value} (h : AllB L w Rs cs) (k : Keeps S w w') (h1 : ∀ b, b < w.heap.size → S b → L b) (h2 : ∀ b, b < w.heap.size → L' b → L b) : AllB L' w' Rs cs :=
  fun w'' k' => h w'' (k.then k' h1 h2)
theorem AllB.len {L : Foot} {w : World} {Rs : List VP} {cs : List Value} (h : AllB L w Rs cs) : cs.length = Rs.length := (h w (Keeps.refl _ _)).length
def BlkR (b : Nat) (Rs : List VP) (T : TypeId) : RP := fun F L w => F b ∧ ∃ cs, w.heap[b]? = some (.cells cs.toArray T (0, 0)) ∧ AllB L w Rs cs
theorem Blk.toR {b : Nat} {cs : List Value} {T : TypeId} : ∀ F L w, Blk b cs T F L w → BlkR b (cs.map is) T F L w := fun F L w h => ⟨h.1, cs, h.2, fun w' _ => All2.of_is cs⟩
theorem BlkR.toB {b : Nat} {cs : List Value} {T : TypeId} : ∀ F L w, BlkR b (cs.map is) T F L w → Blk b cs T F L w := fun F L w ⟨h, ds, h1, h2⟩ => ⟨h, by rw [← (h2 w (Keeps.refl _ _)).is]; exact h1⟩
theorem BlkR.imp {b : Nat} {Rs Rs' : List VP} {T : TypeId} (h : ImpL Rs Rs') : ∀ F L w, BlkR b Rs T F L w → BlkR b Rs' T F L w := fun F L w ⟨hF, cs, h1, h2⟩ => ⟨hF, cs, h1, fun w' k => h.all (h2 w' k)⟩
/-- a step in which label n's blocks alone turn keeps what held for good -/
theorem AllB.own {κ : Nat → Nat} {n : Nat} {w w' : World} {Rs : List VP} {cs : List Value} (hn : n ≠ 0) (h : AllB (live κ) w Rs cs) (k : Keeps (fun x => κ x = n) w w') : AllB (live κ) w' Rs cs :=
  h.later k (fun b _ hb => by unfold live; omega) fun b _ h => h
theorem blkR_ok {κ : Nat → Nat} {n b : Nat} {Rs : List VP} {cs : List Value} {T : TypeId} {w : World} (hb : κ b = n) (h : w.heap[b]? = some (.cells cs.toArray T (0, 0))) (ha : AllB (live κ) w Rs cs) : ResOk κ n (BlkR b Rs T) w := fun L w' hL k =>
  ⟨hb, cs, by rw [k.block b (by
    rcases Nat.lt_or_ge b w.heap.size with h' | h'
    · exact h'
    · rw [Array.getElem?_eq_none h'] at h; cases h) (by rintro ⟨_, h2⟩; exact h2 hb)]; exact h, ha.later k (fun b _ hb => hb.1) hL⟩
theorem getL_len {α : Type} {xs : List α} {i : Nat} {x : α} (h : xs[i]? = some x) : i < xs.length := by
  rcases Nat.lt_or_ge i xs.length with h' | h'
  · exact h'
  · rw [List.getElem?_eq_none h'] at h; cases h
theorem all2_set : ∀ {w : World} {Rs : List VP} {cs : List Value} {i : Nat} {R : VP} {v : Value}, All2 w Rs cs → R v w → i < cs.length → All2 w (Rs.set i R) (cs.set i v)
  | w, _, _, i, R, v, .nil, _, h => by simp at h
  | w, _, _, 0, R, v, .cons h r, hv, _ => .cons hv r
  | w, _, _, i + 1, R, v, .cons h r, hv, hl => .cons h (all2_set r hv (by simpa using hl))

section
variable {B : Base} {P : Program} {M : Mem} {Γ : Env} {Q : Exit → Act → World → Prop} {ops : Array Oper} {o : Oper} {l : List Oper} {R : VP}
theorem OpM.loadR (n : Nat) {b off : Nat} {T T' : TypeId} {x : Operand} {Rs Ss : List VP} (ho : o.op = .load T' x) (hx : Has M Γ x (is (.pointer (some ⟨b, off, none⟩)))) (hm : M.get n = some (BlkR b Rs T)) (hn : Nat.ble 2 n = true)
    (hc : Rs.drop off = R :: Ss) (ht : scalarB P T' = true) : OpM P M Γ o R :=
  OpM.pure fun a w κ hw m hr => by
    obtain ⟨hb, cs, hh, ha⟩ := (m n _ (by simpa [Nat.ble_eq] using hn) hm).now
    have h0 := (ha w (Keeps.refl _ _)).drop off
    rw [hc] at h0
    cases hd : cs.drop off with
    | nil => rw [hd] at h0; cases h0
    | cons c ds =>
      have hcell : w.cell? ⟨b, off, none⟩ = some c := by
        rw [cell_of_row w b off cs.toArray T (0, 0) hh]
        have : cs[off]? = (cs.drop off)[0]? := by simp
        simp [this, hd]
      refine ⟨c, ?_, fun w' k => ?_⟩
      · unfold execOp
        rw [ho]
        simp only [Instr.loadAt, hx.val m hr (by simp [ho, Op.operands]), Instr.sureAddr, Sem.run_bind, Sem.run_pure, Result.andThen_ok, run_loadVar1 ht hcell]
      · have h1 := (ha w' k).drop off
        rw [hc, hd] at h1
        cases h1 with
        | cons h2 r => exact h2
theorem OpM.loadRN (n : Nat) {b off k : Nat} {T T' : TypeId} {x : Operand} {Rs Ss : List VP} (ho : o.op = .load T' x) (hx : Has M Γ x (is (.pointer (some ⟨b, off, none⟩)))) (hm : M.get n = some (BlkR b Rs T)) (hn : Nat.ble 2 n = true)
    (hc : (Rs.drop off).take k = Ss) (ht : aggB P T' k = true) (hk : Nat.beq Ss.length k = true) : OpM P M Γ o (AggR Ss) :=
  OpM.pure fun a w κ hw m hr => by
    obtain ⟨hb, cs, hh, ha⟩ := (m n _ (by simpa [Nat.ble_eq] using hn) hm).now
    have h0 := ((ha w (Keeps.refl _ _)).drop off).take k
    have hl := run_loadVarN (P := P) (w := w) (n := k) (cs := (cs.drop off).take k) ht (by rw [h0.length, hc]; exact beq_true hk) ((blk_cells hh).take k)
    refine ⟨.agg ((cs.drop off).take k).toArray, ?_, fun w' kp => ⟨_, rfl, hc ▸ ((ha w' kp).drop off).take k⟩⟩
    unfold execOp
    rw [ho]
    simp only [Instr.loadAt, hx.val m hr (by simp [ho, Op.operands]), Instr.sureAddr, Sem.run_bind, Sem.run_pure, Result.andThen_ok, hl]
theorem ResV.cellR (n : Nat) {t b off k : Nat} {ty T : TypeId} {Rs Ss : List VP} (h : Γ.get t = some (is (.pointer (some ⟨b, off, none⟩)))) (hm : M.get n = some (BlkR b Rs T)) (hn : Nat.ble 2 n = true) (hc : (Rs.drop off).take k = Ss) (ht : aggB P ty k = true) (hk : Nat.beq Ss.length k = true) :
    ResV P M Γ (.cell t ty) (AggR Ss) := fun a w κ _ m r => by
  obtain ⟨hb, cs, hh, ha⟩ := (m n _ (by simpa [Nat.ble_eq] using hn) hm).now
  have h0 := ((ha w (Keeps.refl _ _)).drop off).take k
  have hl := run_loadVarN (P := P) (w := w) (n := k) (cs := (cs.drop off).take k) ht (by rw [h0.length, hc]; exact beq_true hk) ((blk_cells hh).take k)
  refine ⟨.agg ((cs.drop off).take k).toArray, ?_, fun w' kp => ⟨_, rfl, hc ▸ ((ha w' kp).drop off).take k⟩⟩
  have e2 : a.tmps.getD t undef = .pointer (some ⟨b, off, none⟩) := (r t _ h).now
  simp only [e2, asAddr, Sem.run_bind, Sem.run_pure, Result.andThen_ok, hl]
theorem ResV.cellR1 (n : Nat) {t b off : Nat} {ty T : TypeId} {Rs Ss : List VP} (h : Γ.get t = some (is (.pointer (some ⟨b, off, none⟩)))) (hm : M.get n = some (BlkR b Rs T)) (hn : Nat.ble 2 n = true) (hc : Rs.drop off = R :: Ss) (ht : scalarB P ty = true) :
    ResV P M Γ (.cell t ty) R := fun a w κ _ m r => by
  obtain ⟨hb, cs, hh, ha⟩ := (m n _ (by simpa [Nat.ble_eq] using hn) hm).now
  have h0 := (ha w (Keeps.refl _ _)).drop off
  rw [hc] at h0
  cases hd : cs.drop off with
  | nil => rw [hd] at h0; cases h0
  | cons c ds =>
    have hcell : w.cell? ⟨b, off, none⟩ = some c := by
      rw [cell_of_row w b off cs.toArray T (0, 0) hh]
      have : cs[off]? = (cs.drop off)[0]? := by simp
      simp [this, hd]
    refine ⟨c, ?_, fun w' k => ?_⟩
    · have e2 : a.tmps.getD t undef = .pointer (some ⟨b, off, none⟩) := (r t _ h).now
      simp only [e2, asAddr, Sem.run_bind, Sem.run_pure, Result.andThen_ok, run_loadVar1 ht hcell]
    · have h1 := (ha w' k).drop off
      rw [hc, hd] at h1
      cases h1 with
      | cons h2 r => exact h2
/-- one cell of an own variable written -/
theorem TrL.storeR1 (n : Nat) {b off : Nat} {T T' : TypeId} {x y : Operand} {Rs : List VP} (ho : o.op = .store T' x y) (hg : o.guard = none) (hd : o.dst = none) (hx : Has M Γ x (is (.pointer (some ⟨b, off, none⟩)))) (hy : Has M Γ y R)
    (hm : M.get n = some (BlkR b Rs T)) (hn : B.own n = true) (h1 : ∀ v w, R v w → v.cells = #[v] ∧ v.oneCell' = true) (hs : sizeB P T' 1 = true) (hl : Nat.ble (off + 1) Rs.length = true)
    (k : TrL B P ops l ((n, BlkR b (Rs.set off R) T) :: M) Γ Q) : TrL B P ops (o :: l) M Γ Q := by
  intro a w s
  obtain ⟨κ, g, m, r⟩ := s.ex
  have hn' : B.own n = true := hn
  obtain ⟨hb, cs, hh, ha⟩ := (m n _ (g.two _ hn') hm).now
  have hyb := hy.box m (r.on o.op.operands.toList) (by simp [ho, Op.operands])
  have hv := h1 _ _ hyb.now
  have hlen : off + 1 ≤ cs.length := by rw [ha.len]; simpa [Nat.ble_eq] using hl
  obtain ⟨w', h2, h3, h4⟩ := run_storeVar (P := P) (T' := T') (off := off) (v := a.eval y) (vs := [a.eval y]) hh (by rw [hv.1]) hs (by simpa using hlen) (by simp [hv.2])
  refine wpList_step fun K hK => ?_
  rw [if_pos (by simp [Region.wanted, hg])]
  unfold Oper.wp execOp
  rw [ho]
  simp only [hx.val m (r.on o.op.operands.toList) (by simp [ho, Op.operands]), Instr.storeAt, Instr.sureAddr, Sem.run_bind, Sem.run_pure, Result.andThen_ok, h2]
  have h5 : Keeps (fun x => κ x = n) w w' := h4.mono fun x _ hx => hx ▸ hb
  have two := g.two _ hn'
  have hset : AllB (live κ) w' (Rs.set off R) (cs.set off (a.eval y)) := fun w'' k'' =>
    all2_set ((ha.own (by omega) h5) w'' k'') (hyb w'' ((h5.mono fun b _ hb => by unfold live; omega).trans k'')) (by omega)
  exact hK _ _ (k _ _ ((St.turn1 hn' s.size s.defers g m r h5 (blkR_ok hb h3 hset)).put_undef hd _))
/-- an own variable written whole -/
theorem TrL.storeRW (n : Nat) {b : Nat} {T T' : TypeId} {x y : Operand} {Rs Ss : List VP} (ho : o.op = .store T' x y) (hg : o.guard = none) (hd : o.dst = none) (hx : Has M Γ x (is (.pointer (some ⟨b, 0, none⟩)))) (hy : Has M Γ y (AggR Ss))
    (hm : M.get n = some (BlkR b Rs T)) (hn : B.own n = true) (h1 : ∀ w cs, All2 w Ss cs → cs.all (·.oneCell') = true) (hs : sizeB P T' Ss.length = true) (hl : Nat.beq Ss.length Rs.length = true)
    (k : TrL B P ops l ((n, BlkR b Ss T) :: M) Γ Q) : TrL B P ops (o :: l) M Γ Q := by
  intro a w s
  obtain ⟨κ, g, m, r⟩ := s.ex
  have hn' : B.own n = true := hn
  obtain ⟨hb, cs, hh, ha⟩ := (m n _ (g.two _ hn') hm).now
  have hyb := hy.box m (r.on o.op.operands.toList) (by simp [ho, Op.operands])
  obtain ⟨vs, ev, hvs⟩ := hyb.now
  have hlen : vs.length = cs.length := by rw [hvs.length, ha.len]; exact beq_true hl
  obtain ⟨w', h2, h3, h4⟩ := run_storeVar (P := P) (T' := T') (off := 0) (v := a.eval y) (vs := vs) hh (by rw [ev]; rfl) (by rw [hvs.length]; exact hs) (by omega) (h1 _ _ hvs)
  rw [setAt_all _ _ hlen] at h3
  refine wpList_step fun K hK => ?_
  rw [if_pos (by simp [Region.wanted, hg])]
  unfold Oper.wp execOp
  rw [ho]
  simp only [hx.val m (r.on o.op.operands.toList) (by simp [ho, Op.operands]), Instr.storeAt, Instr.sureAddr, Sem.run_bind, Sem.run_pure, Result.andThen_ok, h2]
  have h5 : Keeps (fun x => κ x = n) w w' := h4.mono fun x _ hx => hx ▸ hb
  have two := g.two _ hn'
  have hset : AllB (live κ) w' Ss vs := fun w'' k'' => by
    obtain ⟨us, eu, hus⟩ := hyb w'' ((h5.mono fun b _ hb => by unfold live; omega).trans k'')
    rw [ev] at eu
    have : vs = us := by simpa using eu
    rw [this]; exact hus
  exact hK _ _ (k _ _ ((St.turn1 hn' s.size s.defers g m r h5 (blkR_ok hb h3 hset)).put_undef hd _))

/-! ### 2. Elements of own slices, and of slices that are lent -/
/-- where an element's cell stands -/
def elemP (v : Value) (m : Nat) : Value := match v with | .slice (some a) _ _ => .pointer (some (a.add m)) | _ => undef
/-- a slice that is lent -/
def View {τ : Type} (K : Rep τ) (v : Value) (xs : List τ) : RP := fun F L w => ∃ A c, v = .slice A xs.length c ∧ xs.length ≤ c ∧ (0 < xs.length → ∃ ad css, A = some ad ∧ Chunks K L w xs css ∧ ∀ i cs, css[i]? = some cs → CellsAt w (ad.add (i * K.n)) cs)
theorem Own.view {τ : Type} {K : Rep τ} {e : TypeId} {v : Value} {xs : List τ} : ∀ F L w, Own K e v xs F L w → View K v xs F L w := fun F L w h => by
  obtain ⟨css, hc, ⟨hl, h⟩, hF⟩ := h
  rcases h with ⟨rfl, h0⟩ | ⟨g, cap, cur, rfl, _, hh, hn, _, hcs, ht⟩
  · exact ⟨none, 0, by rw [h0], by omega, fun h => by omega⟩
  · refine ⟨_, cap, rfl, hn, fun _ => ⟨_, css, rfl, hc, fun i cs hi j u hu => ?_⟩⟩
    have h3 := chunk_get css (fun c hc' => (hc.each c hc').1) i j cs u hi hu
    rw [add_add, Addr.add_lit, Nat.zero_add, cell_of_row w g _ cur e (0, 0) hh]
    rw [← ht, List.getElem?_take] at h3
    split at h3
    · simpa using h3
    · cases h3
theorem Fact.view {τ : Type} {K : Rep τ} {v : Value} {xs : List τ} : ∀ F L w, Fact (Lst K xs) v F L w → View K v xs F L w := fun F L w h => by
  have hb := h.2
  obtain ⟨A, c, ev, hc, _⟩ := hb.now
  refine ⟨A, c, ev, hc, fun hp => ?_⟩
  obtain ⟨ad, c', css, ev', _, hch, hat, _⟩ := lst_chunks hb hp
  rw [ev] at ev'
  simp only [Value.slice.injEq, true_and] at ev'
  exact ⟨ad, css, ev'.1, hch, hat⟩
theorem View.refl {τ : Type} {K : Rep τ} {v : Value} {xs : List τ} : ∀ F L w, View K v xs F L w → View K v xs F L w := fun _ _ _ h => h
variable {τ : Type} {K : Rep τ} {xs : List τ} {v : Value} {φ : RP} {t e T : TypeId} {x y : Operand}
theorem OpM.lenV (n : Nat) (ho : o.op = .call ⟨.builtin .len, #[x], #[t]⟩) (hx : Has M Γ x (is v)) (hm : M.get n = some φ) (hφ : ∀ F L w, φ F L w → View K v xs F L w) (hn : Nat.ble 2 n = true) (hu : P.underlying t = some (.slice e)) : OpM P M Γ o (is (.int .i64 xs.length)) :=
  OpM.isv fun a w κ m hr => by
    obtain ⟨A, c, ev, hc, _⟩ := hφ _ _ _ (m n _ (by simpa [Nat.ble_eq] using hn) hm).now
    unfold execOp
    rw [ho]
    have hxv := hx.val m hr (by simp [ho, Op.operands, Call.operands])
    rw [ev] at hxv
    simp [resolve, invoke, builtin, Builtin.len_, run_underlying hu, hxv, goInt]
theorem OpM.indexW (n : Nat) {k : IntKind} {i : Int} (ho : o.op = .indexAddr t x y) (hx : Has M Γ x (is v)) (hy : Has M Γ y (is (.int k i))) (hm : M.get n = some φ) (hφ : ∀ F L w, φ F L w → View K v xs F L w) (hn : Nat.ble 2 n = true)
    (hu : P.underlying t = some (.slice e)) (hs : sizeB P e K.n = true) (h0 : 0 ≤ i) (h1 : i < xs.length) : OpM P M Γ o (is (elemP v (i.toNat * K.n + 0))) :=
  OpM.isv fun a w κ m hr => by
    obtain ⟨A, c, ev, hc, hA⟩ := hφ _ _ _ (m n _ (by simpa [Nat.ble_eq] using hn) hm).now
    obtain ⟨ad, css, rfl, _, _⟩ := hA (by omega)
    have hxv := hx.val m hr (by simp [ho, Op.operands])
    unfold execOp
    rw [ho]
    simp only [hxv, ev, hy.val m hr (by simp [ho, Op.operands]), Sem.run_bind, run_indexSl hu hs h0 h1 w, Result.andThen_ok, elemP, Nat.add_zero]
    rfl
theorem OpM.fieldW (n : Nat) {s i off m : Nat} (ho : o.op = .fieldAddr s x i) (hx : Has M Γ x (is (elemP v m))) (hm : M.get n = some φ) (hφ : ∀ F L w, φ F L w → View K v xs F L w) (hn : Nat.ble 2 n = true) (h1 : 0 < xs.length) (h : fieldB P s i off = true) : OpM P M Γ o (is (elemP v (m + off))) :=
  OpM.isv fun a w κ mm hr => by
    obtain ⟨A, c, ev, hc, hA⟩ := hφ _ _ _ (mm n _ (by simpa [Nat.ble_eq] using hn) hm).now
    obtain ⟨ad, css, rfl, _, _⟩ := hA h1
    have hxv := hx.val mm hr (by simp [ho, Op.operands])
    unfold execOp
    rw [ho]
    simp only [hxv, ev, elemP, Sem.run_bind, run_fieldAt h _ w, Result.andThen_ok, add_add]
    rfl
theorem OpM.nilCheckW (n : Nat) {m : Nat} (ho : o.op = .nilCheck x) (hx : Has M Γ x (is (elemP v m))) (hm : M.get n = some φ) (hφ : ∀ F L w, φ F L w → View K v xs F L w) (hn : Nat.ble 2 n = true) (h1 : 0 < xs.length) : OpM P M Γ o (is (elemP v m)) :=
  OpM.isv fun a w κ mm hr => by
    obtain ⟨A, c, ev, hc, hA⟩ := hφ _ _ _ (mm n _ (by simpa [Nat.ble_eq] using hn) hm).now
    obtain ⟨ad, css, rfl, _, _⟩ := hA h1
    unfold execOp
    rw [ho]
    simp [hx.val mm hr (by simp [ho, Op.operands]), ev, elemP]
theorem view_cells {F L : Foot} {w : World} (h : View K v xs F L w) {i : Nat} {z : τ} (hz : xs[i]? = some z) : ∃ ad c cs, v = .slice (some ad) xs.length c ∧ Chunk K L w z cs ∧ CellsAt w (ad.add (i * K.n)) cs := by
  obtain ⟨A, c, ev, hc, hA⟩ := h
  obtain ⟨ad, css, rfl, hch, hat⟩ := hA (Nat.lt_of_le_of_lt (Nat.zero_le _) (getL_len hz))
  obtain ⟨cs, h1, h2⟩ := hch.get hz
  exact ⟨ad, c, cs, ev, h2, hat i cs h1⟩
theorem OpM.loadW (n i off : Nat) {z : τ} {Ss : List VP} (ho : o.op = .load T x) (hx : Has M Γ x (is (elemP v (i * K.n + off)))) (hm : M.get n = some φ) (hφ : ∀ F L w, φ F L w → View K v xs F L w) (hn : Nat.ble 2 n = true)
    (hz : xs[i]? = some z) (hc : (K.fs z).drop off = R :: Ss) (ht : scalarB P T = true) : OpM P M Γ o R :=
  OpM.pure fun a w κ hw mm hr => by
    obtain ⟨ad, c, cs, ev, hch, hat⟩ := view_cells (hφ _ _ _ (mm n _ (by simpa [Nat.ble_eq] using hn) hm).now) hz
    have h0 := (hch.2 w (Keeps.refl _ _)).drop off
    rw [hc] at h0
    cases hd : cs.drop off with
    | nil => rw [hd] at h0; cases h0
    | cons u us =>
      have h3 := hat.drop off 0 u (by rw [hd]; rfl)
      rw [Addr.add_zero', add_add] at h3
      refine ⟨u, ?_, fun w' k => ?_⟩
      · unfold execOp
        rw [ho]
        simp only [Instr.loadAt, hx.val mm hr (by simp [ho, Op.operands]), ev, elemP, Instr.sureAddr, Sem.run_bind, Sem.run_pure, Result.andThen_ok, run_loadVar1 ht h3]
      · have h4 := (hch.2 w' k).drop off
        rw [hc, hd] at h4
        cases h4 with
        | cons h5 r => exact h5
theorem OpM.loadWN (n i off k : Nat) {z : τ} {Ss : List VP} (ho : o.op = .load T x) (hx : Has M Γ x (is (elemP v (i * K.n + off)))) (hm : M.get n = some φ) (hφ : ∀ F L w, φ F L w → View K v xs F L w) (hn : Nat.ble 2 n = true)
    (hz : xs[i]? = some z) (hc : ((K.fs z).drop off).take k = Ss) (hk : Nat.beq Ss.length k = true) (ht : aggB P T k = true) : OpM P M Γ o (AggR Ss) :=
  OpM.pure fun a w κ hw mm hr => by
    obtain ⟨ad, c, cs, ev, hch, hat⟩ := view_cells (hφ _ _ _ (mm n _ (by simpa [Nat.ble_eq] using hn) hm).now) hz
    have h0 := ((hch.2 w (Keeps.refl _ _)).drop off).take k
    rw [hc] at h0
    have h3 := (hat.drop off).take k
    rw [add_add] at h3
    have hl := run_loadVarN (P := P) (w := w) (n := k) (cs := (cs.drop off).take k) ht (by rw [h0.length]; exact beq_true hk) h3
    refine ⟨.agg ((cs.drop off).take k).toArray, ?_, fun w' kp => ⟨_, rfl, hc ▸ ((hch.2 w' kp).drop off).take k⟩⟩
    unfold execOp
    rw [ho]
    simp only [Instr.loadAt, hx.val mm hr (by simp [ho, Op.operands]), ev, elemP, Instr.sureAddr, Sem.run_bind, Sem.run_pure, Result.andThen_ok, hl]
/-! an element written -/
theorem set_flat {n : Nat} {css : List (List Value)} (hn : ∀ cs ∈ css, cs.length = n) {i off : Nat} {cs vs rest : List Value} (hi : css[i]? = some cs) (hl : off + vs.length ≤ n) :
    setAt (css.flatten ++ rest) (i * n + off) vs = (css.set i (setAt cs off vs)).flatten ++ rest := by
  have hlt := getL_len hi
  have hcs : cs.length = n := hn cs (List.mem_of_getElem? hi)
  have e0 : css = css.take i ++ cs :: css.drop (i + 1) := by
    have h1 : css[i] = cs := by rw [List.getElem?_eq_getElem hlt] at hi; simpa using hi
    rw [← h1, ← List.drop_eq_getElem_cons hlt, List.take_append_drop]
  have hpre : (css.take i).flatten.length = i * n := by
    rw [flat_len (css.take i) fun c hc => hn c (List.mem_of_mem_take hc), List.length_take, Nat.min_eq_left (Nat.le_of_lt hlt)]
  have e1 : cs = cs.take off ++ (cs.drop off).take vs.length ++ cs.drop (off + vs.length) := by
    rw [List.append_assoc, ← List.drop_drop, List.take_append_drop, List.take_append_drop]
  have hmid : ((cs.drop off).take vs.length).length = vs.length := by simp; omega
  have hoff : (cs.take off).length = off := by simp; omega
  have s1 : setAt cs off vs = cs.take off ++ vs ++ cs.drop (off + vs.length) := by
    have := setAt_eq vs (cs.take off) (cs.drop (off + vs.length)) ((cs.drop off).take vs.length) hmid
    rw [← e1, hoff] at this
    exact this
  have s2 : css.set i (setAt cs off vs) = css.take i ++ setAt cs off vs :: css.drop (i + 1) := by
    rw [List.set_eq_take_append_cons_drop, if_pos hlt]
  rw [s2, s1]
  have s3 := setAt_eq vs ((css.take i).flatten ++ cs.take off) (cs.drop (off + vs.length) ++ (css.drop (i + 1)).flatten ++ rest) ((cs.drop off).take vs.length) hmid
  have e2 : css.flatten ++ rest = (css.take i).flatten ++ cs.take off ++ (cs.drop off).take vs.length ++ (cs.drop (off + vs.length) ++ (css.drop (i + 1)).flatten ++ rest) := by
    rw [e0]
    simp only [List.flatten_append, List.flatten_cons, List.append_assoc]
    rw [← e0]
    congr 1
    have : cs ++ ((css.drop (i + 1)).flatten ++ rest) = (cs.take off ++ (cs.drop off).take vs.length ++ cs.drop (off + vs.length)) ++ ((css.drop (i + 1)).flatten ++ rest) := by rw [← e1]
    simpa [List.append_assoc] using this
  rw [e2, show i * n + off = ((css.take i).flatten ++ cs.take off).length by rw [List.length_append, hpre, hoff], s3]
  simp [List.append_assoc]
def setV : List VP → Nat → List VP → List VP
  | Rs, _, [] => Rs
  | Rs, off, S :: Ss => setV (Rs.set off S) (off + 1) Ss
theorem all2_setV {w : World} : ∀ {Ss : List VP} {vs : List Value} {Rs : List VP} {cs : List Value} {off : Nat}, All2 w Ss vs → All2 w Rs cs → off + vs.length ≤ cs.length → All2 w (setV Rs off Ss) (setAt cs off vs)
  | [], _, Rs, cs, off, .nil, h, _ => h
  | S :: Ss, v :: vs, Rs, cs, off, .cons h1 r1, h, hl => by
    simp only [List.length_cons] at hl
    exact all2_setV (off := off + 1) r1 (all2_set h h1 (by omega)) (by rw [List.length_set]; omega)
theorem ownsRow_set {w : World} {css : List (List Value)} {m i off : Nat} {cs vs : List Value} {n : Nat} (h : w.ownsRow 0 e n v m css.flatten) (hn : ∀ c ∈ css, c.length = n) (hi : css[i]? = some cs) (hl : off + vs.length ≤ n) (h1 : vs.all (·.oneCell') = true) (hlen : css.length = m) {T' : TypeId} {u : Value} (hu : u.cells = vs.toArray) (hs : sizeB P T' vs.length = true) :
    ∃ g w', v.ownBlock = some g ∧ elemP v (i * n + off) = .pointer (some ⟨g, i * n + off, none⟩) ∧ (storeVar T' ⟨g, i * n + off, none⟩ u).run P w = .ok () w' ∧ w'.ownsRow 0 e n v m (css.set i (setAt cs off vs)).flatten ∧ Keeps (fun x => x = g) w w' := by
  obtain ⟨hfl, h⟩ := h
  have hlt := getL_len hi
  rcases h with ⟨rfl, h0⟩ | ⟨g, cap, cur, rfl, hb, hh, hnc, hcm, hcs, ht⟩
  · omega
  · have hle : (i + 1) * n ≤ cap * n := Nat.mul_le_mul_right _ (by omega)
    rw [Nat.succ_mul] at hle
    have hcur : cur.toList = css.flatten ++ cur.toList.drop (m * n) := by
      rw [← ht, List.take_append_drop]
    obtain ⟨w', h2, h3, h4⟩ := run_storeVar (P := P) (T' := T') (b := g) (T := e) (off := i * n + off) (v := u) (vs := vs) (cs := cur.toList) (w := w) (by simpa using hh) hu hs (by simp; omega) h1
    refine ⟨g, w', rfl, by simp [elemP, Addr.add_lit], h2, ⟨?_, .inr ⟨g, cap, (setAt cur.toList (i * n + off) vs).toArray, rfl, hb, h3, hnc, hcm, ?_, ?_⟩⟩, h4⟩
    · rw [flat_len (n := n) _ fun c hc => ?_, List.length_set, hlen]
      rcases List.mem_or_eq_of_mem_set hc with h | h
      · exact hn c h
      · rw [h, setAt_length]; exact hn cs (List.mem_of_getElem? hi)
    · simp [setAt_length]; exact hcs
    · have := set_flat hn (rest := cur.toList.drop (m * n)) hi hl
      rw [← hcur] at this
      rw [this]
      rw [List.take_append_of_le_length, List.take_of_length_le]
      · rw [flat_len (n := n) _ fun c hc => ?_, List.length_set, hlen]
        · exact Nat.le_refl _
        · rcases List.mem_or_eq_of_mem_set hc with h | h
          · exact hn c h
          · rw [h, setAt_length]; exact hn cs (List.mem_of_getElem? hi)
      · rw [flat_len (n := n) _ fun c hc => ?_, List.length_set, hlen]
        · exact Nat.le_refl _
        · rcases List.mem_or_eq_of_mem_set hc with h | h
          · exact hn c h
          · rw [h, setAt_length]; exact hn cs (List.mem_of_getElem? hi)
/-- a part of an element written -/
theorem TrL.storeO (n i off : Nat) {T' : TypeId} {z z' : τ} {Ss : List VP} (ho : o.op = .store T' x y) (hg : o.guard = none) (hd : o.dst = none) (hx : Has M Γ x (is (elemP v (i * K.n + off)))) (hy : Has M Γ y R)
    (hR : ∀ u w, R u w → ∃ vs : List Value, u.cells = vs.toArray ∧ All2 w Ss vs ∧ vs.all (·.oneCell') = true) (hm : M.get n = some (Own K e v xs)) (hn : B.own n = true) (hz : xs[i]? = some z) (hz' : K.fs z' = setV (K.fs z) off Ss)
    (hl : Nat.ble (off + Ss.length) K.n = true) (hs : sizeB P T' Ss.length = true) (k : TrL B P ops l ((n, Own K e v (xs.set i z')) :: M) Γ Q) : TrL B P ops (o :: l) M Γ Q := by
  intro a w s
  obtain ⟨κ, g, m, r⟩ := s.ex
  have hn' : B.own n = true := hn
  have two := g.two _ hn'
  obtain ⟨css, hch, hown, hF⟩ := (m n _ two hm).now
  obtain ⟨cs, hci, hck⟩ := hch.get hz
  have hyb := hy.box m (r.on o.op.operands.toList) (by simp [ho, Op.operands])
  obtain ⟨vs, ev, hvs, hone⟩ := hR _ _ hyb.now
  have hl' : off + vs.length ≤ K.n := by rw [hvs.length]; simpa [Nat.ble_eq] using hl
  obtain ⟨gb, w', h1, h2, h3, h4, h5⟩ := ownsRow_set (P := P) (T' := T') hown (fun c hc => (hch.each c hc).1) hci hl' hone hch.1 ev (by rw [hvs.length]; exact hs)
  have hgb := hF gb h1
  refine wpList_step fun K' hK => ?_
  rw [if_pos (by simp [Region.wanted, hg])]
  unfold Oper.wp execOp
  rw [ho]
  have hxv := hx.val m (r.on o.op.operands.toList) (by simp [ho, Op.operands])
  rw [h2] at hxv
  simp only [hxv, Instr.storeAt, Instr.sureAddr, Sem.run_bind, Sem.run_pure, Result.andThen_ok, h3]
  have h6 : Keeps (fun x => κ x = n) w w' := h5.mono fun x _ hx => hx ▸ hgb
  have hlv : Keeps (live κ) w w' := h6.mono fun b _ hb => by unfold live; omega
  have hnew : Chunks K (live κ) w' (xs.set i z') (css.set i (setAt cs off vs)) := by
    refine ⟨by simp [hch.1], fun j x' c' hx' hc' => ?_⟩
    by_cases hij : i = j
    · subst hij
      have hxl := getL_len hz
      have hcl := getL_len hci
      rw [List.getElem?_set_self hxl] at hx'
      rw [List.getElem?_set_self hcl] at hc'
      simp only [Option.some.injEq] at hx' hc'
      subst hx'; subst hc'
      have hmain : ∀ w'', Keeps (live κ) w' w'' → All2 w'' (K.fs z') (setAt cs off vs) := fun w'' k'' => by
        rw [hz']
        obtain ⟨us, eu, hus, _⟩ := hR _ _ (hyb w'' (hlv.trans k''))
        have : us = vs := by rw [ev] at eu; simpa using eu.symm
        subst this
        exact all2_setV hus (hck.2 w'' (hlv.trans k'')) (by rw [hck.length]; exact hl')
      exact ⟨K.one _ _ _ (hmain w' (Keeps.refl _ _)), hmain⟩
    · rw [List.getElem?_set_ne hij] at hx' hc'
      exact (hch.2 j x' c' hx' hc').later hlv (fun _ _ h => h) fun _ _ h => h
  refine hK _ _ (k _ _ ((St.turn1 hn' s.size s.defers g m r h6 ?_).put_undef hd _))
  intro L w'' hL k''
  refine ⟨_, hnew.later k'' (fun b _ hb => hb.1) hL, ?_, hF⟩
  rw [List.length_set]
  exact owns_block h4 fun g' hg' => k''.block g' (h4.lt g' hg').2 (by rintro ⟨_, h7⟩; exact h7 (hF g' hg'))
end
end Go.Proofs.Ytemkogoclljhpaa.L
