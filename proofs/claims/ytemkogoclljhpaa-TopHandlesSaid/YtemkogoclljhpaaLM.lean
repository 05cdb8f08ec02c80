/- Maps of this call's own. -/
import Derived.Test.YtemkogoclljhpaaLK
import Derived.MapKept
namespace Go.Proofs.Ytemkogoclljhpaa.L
open Go Go.MapKept
set_option linter.unusedVariables false
set_option linter.unusedSimpArgs false
set_option linter.unusedSectionVars false

structure KRep (α : Type) where
  kd : TypeDesc
  kv : α → Value
  isKey : ∀ a, IsKey kd (kv a)
  inj : ∀ a b, kv a = kv b → a = b
def intK (k : IntKind) : KRep Int := ⟨.int k, .int k, fun _ => rfl, fun a b h => by simpa using h⟩
def strK : KRep ByteArray := ⟨.string, .string, fun _ => trivial, fun a b h => by simpa using h⟩

section
variable {α β : Type}
def Ents (κr : KRep α) (K : β → VP) (L : Foot) (w : World) (l : List (α × β)) (es : List MapEntry) : Prop := es.length = l.length ∧ ∀ (i : Nat) (p : α × β) (e : MapEntry), l[i]? = some p → es[i]? = some e → e.key = κr.kv p.1 ∧ Box L (K p.2) e.val w
def MapR (κr : KRep α) (K : β → VP) (r : Nat) (l : List (α × β)) : RP := fun F L w => F r ∧ (l.map (·.1)).Nodup ∧ ∃ es clock, w.heap[r]? = some (.map es clock) ∧ Stamped es clock ∧ Ents κr K L w l es.toList
variable [DecidableEq α]
def mapGet (l : List (α × β)) (a : α) : Option β := (l.find? fun p => decide (p.1 = a)).map (·.2)
def mapPut (l : List (α × β)) (a : α) (b : β) : List (α × β) := if (mapGet l a).isSome then l.map (fun p => if p.1 = a then (a, b) else p) else l ++ [(a, b)]
def mapDel (l : List (α × β)) (a : α) : List (α × β) := l.filter fun p => !decide (p.1 = a)
theorem mapGet_none {l : List (α × β)} {a : α} : mapGet l a = none ↔ ∀ p ∈ l, p.1 ≠ a := by
  simp [mapGet]
theorem mapGet_at {l : List (α × β)} (hn : (l.map (·.1)).Nodup) {j : Nat} {a : α} {b : β} (h : l[j]? = some (a, b)) : mapGet l a = some b := by
  induction l generalizing j with
  | nil => simp at h
  | cons p l ih =>
    simp only [List.map_cons, List.nodup_cons] at hn
    cases j with
    | zero => simp only [List.getElem?_cons_zero, Option.some.injEq] at h; subst h; simp [mapGet]
    | succ j =>
      have h' : l[j]? = some (a, b) := by simpa using h
      have hne : p.1 ≠ a := fun e => hn.1 (e ▸ List.mem_map.2 ⟨(a, b), List.mem_of_getElem? h', rfl⟩)
      have := ih hn.2 h'
      simpa [mapGet, hne] using this
theorem mapDel_at {l : List (α × β)} (hn : (l.map (·.1)).Nodup) {j : Nat} {a : α} {b : β} (h : l[j]? = some (a, b)) : mapDel l a = l.eraseIdx j := by
  induction l generalizing j with
  | nil => simp at h
  | cons p l ih =>
    simp only [List.map_cons, List.nodup_cons] at hn
    cases j with
    | zero =>
      simp only [List.getElem?_cons_zero, Option.some.injEq] at h; subst h
      have : ∀ q ∈ l, q.1 ≠ a := fun q hq e => hn.1 (List.mem_map.2 ⟨q, hq, e⟩)
      simp only [mapDel, List.eraseIdx_cons_zero]
      rw [List.filter_cons_of_neg (by simp), List.filter_eq_self.2 (fun q hq => by simpa using this q hq)]
    | succ j =>
      have h' : l[j]? = some (a, b) := by simpa using h
      have hne : p.1 ≠ a := fun e => hn.1 (e ▸ List.mem_map.2 ⟨(a, b), List.mem_of_getElem? h', rfl⟩)
      have := ih hn.2 h'
      simp only [mapDel] at this ⊢
      rw [List.filter_cons_of_pos (by simpa using hne), this]
      rfl
theorem mapDel_none {l : List (α × β)} {a : α} (h : mapGet l a = none) : mapDel l a = l := by
  rw [mapGet_none] at h
  exact List.filter_eq_self.2 fun q hq => by simpa using h q hq
theorem Ents.later {κr : KRep α} {K : β → VP} {S L L' : Foot} {w w' : World} {l : List (α × β)} {es : List MapEntry} (h : Ents κr K L w l es) (k : Keeps S w w') (h1 : ∀ b, b < w.heap.size → S b → L b) (h2 : ∀ b, b < w.heap.size → L' b → L b) : Ents κr K L' w' l es :=
  ⟨h.1, fun i p e hp he => ⟨(h.2 i p e hp he).1, fun w'' k' => (h.2 i p e hp he).2 w'' (k.then k' h1 h2)⟩⟩
theorem Ents.keys {κr : KRep α} {K : β → VP} {L : Foot} {w : World} {l : List (α × β)} {es : List MapEntry} (h : Ents κr K L w l es) : ∀ e ∈ es, IsKey κr.kd e.key := fun e he => by
  obtain ⟨i, hi⟩ := List.mem_iff_getElem?.1 he
  have hl : i < l.length := by rw [← h.1]; exact getL_len hi
  rw [(h.2 i l[i] e (List.getElem?_eq_getElem hl) hi).1]
  exact κr.isKey _
/-- what is found -/
theorem Ents.find {κr : KRep α} {K : β → VP} {L : Foot} {w : World} {l : List (α × β)} {es : List MapEntry} (h : Ents κr K L w l es) (hn : (l.map (·.1)).Nodup) (a : α) :
    (Instr.findNow κr.kd (κr.kv a) es 0 = some none ∧ mapGet l a = none ∧ ∀ e ∈ es, e.key ≠ κr.kv a) ∨ ∃ j b e, Instr.findNow κr.kd (κr.kv a) es 0 = some (some (j, e.val)) ∧ mapGet l a = some b ∧ l[j]? = some (a, b) ∧ es[j]? = some e ∧ e.key = κr.kv a ∧ Box L (K b) e.val w := by
  rcases findNow_spec (κr.isKey a) es 0 h.keys with ⟨h1, h2⟩ | ⟨j, e, h1, h2, h3⟩
  · refine .inl ⟨h1, mapGet_none.2 fun p hp e => ?_, h2⟩
    obtain ⟨i, hi⟩ := List.mem_iff_getElem?.1 hp
    have hl : i < es.length := by rw [h.1]; exact getL_len hi
    have := (h.2 i p es[i] hi (List.getElem?_eq_getElem hl)).1
    exact h2 es[i] (List.getElem_mem hl) (by rw [this, e])
  · have hl : j < l.length := by rw [← h.1]; exact getL_len h2
    have h4 := h.2 j l[j] e (List.getElem?_eq_getElem hl) h2
    have ea : l[j].1 = a := κr.inj _ _ (by rw [← h4.1, h3])
    have hj : l[j]? = some (a, l[j].2) := by rw [List.getElem?_eq_getElem hl, ← ea]
    exact .inr ⟨j, l[j].2, e, by rw [h1, Nat.zero_add], mapGet_at hn hj, hj, h2, h3, h4.2⟩
end

section
variable {B : Base} {P : Program} {M : Mem} {Γ : Env} {Q : Exit → Act → World → Prop} {ops : Array Oper} {o : Oper} {l : List Oper} {R : VP}
variable {α β : Type} [DecidableEq α] {κr : KRep α} {K : β → VP} {r : Nat} {m : List (α × β)} {t kt e : TypeId} {x y z : Operand}
theorem mapR_ok {κ : Nat → Nat} {n : Nat} {w : World} {es : Array MapEntry} {clock : Nat} (hr : κ r = n) (hn : (m.map (·.1)).Nodup) (hh : w.heap[r]? = some (.map es clock)) (hs : Stamped es clock) (he : Ents κr K (live κ) w m es.toList) : ResOk κ n (MapR κr K r m) w := fun L w' hL k =>
  ⟨hr, hn, es, clock, by rw [k.block r (by
    rcases Nat.lt_or_ge r w.heap.size with h' | h'
    · exact h'
    · rw [Array.getElem?_eq_none h'] at hh; cases hh) (by rintro ⟨_, h2⟩; exact h2 hr)]; exact hh, hs, he.later k (fun b _ hb => hb.1) hL⟩
theorem TrL.makeMap (n : Nat) (κr : KRep α) (K : β → VP) (ho : o.op = .makeMap t none) (hg : o.guard = none) (d : Nat) (hed : o.dst = some d) (hd : Nat.blt d B.N = true) (hn : B.own n = true)
    (k : ∀ r, TrL B P ops l ((n, MapR κr K r []) :: M) ((d, is (.map (some r))) :: Γ) Q) : TrL B P ops (o :: l) M Γ Q := by
  intro a w s
  obtain ⟨κ, g, mm, r⟩ := s.ex
  have hn' : B.own n = true := hn
  have tn := alloc_turn g.wf (g.two _ hn') (.map #[] 0)
  refine wpList_step fun K' hK => ?_
  rw [if_pos (by simp [Region.wanted, hg])]
  unfold Oper.wp execOp
  rw [ho]
  have hrun : (Instr.makeMap t none).run P w = .ok (.map (some w.heap.size)) (w.alloc (.map #[] 0)) := rfl
  simp only [Option.map_none, Sem.run_bind, hrun, Result.andThen_ok]
  refine hK _ _ (k w.heap.size _ _ ?_)
  rw [hed]
  refine ⟨by rw [put_size]; exact s.size, by rw [put_defers]; exact s.defers, _, tn.good g (by rintro l' rfl; exact hn'), mm.turn tn (fun l' φ h2 hg hne => ?_) (fun l' φ h2 hg hs => ?_), RegOk.put (d := some d) (r.turn tn) (by rintro t' ⟨rfl⟩; rw [s.size]; have : d + 1 ≤ B.N := (by simpa [Nat.blt] using hd); omega) Box.is⟩
  · have : Nat.beq n l' = false := by
      cases h : Nat.beq n l' with
      | false => rfl
      | true => exact absurd (beq_true h).symm hne
    simpa [Mem.get, this] using hg
  · subst hs
    simp only [Mem.get, Nat.beq_eq, decide_true, cond_true] at hg
    have : φ = MapR κr K w.heap.size [] := by simpa using hg.symm
    subst this
    exact mapR_ok (es := #[]) (clock := 0) (by simp) (by simp) (heap_alloc_new w _) (stamped_empty 0) ⟨rfl, fun i p e h => by simp at h⟩
def lookR (K : β → VP) (z : Value) : Option β → VP
  | some b => K b
  | none => is z
theorem run_lookupM {a : α} {w : World} {es : Array MapEntry} {clock : Nat} {zv : Value} (ht : P.underlying t = some (.map kt e)) (hk : P.underlying kt = some κr.kd) (hz : (P.info? e).bind (·.zero) = some zv) (hh : w.heap[r]? = some (.map es clock)) {ans : Option (Nat × Value)} (hf : Instr.findNow κr.kd (κr.kv a) es.toList 0 = some ans) :
    (Instr.lookup t (.map (some r)) (κr.kv a) true).run P w = .ok (.tuple #[(ans.map (·.2)).getD zv, .bool ans.isSome]) w := by
  have hzero : (zeroValue e).run P w = .ok zv w := by
    cases hi : P.info? e with
    | none => rw [hi] at hz; cases hz
    | some i =>
      rw [hi] at hz
      have hz' : i.zero = some zv := by simpa using hz
      simp [zeroValue, typeInfo, hi, hz']
  cases ans with
  | none => simp [Instr.lookup, run_underlying ht, MapKept.run_getObj_map hh, MapKept.run_checkKey hk (κr.isKey a), MapKept.run_findKey hk hf, hzero]
  | some q => simp [Instr.lookup, run_underlying ht, MapKept.run_getObj_map hh, MapKept.run_checkKey hk (κr.isKey a), MapKept.run_findKey hk hf]
theorem OpM.lookupM (n : Nat) {a : α} {zv : Value} (ho : o.op = .lookup t x y true) (hx : Has M Γ x (is (.map (some r)))) (hy : Has M Γ y (is (κr.kv a))) (hm : M.get n = some (MapR κr K r m)) (hn : Nat.ble 2 n = true) (ht : P.underlying t = some (.map kt e)) (hk : P.underlying kt = some κr.kd)
    (hz : (P.info? e).bind (·.zero) = some zv) : OpM P M Γ o (Tup [lookR K zv (mapGet m a), is (.bool (mapGet m a).isSome)]) :=
  OpM.pure fun ac w κ hw mm hr => by
    obtain ⟨_, hnd, es, clock, hh, hs, he⟩ := (mm n _ (by simpa [Nat.ble_eq] using hn) hm).now
    have hxv := hx.val mm hr (by simp [ho, Op.operands])
    have hyv := hy.val mm hr (by simp [ho, Op.operands])
    rcases he.find hnd a with ⟨h1, h2, _⟩ | ⟨j, b, en, h1, h2, _, _, _, h3⟩
    · refine ⟨_, ?_, fun w' k => ⟨[zv, .bool false], rfl, ?_⟩⟩
      · unfold execOp
        rw [ho]
        simp only [hxv, hyv, Sem.run_bind, run_lookupM ht hk hz hh h1, Result.andThen_ok]
        rfl
      · rw [h2]; exact .cons rfl (.cons rfl .nil)
    · refine ⟨_, ?_, fun w' k => ⟨[en.val, .bool true], rfl, ?_⟩⟩
      · unfold execOp
        rw [ho]
        simp only [hxv, hyv, Sem.run_bind, run_lookupM ht hk hz hh h1, Result.andThen_ok]
        rfl
      · rw [h2]; exact .cons (h3 w' k) (.cons rfl .nil)
theorem OpM.lenM (n : Nat) (ho : o.op = .call ⟨.builtin .len, #[x], #[t]⟩) (hx : Has M Γ x (is (.map (some r)))) (hm : M.get n = some (MapR κr K r m)) (hn : Nat.ble 2 n = true) (ht : P.underlying t = some (.map kt e)) : OpM P M Γ o (is (.int .i64 m.length)) :=
  OpM.isv fun ac w κ mm hr => by
    obtain ⟨_, hnd, es, clock, hh, hs, he⟩ := (mm n _ (by simpa [Nat.ble_eq] using hn) hm).now
    unfold execOp
    rw [ho]
    have hl : es.size = m.length := by rw [← he.1]; simp
    simp [resolve, invoke, builtin, Builtin.len_, run_underlying ht, hx.val mm hr (by simp [ho, Op.operands, Call.operands]), MapKept.run_getObj_map hh, goInt, hl]
/-- a map turned: the general step -/
theorem St.mapTurn {a : Act} {w : World} (s : St B M Γ a w) {n : Nat} (hn : B.own n = true) {m' : List (α × β)} (hm : M.get n = some (MapR κr K r m)) {es' : Array MapEntry} {clock' : Nat} (hnd : (m'.map (·.1)).Nodup) (hs : Stamped es' clock')
    (he : ∀ κ, MemOk κ M w → RegOk (live κ) Γ a w → Ents κr K (live κ) w m' es'.toList) : St B ((n, MapR κr K r m') :: M) Γ a { w with heap := w.heap.setIfInBounds r (.map es' clock') } := by
  obtain ⟨κ, g, mm, rr⟩ := s.ex
  obtain ⟨hr, _, es, clock, hh, _, _⟩ := (mm n _ (g.two _ hn) hm).now
  have two := g.two _ hn
  have k : Keeps (fun x => κ x = n) w { w with heap := w.heap.setIfInBounds r (.map es' clock') } := ⟨by simp, fun b hb hne => (heap_set hh).2 b (fun e => hne (e ▸ hr)), rfl, rfl, rfl⟩
  have hk : Keeps (live κ) w { w with heap := w.heap.setIfInBounds r (.map es' clock') } := k.mono fun b _ hb => by unfold live; omega
  exact St.turn1 hn s.size s.defers g mm rr k (mapR_ok hr hnd (heap_set hh).1 hs ((he κ mm rr).later hk (fun _ _ h => h) fun _ _ h => h))
theorem TrL.deleteM (n : Nat) {a : α} (ho : o.op = .call ⟨.builtin .delete, #[x, y], #[t, kt]⟩) (hg : o.guard = none) (hed : o.dst = none) (hx : Has M Γ x (is (.map (some r)))) (hy : Has M Γ y (is (κr.kv a))) (hm : M.get n = some (MapR κr K r m)) (hn : B.own n = true)
    (ht : P.underlying t = some (.map kt e)) (hk : P.underlying kt = some κr.kd) (k : TrL B P ops l ((n, MapR κr K r (mapDel m a)) :: M) Γ Q) : TrL B P ops (o :: l) M Γ Q := by
  intro ac w s
  have s' := s
  obtain ⟨κ, g, mm, rr⟩ := s.ex
  have hn' : B.own n = true := hn
  obtain ⟨_, hnd, es, clock, hh, hs, he⟩ := (mm n _ (g.two _ hn') hm).now
  have hxv := hx.val mm (rr.on o.op.operands.toList) (by simp [ho, Op.operands, Call.operands])
  have hyv := hy.val mm (rr.on o.op.operands.toList) (by simp [ho, Op.operands, Call.operands])
  refine wpList_step fun K' hK => ?_
  rw [if_pos (by simp [Region.wanted, hg])]
  unfold Oper.wp execOp
  rw [ho]
  have hnd' : ((mapDel m a).map (·.1)).Nodup := (List.filter_sublist.map _).nodup hnd
  rcases he.find hnd a with ⟨h1, h2, h3⟩ | ⟨j, b, en, h1, h2, h4, h5, h6, h3⟩
  · have hrun : (Builtin.delete_ #[t, kt] o.type #[.map (some r), κr.kv a]).run P w = .ok (.tuple #[]) { w with heap := w.heap.setIfInBounds r (.map es clock) } := by
      simp [Builtin.delete_, run_underlying ht, MapKept.run_getObj_map hh, MapKept.run_checkKey hk (κr.isKey a), MapKept.run_findKey hk h1, MapKept.run_setObj_map _ hh, Result.andThen]
    simp only [resolve, invoke, builtin, Sem.run_bind, Sem.run_pure, Result.andThen_ok, List.map_toArray, List.map_cons, List.map_nil, hxv, hyv, hrun]
    refine hK _ _ (k _ _ ((s'.mapTurn hn' hm hnd' hs fun κ2 mm2 rr2 => ?_).put_undef hed _))
    obtain ⟨_, _, es2, clock2, hh2, _, he2⟩ := (mm2 n _ (g.two _ hn') hm).now
    rw [hh] at hh2
    simp only [Option.some.injEq, Obj.map.injEq] at hh2
    rw [mapDel_none h2, hh2.1]; exact he2
  · have hrun : (Builtin.delete_ #[t, kt] o.type #[.map (some r), κr.kv a]).run P w = .ok (.tuple #[]) { w with heap := w.heap.setIfInBounds r (.map (es.eraseIdxIfInBounds j) clock) } := by
      simp [Builtin.delete_, run_underlying ht, MapKept.run_getObj_map hh, MapKept.run_checkKey hk (κr.isKey a), MapKept.run_findKey hk h1, MapKept.run_setObj_map _ hh, Result.andThen]
    simp only [resolve, invoke, builtin, Sem.run_bind, Sem.run_pure, Result.andThen_ok, List.map_toArray, List.map_cons, List.map_nil, hxv, hyv, hrun]
    refine hK _ _ (k _ _ ((s'.mapTurn hn' hm hnd' (stamped_erase hs j) fun κ2 mm2 rr2 => ?_).put_undef hed _))
    obtain ⟨_, _, es2, clock2, hh2, _, he2⟩ := (mm2 n _ (g.two _ hn') hm).now
    rw [hh] at hh2
    simp only [Option.some.injEq, Obj.map.injEq] at hh2
    rw [← hh2.1] at he2
    have hjl : j < es.size := by have := getL_len h5; simpa using this
    have e1 : (es.eraseIdxIfInBounds j).toList = es.toList.eraseIdx j := by
      unfold Array.eraseIdxIfInBounds
      rw [dif_pos hjl, Array.toList_eraseIdx]
    rw [mapDel_at hnd h4, e1]
    have hjm := getL_len h4
    refine ⟨by rw [List.length_eraseIdx, List.length_eraseIdx, if_pos (by simpa using hjl), if_pos hjm, he2.1], fun i p en' hp hen => ?_⟩
    rw [List.getElem?_eraseIdx] at hp hen
    split at hp
    · rename_i hi; rw [if_pos hi] at hen; exact he2.2 i p en' hp hen
    · rename_i hi; rw [if_neg hi] at hen; exact he2.2 (i + 1) p en' hp hen
theorem TrL.updateM (n : Nat) {a : α} {b : β} (ho : o.op = .mapUpdate t x y z) (hg : o.guard = none) (hed : o.dst = none) (hx : Has M Γ x (is (.map (some r)))) (hy : Has M Γ y (is (κr.kv a))) (hz : Has M Γ z (K b)) (hm : M.get n = some (MapR κr K r m)) (hn : B.own n = true)
    (ht : P.underlying t = some (.map kt e)) (hk : P.underlying kt = some κr.kd) (k : TrL B P ops l ((n, MapR κr K r (mapPut m a b)) :: M) Γ Q) : TrL B P ops (o :: l) M Γ Q := by
  intro ac w s
  have s' := s
  obtain ⟨κ, g, mm, rr⟩ := s.ex
  have hn' : B.own n = true := hn
  obtain ⟨_, hnd, es, clock, hh, hs, he⟩ := (mm n _ (g.two _ hn') hm).now
  have hxv := hx.val mm (rr.on o.op.operands.toList) (by simp [ho, Op.operands])
  have hyv := hy.val mm (rr.on o.op.operands.toList) (by simp [ho, Op.operands])
  refine wpList_step fun K' hK => ?_
  rw [if_pos (by simp [Region.wanted, hg])]
  unfold Oper.wp execOp
  rw [ho]
  rcases he.find hnd a with ⟨h1, h2, h3⟩ | ⟨j, b0, en, h1, h2, h4, h5, h6, h3⟩
  · have hrun : (Instr.mapUpdate t (.map (some r)) (κr.kv a) (ac.eval z)).run P w = .ok () { w with heap := w.heap.setIfInBounds r (.map (es.push { key := κr.kv a, val := ac.eval z, born := clock }) (clock + 1)) } := by
      simp [Instr.mapUpdate, run_underlying ht, MapKept.run_getObj_map hh, MapKept.run_checkKey hk (κr.isKey a), MapKept.run_findKey hk h1, MapKept.run_setObj_map _ hh, Result.andThen]
    simp only [hxv, hyv, Sem.run_bind, hrun, Result.andThen_ok]
    have ep : mapPut m a b = m ++ [(a, b)] := by simp [mapPut, h2]
    have hnd' : ((mapPut m a b).map (·.1)).Nodup := by
      rw [ep, List.map_append, List.nodup_append]
      refine ⟨hnd, by simp, fun x hx y hy => ?_⟩
      obtain ⟨p, hp, rfl⟩ := List.mem_map.1 hx
      simp only [List.map_cons, List.map_nil, List.mem_singleton] at hy
      rw [hy]; exact mapGet_none.1 h2 p hp
    refine hK _ _ (k _ _ ((s'.mapTurn hn' hm hnd' (stamped_push hs h3) fun κ2 mm2 rr2 => ?_).put_undef hed _))
    obtain ⟨_, _, es2, clock2, hh2, _, he2⟩ := (mm2 n _ (g.two _ hn') hm).now
    rw [hh] at hh2
    simp only [Option.some.injEq, Obj.map.injEq] at hh2
    rw [← hh2.1] at he2
    have hzb := hz.box mm2 (rr2.on o.op.operands.toList) (by simp [ho, Op.operands])
    rw [ep, Array.toList_push]
    refine ⟨by simp [he2.1], fun i p en hp hen => ?_⟩
    rcases Nat.lt_or_ge i m.length with hi | hi
    · rw [List.getElem?_append_left hi] at hp
      rw [List.getElem?_append_left (by rw [he2.1]; exact hi)] at hen
      exact he2.2 i p en hp hen
    · rw [List.getElem?_append_right hi] at hp
      rw [List.getElem?_append_right (by rw [he2.1]; exact hi), he2.1] at hen
      have h0 : i - m.length = 0 := by have := getL_len hp; simp at this; omega
      rw [h0] at hp hen
      simp only [List.getElem?_cons_zero, Option.some.injEq] at hp hen
      subst hp; subst hen
      exact ⟨rfl, hzb⟩
  · have hj : es[j]? = some en := by simpa using h5
    have hrun : (Instr.mapUpdate t (.map (some r)) (κr.kv a) (ac.eval z)).run P w = .ok () { w with heap := w.heap.setIfInBounds r (.map (es.modify j fun e => { e with key := κr.kv a, val := ac.eval z }) clock) } := by
      simp [Instr.mapUpdate, run_underlying ht, MapKept.run_getObj_map hh, MapKept.run_checkKey hk (κr.isKey a), MapKept.run_findKey hk h1, hj, h6, MapKept.run_keyThatStays (κr.isKey a), MapKept.run_setObj_map _ hh, Result.andThen]
    simp only [hxv, hyv, Sem.run_bind, hrun, Result.andThen_ok]
    have ep : mapPut m a b = m.map (fun p => if p.1 = a then (a, b) else p) := by simp [mapPut, h2]
    have ek : (mapPut m a b).map (·.1) = m.map (·.1) := by
      rw [ep, List.map_map]
      refine List.map_congr_left fun p _ => ?_
      simp only [Function.comp]
      split
      · rename_i h; exact h.symm
      · rfl
    have hkey : ∀ e', es[j]? = some e' → ({ e' with key := κr.kv a, val := ac.eval z } : MapEntry).key = e'.key := fun e' he' => by rw [hj] at he'; cases he'; exact h6.symm
    refine hK _ _ (k _ _ ((s'.mapTurn hn' hm (by rw [ek]; exact hnd) (stamped_modify hs j (fun e => { e with key := κr.kv a, val := ac.eval z }) (fun _ _ => rfl) (fun e' _ he' => hkey e' he')) fun κ2 mm2 rr2 => ?_).put_undef hed _))
    obtain ⟨_, _, es2, clock2, hh2, _, he2⟩ := (mm2 n _ (g.two _ hn') hm).now
    rw [hh] at hh2
    simp only [Option.some.injEq, Obj.map.injEq] at hh2
    rw [← hh2.1] at he2
    have hzb := hz.box mm2 (rr2.on o.op.operands.toList) (by simp [ho, Op.operands])
    rw [ep]
    refine ⟨by simp [he2.1], fun i p en' hp hen => ?_⟩
    rw [List.getElem?_map] at hp
    have hen' : (es.modify j fun e => { e with key := κr.kv a, val := ac.eval z })[i]? = some en' := by rw [Array.getElem?_toList] at hen; exact hen
    rw [Array.getElem?_modify] at hen'
    cases hmi : m[i]? with
    | none => rw [hmi] at hp; simp at hp
    | some q =>
      rw [hmi] at hp
      simp only [Option.map_some, Option.some.injEq] at hp
      by_cases hij : j = i
      · subst hij
        rw [if_pos rfl, hj] at hen'
        simp only [Option.map_some, Option.some.injEq] at hen'
        rw [h4] at hmi
        simp only [Option.some.injEq] at hmi
        subst hmi
        simp only [if_true] at hp
        subst hp; subst hen'
        exact ⟨rfl, hzb⟩
      · rw [if_neg hij] at hen'
        have hne : q.1 ≠ a := fun e => by
          have h7 : (m.map (·.1))[i]? = some a := by rw [List.getElem?_map, hmi, Option.map_some, e]
          have h8 : (m.map (·.1))[j]? = some a := by rw [List.getElem?_map, h4]; rfl
          have hil := getL_len h7
          have hjl := getL_len h8
          rw [List.getElem?_eq_getElem hil] at h7
          rw [List.getElem?_eq_getElem hjl] at h8
          simp only [Option.some.injEq] at h7 h8
          exact hij ((List.getElem_inj hnd).1 (h8.trans h7.symm))
        rw [if_neg hne] at hp
        subst hp
        exact he2.2 i q en' hmi (by simpa using hen')
end
end Go.Proofs.Ytemkogoclljhpaa.L
