/- Slices of this call's own: written out; appended to, whatever comes behind. -/
import Derived.Test.YtemkogoclljhpaaLM
namespace Go.Proofs.Ytemkogoclljhpaa.L
open Go
set_option linter.unusedVariables false
set_option linter.unusedSimpArgs false
set_option linter.unusedSectionVars false

section
variable {B : Base} {P : Program} {M : Mem} {Γ : Env} {Q : Exit → Act → World → Prop} {ops : Array Oper} {o : Oper} {l : List Oper} {R : VP}
variable {τ : Type} {K : Rep τ} {xs ys : List τ} {t e : TypeId} {x y : Operand}
/-- a slice written out, this call's own -/
theorem TrL.sliceOwn (n : Nat) {len : Nat} {ps : Array (Nat × Operand)} (ho : o.op = .buildSlice t len ps) (hg : o.guard = none) (d : Nat) (hed : o.dst = some d) (hd : Nat.blt d B.N = true) (hp : HasE M Γ K ps.toList 0 xs) (hu : P.underlying t = some (.slice e)) (hs : sizeB P e K.n = true)
    (hz : zeroB P e = true) (hl : Nat.beq ps.size len = true) (hsm : len * K.n ≤ 2 ^ 24) (hn : B.own n = true) (k : ∀ v, v ≠ .slice none 0 0 → TrL B P ops l ((n, Own K e v xs) :: M) ((d, is v) :: Γ) Q) : TrL B P ops (o :: l) M Γ Q := by
  intro a w s
  obtain ⟨κ, g, m, r⟩ := s.ex
  obtain ⟨vs, hvl, hsz, hrun, h3⟩ := slice_run m (r.on o.op.operands.toList) ho hp hu hs hz hl hsm
  have tn := alloc_turn g.wf (g.two _ hn) (.cells (vs.flatMap fun v => v.cells.toList).toArray e)
  refine wpList_step fun K' hK => ?_
  rw [if_pos (by simp [Region.wanted, hg])]
  unfold Oper.wp
  rw [hrun, Oper.upon_value]
  refine hK _ _ (k (.slice (some ⟨w.heap.size, 0, none⟩) xs.length xs.length) (by simp) _ _ ?_)
  rw [hed]
  have hlen : len = xs.length := by
    have h0 := hp.get m (r.on o.op.operands.toList) (fun p hp' => by rw [ho]; simp only [Op.operands]; exact List.mem_map.2 ⟨p, hp', rfl⟩)
    rw [← h0.2.1, ← beq_true hl]; simp
  have hcap : xs.length ≤ maxLen := by
    have := Nat.le_mul_of_pos_right len K.pos
    simp only [maxLen]; omega
  have hch : Chunks K (live fun b => if b = w.heap.size then n else κ b) (w.alloc (.cells (vs.flatMap fun v => v.cells.toList).toArray e)) xs (vs.map fun v => v.cells.toList) := by
    refine ⟨by simp [hvl], fun i z cs hz' hc => ?_⟩
    have hall : ∀ w', Keeps (live κ) w w' → All2 w' (K.fs z) cs := fun w' k' => by
      obtain ⟨v, hv, he⟩ := h3 w' k' i z hz'
      rw [List.getElem?_map, hv] at hc
      simp only [Option.map_some, Option.some.injEq] at hc
      rw [← hc]; exact he
    refine ⟨K.one _ _ _ (hall w (Keeps.refl _ _)), fun w' k' => hall w' ((keeps_alloc w _).then k' (fun _ _ h => h.elim) fun b hb h => ?_)⟩
    have h1 : (if b = w.heap.size then n else κ b) ≠ 0 := h
    rw [if_neg (by omega)] at h1
    exact h1
  have hflat : (vs.map fun v => v.cells.toList).flatten = vs.flatMap fun v => v.cells.toList := by rw [List.flatMap_def]
  have hfl : (vs.flatMap fun v => v.cells.toList).length = xs.length * K.n := by
    rw [← hflat, flat_len (n := K.n) _ fun c hc => ?_, List.length_map, hvl]
    obtain ⟨v, hv, rfl⟩ := List.mem_map.1 hc
    simpa using hsz v hv
  refine ⟨by rw [put_size]; exact s.size, by rw [put_defers]; exact s.defers, _, tn.good g (by rintro l' rfl; exact hn), m.turn tn (fun l' φ h2 hg hne => ?_) (fun l' φ h2 hg hs => ?_), RegOk.put (d := some d) (r.turn tn) (by rintro t' ⟨rfl⟩; rw [s.size]; have : d + 1 ≤ B.N := (by simpa [Nat.blt] using hd); omega) Box.is⟩
  · have : Nat.beq n l' = false := by
      cases h : Nat.beq n l' with
      | false => rfl
      | true => exact absurd (beq_true h).symm hne
    simpa [Mem.get, this] using hg
  · subst hs
    simp only [Mem.get, Nat.beq_eq, decide_true, cond_true] at hg
    have : φ = Own K e (.slice (some ⟨w.heap.size, 0, none⟩) xs.length xs.length) xs := by simpa using hg.symm
    subst this
    intro L w' hL k'
    have hnew : (if w.heap.size = w.heap.size then l' else κ w.heap.size) = l' := if_pos rfl
    refine ⟨_, hch.later k' (fun b hb h => h.1) hL, ⟨?_, .inr ⟨w.heap.size, xs.length, (vs.flatMap fun v => v.cells.toList).toArray, rfl, Nat.zero_le _, ?_, Nat.le_refl _, hcap, by simpa using hfl, ?_⟩⟩, fun g' hg' => ?_⟩
    · rw [hflat]; exact hfl
    · rw [k'.block _ (by simp) (by rintro ⟨_, h2⟩; exact h2 hnew)]
      exact heap_alloc_new w _
    · show (vs.flatMap fun v => v.cells.toList).take (xs.length * K.n) = _
      rw [hflat, List.take_of_length_le (Nat.le_of_eq hfl)]
    · simp only [Value.ownBlock, Option.some.injEq] at hg'
      rw [← hg']; exact hnew
theorem run_append_zero {A A' : Option Addr} {m c c' : Nat} {ty : TypeId} {sz : Nat} (hu : P.underlying t = some (.slice e)) (hs : sizeB P e sz = true) (hm : m ≤ c) (w : World) : (Builtin.append_ #[t, t] ty #[.slice A m c, .slice A' 0 c']).run P w = .ok (.slice A m c) w := by
  cases A <;> cases A' <;> simp [Builtin.append_, run_underlying hu, run_sizeOf hs, Builtin.lenOf, Builtin.firstCells, hm, storeCells, loadCells, loadCellsFrom]
theorem TrL.appendG (n : Nat) {bytes : Nat} {v : Value} (ho : o.op = .call ⟨.builtin .append, #[x, y], #[t, t]⟩) (hg : o.guard = none) (d : Nat) (hed : o.dst = some d) (hd : Nat.blt d B.N = true)
    (hx : Has M Γ x (is v)) (hm : M.get n = some (Own K e v xs)) (hn : B.own n = true) (hy : Has M Γ y (Lst K ys)) (hu : P.underlying t = some (.slice e)) (hs : sizeB P e K.n = true) (he : elemB P e K.n bytes = true)
    (hlen : (xs.length + ys.length) * bytes ≤ 140737488355328) (hlen2 : xs.length + ys.length ≤ maxLen)
    (k : ∀ v', TrL B P ops l ((n, Own K e v' (xs ++ ys)) :: M) ((d, is v') :: Γ) Q) : TrL B P ops (o :: l) M Γ Q := by
  rcases Nat.eq_zero_or_pos ys.length with h0 | h0
  · have hys : ys = [] := List.eq_nil_of_length_eq_zero h0
    subst hys
    rw [List.append_nil] at k
    intro a w s
    obtain ⟨κ, g, m, r⟩ := s.ex
    have two := g.two _ hn
    have s2 := s
    refine TrL.stepS d (R := is v) (OpG.plain hg (OpM.isv fun a w κ m hr => ?_)) hed hd (fun a w s => k v a w (s.sub (fun l φ h2 hl => ?_) fun t R ht => ⟨R, ht, fun _ _ h => h⟩)) a w s2
    · obtain ⟨A, c, ev, hc, _⟩ := (hy.box m hr (by simp [ho, Op.operands, Call.operands])).now
      obtain ⟨css, _, ⟨_, how⟩, _⟩ := (m n _ two hm).now
      have hxv := hx.val m hr (by simp [ho, Op.operands, Call.operands])
      have ev' : a.eval y = .slice A 0 c := ev
      unfold execOp
      rw [ho]
      have hrun : (Builtin.append_ #[t, t] o.type #[v, .slice A 0 c]).run P w = .ok v w := by
        rcases how with ⟨rfl, _⟩ | ⟨gb, cap, cur, rfl, _, _, hcap, _⟩
        · exact run_append_zero hu hs (Nat.le_refl _) w
        · exact run_append_zero hu hs hcap w
      simp only [resolve, invoke, builtin, Sem.run_bind, Sem.run_pure, Result.andThen_ok, List.map_toArray, List.map_cons, List.map_nil, hxv, ev', hrun]
    · simp only [Mem.get] at hl
      cases hb : Nat.beq n l with
      | true =>
        rw [hb] at hl
        simp only [cond_true, Option.some.injEq] at hl
        obtain rfl := beq_true hb
        exact ⟨_, hm, fun F L w h => hl ▸ h⟩
      | false =>
        rw [hb] at hl
        exact ⟨φ, hl, fun _ _ _ h => h⟩
  · exact TrL.appendS n ho hg d hed hd hx hm hn hy hu he h0 hlen hlen2 k
end
end Go.Proofs.Ytemkogoclljhpaa.L
