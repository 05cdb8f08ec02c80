/- Parts of this call's own slices: cut short, moved up, cleared. -/
import Derived.Test.YtemkogoclljhpaaLS
namespace Go.Proofs.Ytemkogoclljhpaa.L
open Go
set_option linter.unusedVariables false
set_option linter.unusedSimpArgs false
set_option linter.unusedSectionVars false

/-! ### 1. Values of parts -/
def prefV (v : Value) (j : Nat) : Value := match v with | .slice A _ c => .slice A j c | _ => undef
def partV (v : Value) (i j n : Nat) : Value := match v with | .slice A _ c => .slice (if c = i then A else A.map (·.add (i * n))) (j - i) (c - i) | _ => undef
theorem ownsRow_pref {w : World} {e : TypeId} {n m : Nat} {v : Value} {xs : List Value} (h : w.ownsRow 0 e n v m xs) {j : Nat} (hj : j ≤ m) : w.ownsRow 0 e n (prefV v j) j (xs.take (j * n)) := by
  obtain ⟨hl, h⟩ := h
  have hle : j * n ≤ m * n := Nat.mul_le_mul_right n hj
  refine ⟨by rw [List.length_take]; omega, ?_⟩
  rcases h with ⟨rfl, h0⟩ | ⟨g, cap, cur, rfl, hb, hh, h1, h2, h3, h4⟩
  · have : j = 0 := by omega
    subst this
    exact .inl ⟨rfl, rfl⟩
  · refine .inr ⟨g, cap, cur, rfl, hb, hh, by omega, h2, h3, ?_⟩
    rw [← h4, List.take_take, Nat.min_eq_left hle]
theorem ownBlock_pref {v : Value} {j : Nat} {g : Nat} (h : (prefV v j).ownBlock = some g) : v.ownBlock = some g := by
  cases v with
  | slice A m c => cases A with
    | none => simp [prefV, Value.ownBlock] at h
    | some a => simpa [prefV, Value.ownBlock] using h
  | _ => simp [prefV, Value.ownBlock, undef] at h
section
variable {τ : Type} {K : Rep τ} {xs ys : List τ}
theorem Chunks.take {L : Foot} {w : World} {css : List (List Value)} (h : Chunks K L w xs css) (j : Nat) : Chunks K L w (xs.take j) (css.take j) := by
  refine ⟨by simp [h.1], fun i x cs hx hc => ?_⟩
  rw [List.getElem?_take] at hx hc
  split at hx
  · rename_i hi; rw [if_pos hi] at hc; exact h.2 i x cs hx hc
  · cases hx
theorem Chunks.drop {L : Foot} {w : World} {css : List (List Value)} (h : Chunks K L w xs css) (j : Nat) : Chunks K L w (xs.drop j) (css.drop j) := by
  refine ⟨by simp [h.1], fun i x cs hx hc => ?_⟩
  rw [List.getElem?_drop] at hx hc
  exact h.2 _ x cs hx hc
theorem flat_take {n : Nat} {css : List (List Value)} (hn : ∀ cs ∈ css, cs.length = n) (j : Nat) : css.flatten.take (j * n) = (css.take j).flatten := by
  rcases Nat.le_total css.length j with h | h
  · rw [List.take_of_length_le h, List.take_of_length_le]
    rw [flat_len css hn]; exact Nat.mul_le_mul_right n h
  · have e := congrArg List.flatten (List.take_append_drop j css)
    rw [List.flatten_append] at e
    rw [← e, List.take_left']
    rw [flat_len (css.take j) fun c hc => hn c (List.mem_of_mem_take hc), List.length_take, Nat.min_eq_left h]
theorem flat_drop {n : Nat} {css : List (List Value)} (hn : ∀ cs ∈ css, cs.length = n) (j : Nat) : css.flatten.drop (j * n) = (css.drop j).flatten := by
  rcases Nat.le_total css.length j with h | h
  · rw [List.drop_of_length_le h, List.drop_of_length_le]; rfl
    rw [flat_len css hn]; exact Nat.mul_le_mul_right n h
  · have e := congrArg List.flatten (List.take_append_drop j css)
    rw [List.flatten_append] at e
    rw [← e, List.drop_left']
    rw [flat_len (css.take j) fun c hc => hn c (List.mem_of_mem_take hc), List.length_take, Nat.min_eq_left h]
/-- a slice cut short is its own as well -/
theorem Own.pref {e : TypeId} {v : Value} {j : Nat} (hj : j ≤ xs.length) : ∀ F L w, Own K e v xs F L w → Own K e (prefV v j) (xs.take j) F L w := by
  rintro F L w ⟨css, hch, hown, hF⟩
  refine ⟨css.take j, hch.take j, ?_, fun g hg => hF g (ownBlock_pref hg)⟩
  have h1 := ownsRow_pref hown hj
  rw [flat_take (fun c hc => (hch.each c hc).1)] at h1
  have hjl : (xs.take j).length = j := by rw [List.length_take]; omega
  rw [hjl]; exact h1
theorem own_row {e : TypeId} {v : Value} {F L : Foot} {w : World} (h : Own K e v xs F L w) (hp : 0 < xs.length) : ∃ g cap cur css, v = .slice (some ⟨g, 0, none⟩) xs.length cap ∧ F g ∧ w.heap[g]? = some (.cells cur e (0, 0)) ∧ xs.length ≤ cap ∧ cap ≤ maxLen ∧ cur.size = cap * K.n ∧ cur.toList.take (xs.length * K.n) = css.flatten ∧ Chunks K L w xs css := by
  obtain ⟨css, hch, ⟨hl, h⟩, hF⟩ := h
  rcases h with ⟨_, h0⟩ | ⟨g, cap, cur, rfl, hb, hh, h1, h2, h3, h4⟩
  · omega
  · exact ⟨g, cap, cur, css, rfl, hF g rfl, hh, h1, h2, h3, h4, hch⟩

theorem pref_form {v : Value} {m j : Nat} (h : ∃ A c, v = .slice A m c ∧ m ≤ c) (hj : j ≤ m) : ∃ A c, prefV v j = .slice A j c ∧ j ≤ c := by
  obtain ⟨A, c, rfl, hc⟩ := h; exact ⟨A, c, rfl, by omega⟩
theorem pref_form' {v : Value} {m j i : Nat} (h : ∃ A c, v = .slice A m c ∧ m ≤ c) (hj : j ≤ m) : ∃ A c, prefV v i = .slice A i c ∧ j ≤ c := by
  obtain ⟨A, c, rfl, hc⟩ := h; exact ⟨A, c, rfl, by omega⟩
theorem view_form2 {v : Value} : ∀ F L w, View K v xs F L w → ∃ A c, v = .slice A xs.length c ∧ xs.length ≤ c ∧ (A = none → xs = []) := fun F L w ⟨A, c, h1, h2, h3⟩ => ⟨A, c, h1, h2, fun hA => by
  rcases Nat.eq_zero_or_pos xs.length with h | h
  · exact List.eq_nil_of_length_eq_zero h
  · obtain ⟨ad, _, h4, _⟩ := h3 h; rw [hA] at h4; cases h4⟩

/-! ### 2. Operations on values -/
variable {B : Base} {P : Program} {M : Mem} {Γ : Env} {Q : Exit → Act → World → Prop} {ops : Array Oper} {o : Oper} {l : List Oper} {R : VP} {t e : TypeId} {x y z : Operand} {v : Value}
theorem OpM.prefR {k : IntKind} (j : Nat) {jj : Int} (ho : o.op = .slice t x none (some z) none) (hx : Has M Γ x (is v)) (hz : Has M Γ z (is (.int k jj))) (hu : P.underlying t = some (.slice e)) (hs : sizeB P e K.n = true) (hj : jj = (j : Int)) {m : Nat} (hv : ∃ A c, v = .slice A m c ∧ m ≤ c) (hle : j ≤ m) : OpM P M Γ o (is (prefV v j)) :=
  OpM.isv fun a w κ hm hr => by
    obtain ⟨A, c, ev, hc⟩ := hv
    unfold execOp
    rw [ho]
    simp only [hx.val hm hr (by simp [ho, Op.operands]), ev, hz.val hm hr (by simp [ho, Op.operands]), Option.map_some, Option.map_none, Sem.run_bind, run_sliceTo hu hs (show 0 ≤ jj by omega) (show jj ≤ (c : Int) by omega) w, Result.andThen_ok, prefV]
    have e1 : (if c = 0 then A else A.map (·.add 0)) = A := by
      cases A with
      | none => simp
      | some a => simp [Addr.add_zero']
    rw [e1, show jj.toNat = j by omega]
    rfl
theorem OpM.suffix {k : IntKind} (i : Nat) {ii : Int} (ho : o.op = .slice t x (some y) none none) (hx : Has M Γ x (is v)) (hy : Has M Γ y (is (.int k ii))) (hu : P.underlying t = some (.slice e)) (hs : sizeB P e K.n = true) (hi : ii = (i : Int)) {m : Nat} (hv : ∃ A c, v = .slice A m c ∧ m ≤ c) (hle : i ≤ m) : OpM P M Γ o (is (partV v i m K.n)) :=
  OpM.isv fun a w κ hm hr => by
    obtain ⟨A, c, ev, hc⟩ := hv
    unfold execOp
    rw [ho]
    simp only [hx.val hm hr (by simp [ho, Op.operands]), ev, hy.val hm hr (by simp [ho, Op.operands]), Option.map_some, Option.map_none, Sem.run_bind, run_sliceFrom hu hs (show 0 ≤ ii by omega) (show ii ≤ (m : Int) by omega) w, Result.andThen_ok, partV]
    rw [show ii.toNat = i by omega]
    rfl
/-- a part up to any place within the room -/
theorem OpM.partR {k k' : IntKind} (i j : Nat) {ii jj : Int} (ho : o.op = .slice t x (some y) (some z) none) (hx : Has M Γ x (is v)) (hy : Has M Γ y (is (.int k ii))) (hz : Has M Γ z (is (.int k' jj))) (hu : P.underlying t = some (.slice e)) (hs : sizeB P e K.n = true) (hi : ii = (i : Int)) (hj : jj = (j : Int)) {m : Nat} (hv : ∃ A c, v = .slice A m c ∧ j ≤ c) (hle : i ≤ j) : OpM P M Γ o (is (partV v i j K.n)) :=
  OpM.isv fun a w κ hm hr => by
    obtain ⟨A, c, ev, hc⟩ := hv
    unfold execOp
    rw [ho]
    simp only [hx.val hm hr (by simp [ho, Op.operands]), ev, hy.val hm hr (by simp [ho, Op.operands]), hz.val hm hr (by simp [ho, Op.operands]), Option.map_some, Option.map_none, Sem.run_bind, run_sliceAt hu hs (show 0 ≤ ii by omega) (show ii ≤ jj by omega) (show jj ≤ (c : Int) by omega) w, Result.andThen_ok, partV]
    rw [show ii.toNat = i by omega, show jj.toNat = j by omega]
    rfl
/-- a part whose room is told as well, of which nobody asks -/
theorem OpM.slice3 {k k' k'' : IntKind} {ii jj mm : Int} {u : Operand} (ho : o.op = .slice t x (some y) (some z) (some u)) (hx : Has M Γ x (is v)) (hy : Has M Γ y (is (.int k ii))) (hz : Has M Γ z (is (.int k' jj))) (hw : Has M Γ u (is (.int k'' mm))) (hu : P.underlying t = some (.slice e)) (hs : sizeB P e K.n = true) {m : Nat} (hv : ∃ A c, v = .slice A m c ∧ m ≤ c) (h0 : 0 ≤ ii) (h1 : ii ≤ jj) (h2 : jj ≤ mm) (h3 : mm ≤ m) : OpM P M Γ o anyV :=
  OpM.pure fun a w κ _ hm hr => by
    obtain ⟨A, c, ev, hc⟩ := hv
    refine ⟨.slice (if mm.toNat = ii.toNat then A else A.map (·.add (ii.toNat * K.n))) (jj.toNat - ii.toNat) (mm.toNat - ii.toNat), ?_, fun _ _ => trivial⟩
    unfold execOp
    rw [ho]
    simp only [hx.val hm hr (by simp [ho, Op.operands]), ev, hy.val hm hr (by simp [ho, Op.operands]), hz.val hm hr (by simp [ho, Op.operands]), hw.val hm hr (by simp [ho, Op.operands]), Option.map_some]
    simp [Instr.sliceAt, Instr.slice, run_underlying hu, Instr.sliceBounds, Instr.sliceBound, asIntOf, run_sizeOf hs, h0, h1, h2, show 0 ≤ jj by omega, show 0 ≤ mm by omega, show mm ≤ (c : Int) by omega, show max mm 0 = mm by omega, show max jj 0 = jj by omega]
theorem OpM.lenP {m : Nat} (ho : o.op = .call ⟨.builtin .len, #[x], #[t]⟩) (hx : Has M Γ x (is v)) (hv : ∃ A c, v = .slice A m c ∧ m ≤ c) (hu : P.underlying t = some (.slice e)) : OpM P M Γ o (is (.int .i64 m)) :=
  OpM.isv fun a w κ mm hr => by
    obtain ⟨A, c, ev, hc⟩ := hv
    unfold execOp
    rw [ho]
    have hxv := hx.val mm hr (by simp [ho, Op.operands, Call.operands])
    rw [ev] at hxv
    simp [resolve, invoke, builtin, Builtin.len_, run_underlying hu, hxv, goInt]

/-! ### 3. Own memory turned in place -/
theorem run_cells {P : Program} {g : Nat} {cur : Array Value} {T : TypeId} {w : World} (h : w.heap[g]? = some (.cells cur T (0, 0))) {off : Nat} {cs : List Value} (hc : ∀ j u, cs[j]? = some u → cur.toList[off + j]? = some u) : (loadCells ⟨g, off, none⟩ cs.length).run P w = .ok cs.toArray w := by
  refine run_loadCells_list (P := P) (w := w) _ cs fun j u hj => ?_
  rw [Addr.add_lit, cell_of_row w g (off + j) cur T (0, 0) h]
  simpa using hc j u hj
/-- what stands behind a gap is moved up to it -/
theorem TrL.appendP (n i j : Nat) (hty : (match P.underlying t with | some (.int _) => false | _ => true) = true) (ho : o.op = .call ⟨.builtin .append, #[x, y], #[t, t]⟩) (hg : o.guard = none) (d : Nat) (hed : o.dst = some d) (hd : Nat.blt d B.N = true)
    (hx : Has M Γ x (is (prefV v i))) (hy : Has M Γ y (is (partV v j xs.length K.n))) (hm : M.get n = some (Own K e v xs)) (hn : B.own n = true) (hu : P.underlying t = some (.slice e)) (hs : sizeB P e K.n = true) (hij : i ≤ j) (hj : j ≤ xs.length) (hpos : 0 < xs.length)
    (k : TrL B P ops l ((n, Own K e v (xs.take i ++ xs.drop j ++ xs.drop (i + (xs.length - j)))) :: M) ((d, is (prefV v (i + (xs.length - j)))) :: Γ) Q) : TrL B P ops (o :: l) M Γ Q := by
  intro a w s
  obtain ⟨κ, g, m, r⟩ := s.ex
  have two := g.two _ hn
  have hown := (m n _ two hm).now
  obtain ⟨gb, cap, cur, css, ev, hF, hh, h1, h2, h3, h4, hch⟩ := own_row hown hpos
  have hcl := fun c hc => (hch.each c hc).1
  have hxv := hx.val m (r.on o.op.operands.toList) (by rw [ho]; simp [Op.operands, Call.operands])
  have hyv := hy.val m (r.on o.op.operands.toList) (by rw [ho]; simp [Op.operands, Call.operands])
  -- the cells
  obtain ⟨q, hq⟩ : ∃ q, q = xs.length - j := ⟨_, rfl⟩
  have hdl : (css.drop j).flatten.length = q * K.n := by rw [flat_len _ fun c hc => hcl c (List.mem_of_mem_drop hc), List.length_drop, hch.1, hq]
  have hjm : j * K.n + q * K.n = xs.length * K.n := by rw [← Nat.add_mul]; congr 1; omega
  have him : i * K.n + q * K.n ≤ xs.length * K.n := by rw [← Nat.add_mul]; exact Nat.mul_le_mul_right _ (by omega)
  have hmc : xs.length * K.n ≤ cap * K.n := Nat.mul_le_mul_right _ h1
  have hones : ((css.drop j).flatten).all (·.oneCell') = true := by
    rw [List.all_eq_true]
    intro u hu'
    obtain ⟨c, hc, hcu⟩ := List.mem_flatten.1 hu'
    exact (hch.each c (List.mem_of_mem_drop hc)).2 u hcu
  have hcur : cur.toList = css.flatten ++ cur.toList.drop (xs.length * K.n) := by rw [← h4, List.take_append_drop]
  obtain ⟨w', hw1, hw2, hw3⟩ := run_storeBlk (P := P) (b := gb) (T := e) (off := i * K.n) (css.drop j).flatten cur.toList 0 w (by simpa using hh) (by rw [hdl]; simp only [Nat.add_zero, Array.length_toList, h3]; omega) hones
  rw [Nat.add_zero] at hw2
  have hrun : (Builtin.append_ #[t, t] o.type #[prefV v i, partV v j xs.length K.n]).run P w = .ok (prefV v (i + q)) w' := by
    have hz : (match P.underlying t with | some (.int _) => true | _ => false) = false := by rw [hu]
    rw [ev]
    simp only [prefV, partV]
    have hb : (if cap = j then some (⟨gb, 0, none⟩ : Addr) else (some (⟨gb, 0, none⟩ : Addr)).map (·.add (j * K.n))) = some (if cap = j then ⟨gb, 0, none⟩ else ⟨gb, j * K.n, none⟩) := by
      split
      · rfl
      · simp [Addr.add_lit]
    rw [hb, ← hq]
    have hload : (loadCells (if cap = j then (⟨gb, 0, none⟩ : Addr) else ⟨gb, j * K.n, none⟩) (q * K.n)).run P w = .ok ((css.drop j).flatten).toArray w := by
      split
      · have h0 : q = 0 := by omega
        subst h0
        have e0 : (css.drop j).flatten = [] := List.eq_nil_of_length_eq_zero (by rw [hdl]; simp)
        rw [e0]
        have := run_loadCells_list (P := P) (w := w) (⟨gb, 0, none⟩ : Addr) [] (by simp)
        simpa using this
      · rw [← hdl]
        refine run_cells hh fun jj u hu' => ?_
        rw [hcur, List.getElem?_append_left (by
          have := getL_len hu'
          rw [hdl] at this
          rw [flat_len css hcl, hch.1]; omega), ← List.getElem?_drop, flat_drop hcl]
        exact hu'
    simp only [Builtin.append_, run_underlying hu, run_sizeOf hs, Sem.run_bind, Sem.run_pure, Result.andThen_ok, Builtin.lenOf, Builtin.firstCells, List.getElem?_toArray, List.getElem?_cons_zero, List.getElem?_cons_succ, Bool.not_false, if_true, if_false, Bool.false_eq_true]
    have hle : i + q ≤ cap := by omega
    simp [hle, hload, Addr.add_lit, hw1]
  refine wpList_step fun K' hK => ?_
  rw [if_pos (by simp [Region.wanted, hg])]
  unfold Oper.wp execOp
  rw [ho]
  simp only [resolve, invoke, builtin, Sem.run_bind, Sem.run_pure, Result.andThen_ok, List.map_toArray, List.map_cons, List.map_nil, hxv, hyv, hrun]
  refine hK _ _ (k _ _ ?_)
  rw [hed]
  have hkeep : Keeps (fun x => κ x = n) w w' := hw3.mono fun b _ hb => by rw [hb]; exact hF
  have hlv : Keeps (live κ) w w' := hkeep.mono fun b _ hb => by unfold live; omega
  have e1 : setAt cur.toList (i * K.n) (css.drop j).flatten = (css.take i ++ css.drop j ++ css.drop (i + q)).flatten ++ cur.toList.drop (xs.length * K.n) := by
    obtain ⟨rest, hrest⟩ : ∃ rest, rest = cur.toList.drop (xs.length * K.n) := ⟨_, rfl⟩
    rw [← hrest] at hcur ⊢
    have a1 := congrArg List.flatten (List.take_append_drop i css)
    rw [List.flatten_append] at a1
    have a2 := List.take_append_drop (q * K.n) (css.drop i).flatten
    rw [flat_drop (fun c hc => hcl c (List.mem_of_mem_drop hc)), List.drop_drop] at a2
    have hp : css.flatten = (css.take i).flatten ++ ((css.drop i).flatten.take (q * K.n)) ++ (css.drop (i + q)).flatten := by
      rw [List.append_assoc, a2, a1]
    have hpl : ((css.take i).flatten).length = i * K.n := by rw [flat_len _ fun c hc => hcl c (List.mem_of_mem_take hc), List.length_take, hch.1, Nat.min_eq_left (by omega)]
    have hml : ((css.drop i).flatten.take (q * K.n)).length = (css.drop j).flatten.length := by
      rw [hdl, List.length_take, flat_len _ fun c hc => hcl c (List.mem_of_mem_drop hc), List.length_drop, hch.1]
      exact Nat.min_eq_left (Nat.mul_le_mul_right _ (by omega))
    have h5 := setAt_eq (css.drop j).flatten (css.take i).flatten ((css.drop (i + q)).flatten ++ rest) ((css.drop i).flatten.take (q * K.n)) hml
    rw [hpl] at h5
    have h6 : cur.toList = (css.take i).flatten ++ ((css.drop i).flatten.take (q * K.n)) ++ ((css.drop (i + q)).flatten ++ rest) := by
      rw [← List.append_assoc, ← hp]; exact hcur
    rw [h6, h5, List.flatten_append, List.flatten_append]
    simp only [List.append_assoc]
  have hch' : Chunks K (live κ) w' (xs.take i ++ xs.drop j ++ xs.drop (i + q)) (css.take i ++ css.drop j ++ css.drop (i + q)) :=
    (((hch.take i).append (hch.drop j)).append (hch.drop (i + q))).later hlv (fun _ _ h => h) fun _ _ h => h
  have hlen : (xs.take i ++ xs.drop j ++ xs.drop (i + q)).length = xs.length := by simp; omega
  have hrow : w'.ownsRow 0 e K.n v (xs.take i ++ xs.drop j ++ xs.drop (i + q)).length (css.take i ++ css.drop j ++ css.drop (i + q)).flatten := by
    rw [hlen]
    have hfl : (css.take i ++ css.drop j ++ css.drop (i + q)).flatten.length = xs.length * K.n := by
      rw [flat_len _ fun c hc => (hch'.each c hc).1, hch'.1, hlen]
    refine ⟨hfl, .inr ⟨gb, cap, _, ev, Nat.zero_le _, hw2, h1, h2, by simp [setAt_length, h3], ?_⟩⟩
    rw [e1]
    exact List.take_left' hfl
  have st := (St.turn1 hn s.size s.defers g m r hkeep (φ := Own K e v (xs.take i ++ xs.drop j ++ xs.drop (i + q))) fun L w'' hL k'' => ⟨_, hch'.later k'' (fun b _ hb => hb.1) hL, owns_block hrow fun g' hg' => k''.block g' (by
      have := (hrow.lt g' hg').2; exact this) (by
      rintro ⟨_, h7⟩
      rw [ev] at hg'
      simp only [Value.ownBlock, Option.some.injEq] at hg'
      exact h7 (hg' ▸ hF)), fun g' hg' => by
      rw [ev] at hg'
      simp only [Value.ownBlock, Option.some.injEq] at hg'
      exact hg' ▸ hF⟩)
  rw [hq] at st ⊢
  obtain ⟨κ2, g2, m2, r2⟩ := st.ex
  exact ⟨by rw [put_size]; exact st.size, by rw [put_defers]; exact st.defers, κ2, g2, m2, r2.put (d := some d) (by rw [st.size]; exact dstOk.to (show dstOk (some d) B.N = true from hd)) Box.is⟩
/-- what stands behind a place is made nought -/
def zoneB (P : Program) (e : TypeId) : Bool := match P.info? e with | some i => (match i.zero with | some z => z.cells.all (·.oneCell') | none => false) | none => false
theorem partV_pref {v : Value} {k i j n : Nat} : partV (prefV v k) i j n = partV v i j n := by cases v <;> rfl
theorem zeroCells_ok {zero : Array Value} {n : Nat} (h0 : 0 < zero.size) (h1 : zero.all (·.oneCell') = true) : (Builtin.zeroCells zero n).toList.length = n * zero.size ∧ (Builtin.zeroCells zero n).toList.all (·.oneCell') = true := by
  refine ⟨by simp [Builtin.zeroCells], ?_⟩
  rw [List.all_eq_true]
  intro u hu
  simp only [Builtin.zeroCells, Array.toList_map, List.mem_map] at hu
  obtain ⟨i, _, rfl⟩ := hu
  have hi : i % zero.size < zero.size := Nat.mod_lt _ h0
  rw [getElem!_pos zero (i % zero.size) hi]
  rw [Array.all_eq_true] at h1
  exact h1 _ hi
theorem TrL.clearP (n k : Nat) {bytes : Nat} (ho : o.op = .call ⟨.builtin .clear, #[x], #[t]⟩) (hg : o.guard = none) (hed : o.dst = none)
    (hx : Has M Γ x (is (partV v k xs.length K.n))) (hm : M.get n = some (Own K e v xs)) (hn : B.own n = true) (hu : P.underlying t = some (.slice e)) (he : elemB P e K.n bytes = true) (hz1 : zoneB P e = true) (hk : k ≤ xs.length)
    (kk : TrL B P ops l ((n, Own K e (prefV v k) (xs.take k)) :: M) Γ Q) : TrL B P ops (o :: l) M Γ Q := by
  intro a w s
  obtain ⟨κ, g, m, r⟩ := s.ex
  have two := g.two _ hn
  have hown := (m n _ two hm).now
  have hxv := hx.val m (r.on o.op.operands.toList) (by rw [ho]; simp [Op.operands, Call.operands])
  refine wpList_step fun K' hK => ?_
  rw [if_pos (by simp [Region.wanted, hg])]
  unfold Oper.wp execOp
  rw [ho]
  simp only [resolve, invoke, builtin, Sem.run_bind, Sem.run_pure, Result.andThen_ok, List.map_toArray, List.map_cons, List.map_nil, hxv]
  by_cases hkm : k = xs.length
  · -- nothing stands behind it
    obtain ⟨A, c, ev, hc⟩ := own_form _ _ _ hown
    have hrun : (Builtin.clear_ #[t] o.type #[partV v k xs.length K.n]).run P w = .ok (.tuple #[]) w := by
      rw [ev]
      simp only [partV, hkm, Nat.sub_self]
      cases hA : (if c = xs.length then A else A.map (·.add (xs.length * K.n))) <;> simp [Builtin.clear_, run_underlying hu, hA]
    rw [hrun]
    simp only [Result.andThen_ok]
    refine hK _ _ (kk _ _ ((s.memI hm ?_).put_undef hed _))
    exact Own.pref hk
  · have hpos : 0 < xs.length := by omega
    obtain ⟨gb, cap, cur, css, ev, hF, hh, h1, h2, h3, h4, hch⟩ := own_row hown hpos
    have hcl := fun c hc => (hch.each c hc).1
    unfold elemB at he
    cases hi : P.info? e with
    | none => rw [hi] at he; cases he
    | some i =>
      rw [hi] at he
      simp only [Bool.and_eq_true] at he
      cases hzz : i.zero with
      | none => rw [hzz] at he; simp at he
      | some zv =>
        rw [hzz] at he
        have hsz : zv.cells.size = K.n := beq_true he.2
        have hz2 : zv.cells.all (·.oneCell') = true := by unfold zoneB at hz1; rw [hi] at hz1; simp only [hzz] at hz1; exact hz1
        obtain ⟨hl, hone⟩ := zeroCells_ok (n := xs.length - k) (by rw [hsz]; exact K.pos) hz2
        rw [hsz] at hl
        have hkm2 : k * K.n + (xs.length - k) * K.n = xs.length * K.n := by rw [← Nat.add_mul]; congr 1; omega
        have hmc : xs.length * K.n ≤ cap * K.n := Nat.mul_le_mul_right _ h1
        obtain ⟨w', hw1, hw2, hw3⟩ := run_storeBlk (P := P) (b := gb) (T := e) (off := k * K.n) (Builtin.zeroCells zv.cells (xs.length - k)).toList cur.toList 0 w (by simpa using hh) (by rw [hl]; simp only [Nat.add_zero, Array.length_toList, h3]; omega) hone
        rw [Nat.add_zero] at hw2
        have hrun : (Builtin.clear_ #[t] o.type #[partV v k xs.length K.n]).run P w = .ok (.tuple #[]) w' := by
          rw [ev]
          obtain ⟨q, hq⟩ : ∃ q, xs.length - k = q + 1 := ⟨xs.length - k - 1, by omega⟩
          have hcap : ¬ cap = k := by omega
          simp only [partV, if_neg hcap, Option.map_some, Addr.add_lit, Nat.zero_add]
          rw [hq] at hw1 ⊢
          simp [Builtin.clear_, run_underlying hu, zeroValue, typeInfo, hi, hzz, hw1]
        rw [hrun]
        simp only [Result.andThen_ok]
        have hkeep : Keeps (fun x => κ x = n) w w' := hw3.mono fun b _ hb => by rw [hb]; exact hF
        have hlv : Keeps (live κ) w w' := hkeep.mono fun b _ hb => by unfold live; omega
        have hfl : (css.take k).flatten.length = k * K.n := by rw [flat_len _ fun c hc => hcl c (List.mem_of_mem_take hc), List.length_take, hch.1, Nat.min_eq_left hk]
        have hpre : (setAt cur.toList (k * K.n) (Builtin.zeroCells zv.cells (xs.length - k)).toList).take (k * K.n) = (css.take k).flatten := by
          have h5 := setAt_eq (Builtin.zeroCells zv.cells (xs.length - k)).toList (css.take k).flatten (cur.toList.drop (xs.length * K.n)) ((cur.toList.drop (k * K.n)).take ((xs.length - k) * K.n)) (by
            have hcs : cur.toList.length = cap * K.n := by simpa using h3
            rw [hl, List.length_take, List.length_drop, hcs]; exact Nat.min_eq_left (by omega))
          have h6 : cur.toList = (css.take k).flatten ++ ((cur.toList.drop (k * K.n)).take ((xs.length - k) * K.n)) ++ cur.toList.drop (xs.length * K.n) := by
            have a1 : cur.toList.take (k * K.n) = (css.take k).flatten := by
              rw [← flat_take hcl, ← h4, List.take_take, Nat.min_eq_left (by omega)]
            have a2 := List.take_append_drop (k * K.n) cur.toList
            have a3 := List.take_append_drop ((xs.length - k) * K.n) (cur.toList.drop (k * K.n))
            rw [List.drop_drop, hkm2] at a3
            rw [List.append_assoc, a3, ← a1, a2]
          rw [hfl] at h5
          rw [h6, h5, List.append_assoc]
          exact List.take_left' hfl
        have hch' : Chunks K (live κ) w' (xs.take k) (css.take k) := (hch.take k).later hlv (fun _ _ h => h) fun _ _ h => h
        have hlen : (xs.take k).length = k := by rw [List.length_take]; omega
        have hrow : w'.ownsRow 0 e K.n (prefV v k) (xs.take k).length (css.take k).flatten := by
          rw [hlen]
          refine ⟨hfl, .inr ⟨gb, cap, _, by rw [ev]; rfl, Nat.zero_le _, hw2, by omega, h2, by simp [setAt_length, h3], hpre⟩⟩
        have hob : ∀ g', (prefV v k).ownBlock = some g' → κ g' = n := fun g' hg' => by
          rw [ev] at hg'
          simp only [prefV, Value.ownBlock, Option.some.injEq] at hg'
          exact hg' ▸ hF
        refine hK _ _ (kk _ _ ((St.turn1 hn s.size s.defers g m r hkeep ?_).put_undef hed _))
        intro L w'' hL k''
        exact ⟨_, hch'.later k'' (fun b _ hb => hb.1) hL, owns_block hrow fun g' hg' => k''.block g' (hrow.lt g' hg').2 (by rintro ⟨_, h7⟩; exact h7 (hob g' hg')), hob⟩
/-- a fact on a handle that stands in an own variable -/
theorem St.factIn {b off : Nat} {Rs : List VP} {T : TypeId} {a : Act} {w : World} (s : St B M Γ a w) (n m : Nat) (h2 : 2 ≤ n) (h3 : 2 ≤ m) (hm : M.get n = some (BlkR b Rs T)) (hf : M.get m = some (Fact R v)) (ho : Rs[off]? = some (is v)) : St B ((n, BlkR b (Rs.set off R) T) :: M) Γ a w := by
  obtain ⟨κ, g, mm, r⟩ := s.ex
  refine ⟨s.size, s.defers, κ, g, fun l φ hl2 hl => ?_, r⟩
  simp only [Mem.get] at hl
  cases hb : Nat.beq n l with
  | false => rw [hb] at hl; exact mm l φ hl2 hl
  | true =>
    rw [hb] at hl
    simp only [cond_true, Option.some.injEq] at hl
    subst hl
    obtain rfl := beq_true hb
    intro L w' hL k
    obtain ⟨hF, cs, hh, ha⟩ := mm n _ hl2 hm L w' hL k
    have hno : ∀ b, κ b ≠ m := (mm m _ h3 hf).now.1
    have hfact := (mm m _ h3 hf L w' hL (k.mono fun b _ hb => ⟨hb.1, hno b⟩)).2
    refine ⟨hF, cs, hh, fun w'' k'' => ?_⟩
    have h1 := ha w'' k''
    have hlt := getL_len ho
    have hlen : off < cs.length := by rw [h1.length]; exact hlt
    obtain ⟨u, hu, hv⟩ := h1.get ho
    have e : cs.set off u = cs := by
      rw [List.getElem?_eq_getElem hlen] at hu
      simp only [Option.some.injEq] at hu
      rw [← hu, List.set_getElem_self]
    have huv : u = v := hv
    have := all2_set h1 (R := R) (v := u) (huv ▸ hfact w'' k'') hlen
    rwa [e] at this
theorem Fin.factIn {ex : Exit} {b : Nat} {Rs : List VP} {T : TypeId} (n m off : Nat) (h2 : Nat.ble 2 n = true) (h3 : Nat.ble 2 m = true) (hm : M.get n = some (BlkR b Rs T)) (hf : M.get m = some (Fact R v)) (ho : Rs[off]? = some (is v)) (k : Fin B ((n, BlkR b (Rs.set off R) T) :: M) Γ ex Q) : Fin B M Γ ex Q := fun a w s => k a w (s.factIn n m (Nat.le_of_ble_eq_true h2) (Nat.le_of_ble_eq_true h3) hm hf ho)
theorem TrL.factIn {b : Nat} {Rs : List VP} {T : TypeId} (n m off : Nat) (h2 : Nat.ble 2 n = true) (h3 : Nat.ble 2 m = true) (hm : M.get n = some (BlkR b Rs T)) (hf : M.get m = some (Fact R v)) (ho : Rs[off]? = some (is v)) (k : TrL B P ops l ((n, BlkR b (Rs.set off R) T) :: M) Γ Q) : TrL B P ops l M Γ Q := fun a w s => k a w (s.factIn n m (Nat.le_of_ble_eq_true h2) (Nat.le_of_ble_eq_true h3) hm hf ho)

/-- two labels change places -/
theorem St.swap {φ ψ : RP} {a : Act} {w : World} (s : St B M Γ a w) (n m : Nat) (hn : B.own n = true) (hm : B.own m = true) (hne : Nat.beq n m = false) (h1 : M.get n = some φ) (h2 : M.get m = some ψ) : St B ((m, φ) :: (n, ψ) :: M) Γ a w := by
  obtain ⟨κ, g, mm, r⟩ := s.ex
  have t1 := g.two _ hn
  have t2 := g.two _ hm
  have hne' : n ≠ m := beq_ne hne
  obtain ⟨κ', hκ⟩ : ∃ κ' : Nat → Nat, κ' = fun b => if κ b = n then m else if κ b = m then n else κ b := ⟨_, rfl⟩
  have e : ∀ b, κ' b = if κ b = n then m else if κ b = m then n else κ b := fun b => by rw [hκ]
  have e0 : ∀ b, κ' b ≠ 0 ↔ κ b ≠ 0 := fun b => by rw [e]; split <;> (try split) <;> omega
  have live_eq : live κ' = live κ := funext fun b => propext (e0 b)
  refine ⟨s.size, s.defers, κ', ⟨g.two, fun b hb => by rw [e, g.wf b hb, if_neg (by omega), if_neg (by omega)], g.keeps, fun b hb ho => ?_⟩, fun l χ hl2 hl => ?_, fun t R ht => by rw [live_eq]; exact r t R ht⟩
  · have := g.old b hb ho
    rw [e, this, if_neg (fun h => by rw [h, hn] at ho; cases ho), if_neg (fun h => by rw [h, hm] at ho; cases ho)]
  · simp only [Mem.get] at hl
    cases hb : Nat.beq m l with
    | true =>
      rw [hb] at hl; simp only [cond_true, Option.some.injEq] at hl; subst hl; obtain rfl := beq_true hb
      exact (mm n _ t1 h1).rename (fun b => by rw [e]; split <;> (try split) <;> omega) fun b _ h => (e0 b).1 h
    | false =>
      rw [hb] at hl
      simp only [cond_false] at hl
      cases hb2 : Nat.beq n l with
      | true =>
        rw [hb2] at hl; simp only [cond_true, Option.some.injEq] at hl; subst hl; obtain rfl := beq_true hb2
        exact (mm m _ t2 h2).rename (fun b => by rw [e]; split <;> (try split) <;> omega) fun b _ h => (e0 b).1 h
      | false =>
        rw [hb2] at hl
        have n1 := beq_ne hb; have n2 := beq_ne hb2
        exact (mm l _ hl2 hl).rename (fun b => by rw [e]; split <;> (try split) <;> omega) fun b _ h => (e0 b).1 h
theorem Fin.swap {ex : Exit} {φ ψ : RP} (n m : Nat) (hn : B.own n = true) (hm : B.own m = true) (hne : Nat.beq n m = false) (h1 : M.get n = some φ) (h2 : M.get m = some ψ) (k : Fin B ((m, φ) :: (n, ψ) :: M) Γ ex Q) : Fin B M Γ ex Q := fun a w s => k a w (s.swap n m hn hm hne h1 h2)
theorem Tr.swap {c : Code} {φ ψ : RP} (n m : Nat) (hn : B.own n = true) (hm : B.own m = true) (hne : Nat.beq n m = false) (h1 : M.get n = some φ) (h2 : M.get m = some ψ) (k : Tr B P ((m, φ) :: (n, ψ) :: M) Γ c Q) : Tr B P M Γ c Q := fun a w s => k a w (s.swap n m hn hm hne h1 h2)
theorem TrL.swap {φ ψ : RP} (n m : Nat) (hn : B.own n = true) (hm : B.own m = true) (hne : Nat.beq n m = false) (h1 : M.get n = some φ) (h2 : M.get m = some ψ) (k : TrL B P ops l ((m, φ) :: (n, ψ) :: M) Γ Q) : TrL B P ops l M Γ Q := fun a w s => k a w (s.swap n m hn hm hne h1 h2)

/-! ### 4. Appended: what is lent -/
theorem view_flat {n : Nat} {w : World} {ad : Addr} : ∀ {css : List (List Value)}, (∀ cs ∈ css, cs.length = n) → (∀ (i : Nat) cs, css[i]? = some cs → CellsAt w (ad.add (i * n)) cs) → ∀ (j : Nat) u, css.flatten[j]? = some u → w.cell? (ad.add j) = some u
  | [], _, _, j, u, h => by simp at h
  | c :: css, hn, hat, j, u, h => by
    have hc := hn c (by simp)
    rw [List.flatten_cons] at h
    rcases Nat.lt_or_ge j c.length with hj | hj
    · rw [List.getElem?_append_left hj] at h
      have := hat 0 c rfl j u h
      rwa [Nat.zero_mul, add_add, Nat.zero_add] at this
    · rw [List.getElem?_append_right hj, hc] at h
      have := view_flat (ad := ad.add n) (css := css) (fun cs hcs => hn cs (by simp [hcs])) (fun i cs hi => by
        have := hat (i + 1) cs (by simpa using hi)
        rwa [Nat.succ_mul, Nat.add_comm, ← add_add] at this) (j - n) u h
      rw [add_add, show n + (j - n) = j by omega] at this
      exact this
theorem TrL.appendV0 {τ : Type} {K : Rep τ} (n m2 : Nat) {t e : TypeId} {bytes : Nat} {x y : Operand} {v u : Value} {φ : RP} {xs ys : List τ} (ho : o.op = .call ⟨.builtin .append, #[x, y], #[t, t]⟩) (hg : o.guard = none) (hd : dstOk o.dst B.N = true)
    (hx : Has M Γ x (is v)) (hm : M.get n = some (Own K e v xs)) (hn : B.own n = true) (hy : Has M Γ y (is u)) (hm2 : M.get m2 = some φ) (hφ : ∀ F L w, φ F L w → View K u ys F L w) (h22 : Nat.ble 2 m2 = true) (hu : P.underlying t = some (.slice e)) (he : elemB P e K.n bytes = true) (hpos : 0 < ys.length)
    (hlen : (xs.length + ys.length) * bytes ≤ 140737488355328) (hlen2 : xs.length + ys.length ≤ maxLen)
    (k : ∀ v', TrL B P ops l ((n, Own K e v' (xs ++ ys)) :: M) (Γ.put o.dst (is v')) Q) : TrL B P ops (o :: l) M Γ Q := by
  intro a w s
  obtain ⟨κ, g, m, r⟩ := s.ex
  have hn' : B.own n = true := hn
  have h2n := g.two _ hn'
  obtain ⟨css, hch, hown, hF⟩ := (m n _ h2n hm).now
  have hin : y ∈ o.op.operands.toList := by rw [ho]; simp [Op.operands, Call.operands]
  have hyv := hy.val m (r.on o.op.operands.toList) hin
  obtain ⟨A0, c, evu, hc, hA0⟩ := hφ _ _ _ (m m2 _ (Nat.le_of_ble_eq_true h22) hm2).now
  obtain ⟨ad, dss, rfl, hdh, hat⟩ := hA0 hpos
  have ev : a.eval y = .slice (some ad) ys.length c := hyv.trans evu
  have hnews : ∀ j u', dss.flatten[j]? = some u' → w.cell? (ad.add j) = some u' := view_flat (fun cs hcs => (hdh.each cs hcs).1) hat
  have hones : ∀ u ∈ dss.flatten, u.oneCell' = true := by
    intro u hu'
    obtain ⟨z, hz1, hz⟩ := List.mem_flatten.1 hu'
    exact (hdh.each z hz1).2 u hz
  have hfl : dss.flatten.length = ys.length * K.n := by rw [flat_len dss fun cs hcs => (hdh.each cs hcs).1, hdh.1]
  unfold elemB at he
  cases hi : P.info? e with
  | none => rw [hi] at he; cases he
  | some i =>
    rw [hi] at he
    simp only [Bool.and_eq_true] at he
    cases hz : i.zero with
    | none => rw [hz] at he; simp at he
    | some z =>
      rw [hz] at he
      obtain ⟨v', w', hrun, hown', hgrow, _⟩ := run_append_own (P := P) (w := w) 0 t o.type e i z K.n bytes hu hi hz (beq_true he.1.1) (beq_true he.1.2) (beq_true he.2) K.pos v xs.length css.flatten hown ad ys.length c dss.flatten hfl hnews hones hlen2 hlen (Nat.zero_le _)
      refine wpList_step fun K' hK => ?_
      rw [if_pos (by simp [Region.wanted, hg])]
      unfold Oper.wp execOp
      rw [ho]
      have hxv := hx.val m (r.on o.op.operands.toList) (by rw [ho]; simp [Op.operands, Call.operands])
      simp only [resolve, invoke, builtin, Sem.run_bind, Sem.run_pure, Result.andThen_ok, List.map_toArray, List.map_cons, List.map_nil, hxv, ev, hrun]
      refine hK _ _ (k v' _ _ ?_)
      -- the new labels: a new block bears n
      have hkeep : Keeps (fun x => κ x = n) w w' := ⟨hgrow.size, fun b hb hne => hgrow.block b hb fun e => hne (hF b e.symm), hgrow.tape, hgrow.os, hgrow.output⟩
      have turn : Turn (fun x => x = n) κ (fun b => if w.heap.size ≤ b ∧ b < w'.heap.size then n else κ b) w w' :=
        ⟨by omega, by omega, hkeep, fun b hb => by
            show (if _ then n else κ b) = 0
            rw [if_neg (by omega)]; exact g.wf b (Nat.le_trans hgrow.size hb),
          fun b hb h0 => by show (if _ then n else κ b) = 0; rw [if_neg (by omega)]; exact h0,
          fun l' hl' h0 b => by
            show (if _ then n else κ b) = l' ↔ _
            by_cases hb : w.heap.size ≤ b ∧ b < w'.heap.size
            · rw [if_pos hb, g.wf b hb.1]; exact ⟨fun e => absurd e.symm hl', fun e => absurd e.symm h0⟩
            · rw [if_neg hb]⟩
      have hF' : ∀ gb, v'.ownBlock = some gb → (if w.heap.size ≤ gb ∧ gb < w'.heap.size then n else κ gb) = n := fun gb hgb => by
        have hlt := (hown'.lt gb hgb).2
        by_cases hnew : w.heap.size ≤ gb
        · rw [if_pos ⟨hnew, hlt⟩]
        · rw [if_neg (by omega)]
          rcases append_block (P := P) hu hi hz (v := v) (by rw [beq_true he.1.1]; exact hown) ad (by rw [beq_true he.1.1]; exact hfl) hnews hones hpos hlen2 (by rw [beq_true he.1.2]; exact hlen) hrun with e | e
          · exact hF gb (e ▸ hgb)
          · rw [hgb] at e; simp only [Option.some.injEq] at e; omega
      refine ⟨by rw [put_size]; exact s.size, by rw [put_defers]; exact s.defers, _, turn.good g (by rintro l rfl; exact hn'), m.turn turn (fun l' φ h2 hg hne => ?_) (fun l' φ h2 hg hs => ?_), (r.turn turn).put (by rw [s.size]; exact dstOk.to hd) Box.is⟩
      · have : Nat.beq n l' = false := by
          cases h : Nat.beq n l' with
          | false => rfl
          | true => exact absurd (beq_true h).symm hne
        simpa [Mem.get, this] using hg
      · subst hs
        simp only [Mem.get, Nat.beq_eq, decide_true, cond_true] at hg
        have : φ = Own K e v' (xs ++ ys) := by simpa using hg.symm
        subst this
        intro L w'' hL k'
        have hall := hch.append hdh
        have klive : Keeps (live κ) w w' := hkeep.mono fun b _ hb => by unfold live; omega
        have h1 : Chunks K (live fun b => if w.heap.size ≤ b ∧ b < w'.heap.size then l' else κ b) w' (xs ++ ys) (css ++ dss) := hall.later klive (fun b _ hb => hb) fun b hlt hb => by
          have : (if w.heap.size ≤ b ∧ b < w'.heap.size then l' else κ b) ≠ 0 := hb
          rw [if_neg (by omega)] at this
          exact this
        refine ⟨css ++ dss, h1.later k' (fun b _ hb => hb.1) hL, ?_, hF'⟩
        rw [List.flatten_append, List.length_append]
        exact owns_block hown' fun gb hgb => k'.block gb (hown'.lt gb hgb).2 (by rintro ⟨_, h2⟩; exact h2 (hF' gb hgb))
theorem TrL.appendV (n m2 : Nat) {bytes : Nat} {v u : Value} {φ : RP} (ho : o.op = .call ⟨.builtin .append, #[x, y], #[t, t]⟩) (hg : o.guard = none) (d : Nat) (hed : o.dst = some d) (hd : Nat.blt d B.N = true)
    (hx : Has M Γ x (is v)) (hm : M.get n = some (Own K e v xs)) (hn : B.own n = true) (hy : Has M Γ y (is u)) (hm2 : M.get m2 = some φ) (hφ : ∀ F L w, φ F L w → View K u ys F L w) (h22 : Nat.ble 2 m2 = true) (hu : P.underlying t = some (.slice e)) (hs : sizeB P e K.n = true) (he : elemB P e K.n bytes = true)
    (hlen : (xs.length + ys.length) * bytes ≤ 140737488355328) (hlen2 : xs.length + ys.length ≤ maxLen)
    (k : ∀ v', TrL B P ops l ((n, Own K e v' (xs ++ ys)) :: M) ((d, is v') :: Γ) Q) : TrL B P ops (o :: l) M Γ Q := by
  rcases Nat.eq_zero_or_pos ys.length with h0 | h0
  · have hys : ys = [] := List.eq_nil_of_length_eq_zero h0
    subst hys
    rw [List.append_nil] at k
    intro a w s
    obtain ⟨κ, g, m, r⟩ := s.ex
    have two := g.two _ hn
    have s2 := s
    refine TrL.stepS d (R := is v) (OpG.plain hg (OpM.isv fun a w κ m hr => ?_)) hed hd (fun a w s => k v a w (s.sub (fun l φ h2 hl => ?_) fun t R ht => ⟨R, ht, fun _ _ h => h⟩)) a w s2
    · obtain ⟨A, c, ev0, hc, _⟩ := hφ _ _ _ (m m2 _ (Nat.le_of_ble_eq_true h22) hm2).now
      have ev := (hy.val m hr (by simp [ho, Op.operands, Call.operands])).trans ev0
      obtain ⟨css, _, ⟨_, how⟩, _⟩ := (m n _ two hm).now
      have hxv := hx.val m hr (by simp [ho, Op.operands, Call.operands])
      have ev' : a.eval y = .slice A 0 c := ev
      unfold execOp
      rw [ho]
      have hrun : (Builtin.append_ #[t, t] o.type #[v, .slice A 0 c]).run P w = .ok v w := by
        rcases how with ⟨rfl, _⟩ | ⟨gb, cap, cur, rfl, _, _, hcap, _⟩
        · exact run_append_zero hu hs (Nat.le_refl _) w
        · exact run_append_zero hu hs hcap w
      simp only [resolve, invoke, builtin, Sem.run_bind, Sem.run_pure, Result.andThen_ok, List.map_toArray, List.map_cons, List.map_nil, hxv, ev', hrun]
    · simp only [Mem.get] at hl
      cases hb : Nat.beq n l with
      | true =>
        rw [hb] at hl
        simp only [cond_true, Option.some.injEq] at hl
        obtain rfl := beq_true hb
        exact ⟨_, hm, fun F L w h => hl ▸ h⟩
      | false =>
        rw [hb] at hl
        exact ⟨φ, hl, fun _ _ _ h => h⟩
  · exact TrL.appendV0 n m2 ho hg (by rw [hed]; exact hd) hx hm hn hy hm2 hφ h22 hu he h0 hlen hlen2 fun v' => by rw [hed]; exact k v'
/-- with a value that is told -/
theorem AChain.wr1V {fs : Fs} {MA : AMem} {Γf : Sg → Env} {N k : Nat} {K : AMem → (Sg → Env) → Prop} (n d : Nat) {v : Value} {φ : RP} (hw : fs.wr k = [n]) (h2 : Nat.ble 2 n = true) (hg : o.guard = none) (he : o.dst = some d) (hd : Nat.blt d N = true)
    (h : ∀ (w0 : World) (κ0 : Nat → Nat) (σ : Sg), TrL ⟨N, fun m => memB m [n], w0, κ0⟩ P ops [o] (AMem.inst σ (MA.cut (fs.rd k))) ((Γf σ).cut (reads ops o)) (After ⟨N, fun m => memB m [n], w0, κ0⟩ σ (some d) (fun _ => is v) [(n, fun _ => φ)]))
    (r : AChain P N ops fs (k + 1) l ((n, fun _ => φ) :: MA) (fun σ => (d, is v) :: Γf σ) K) : AChain P N ops fs k (o :: l) MA Γf K :=
  AChain.wr (R := fun _ => is v) (ch := [(n, fun _ => φ)]) d [n] hw (by simp [geB, h2]) hg he hd h (by simp [coverB, AMem.get, memB]) Dep.const ⟨Dep.const, trivial⟩ r
end
end Go.Proofs.Ytemkogoclljhpaa.L
