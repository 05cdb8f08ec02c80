import Derived.Test.YtemkogoclljhpaaY5
namespace Go.Proofs.Ytemkogoclljhpaa
open Go Go.Proofs.Ytemkogoclljhpaa.L
set_option linter.unusedVariables false
set_option linter.unusedSimpArgs false

namespace T

end T


abbrev Tn := Int × Int
def zT : Tn := (0, -1)
def nodeAt (n : Int) : Nd := if n < 0 then zN else nodeOf n
def enOf (p : Tn) : En := (nodeAt p.2, p.1, decide (0 ≤ p.2))
def esOf (ts : List Tn) : List En := ts.map enOf
theorem esOf_len (ts : List Tn) : (esOf ts).length = ts.length := by simp [esOf]
theorem esOf_get {ts : List Tn} {i : Nat} {p : Tn} (h : ts[i]? = some p) : (esOf ts)[i]? = some (enOf p) := by simp [esOf, h]
theorem fst_get {ts : List Tn} {i : Nat} {p : Tn} (h : ts[i]? = some p) : (ts.map (·.1))[i]? = some p.1 := by simp [h]
theorem snd_get {ts : List Tn} {i : Nat} {p : Tn} (h : ts[i]? = some p) : (ts.map (·.2))[i]? = some p.2 := by simp [h]
theorem getT {ts : List Tn} {i : Nat} (h : i < ts.length) : ts[i]? = some (ts.getD i zT) := by rw [List.getD_eq_getElem?_getD, List.getElem?_eq_getElem h]; rfl
theorem enOf_z : enOf zT = zE := rfl
def hasT (ts : List Tn) (a b : Int) : Bool := ((decide (a ≥ 0) && decide (a < (ts.length : Int))) && decide ((ts.getD a.toNat zT).2 ≥ 0)) && ((ts.getD a.toNat zT).1 == b)
theorem hasT_get {ts : List Tn} {a b : Int} (h : hasT ts a b = true) : 0 ≤ a ∧ a.toNat < ts.length ∧ 0 ≤ (ts.getD a.toNat zT).2 ∧ (ts.getD a.toNat zT).1 = b := by
  unfold hasT at h
  simp only [Bool.and_eq_true, decide_eq_true_eq, beq_iff_eq] at h
  refine ⟨h.1.1.1, by omega, h.1.2, h.2⟩
theorem hasE_T (ts : List Tn) (a b : Int) : hasE (esOf ts) a b = hasT ts a b := by
  by_cases h : 0 ≤ a ∧ a.toNat < ts.length
  · rw [hasE_at h.1 (esOf_get (getT h.2))]
    unfold hasT enOf
    rw [show decide (a ≥ 0) = true by simpa using h.1, show decide (a < (ts.length : Int)) = true by simp; omega]
    simp
  · rw [hasE_neg (by rw [esOf_len]; omega)]
    unfold hasT
    rcases Int.lt_or_le a 0 with h1 | h1
    · rw [show decide (a ≥ 0) = false by simp; omega]; simp
    · rw [show decide (a < (ts.length : Int)) = false by simp; omega]; simp
def frT (ts : List Tn) : Nat := ts.findIdx fun p => !decide (0 ≤ p.2)
theorem frT_le (ts : List Tn) : frT ts ≤ ts.length := List.findIdx_le_length
theorem fr_T (ts : List Tn) : fr (esOf ts) = frT ts := by
  unfold fr frT esOf
  rw [List.findIdx_map]
  rfl
theorem frT_here {ts : List Tn} {k : Nat} {x : Tn} (hx : ts[k]? = some x) (hp : x.2 < 0) (h : ∀ y ∈ ts.take k, 0 ≤ y.2) : frT ts = k := by
  have hk := getL_len hx
  have hxk : ts[k] = x := by rw [List.getElem?_eq_getElem hk] at hx; simpa using hx
  unfold frT
  rw [List.findIdx_eq hk]
  refine ⟨by rw [hxk]; simp; omega, fun j hj => ?_⟩
  have := h (ts[j]'(by omega)) (List.mem_take_iff_getElem.2 ⟨j, by omega, rfl⟩)
  simp [this]
theorem frT_none {ts : List Tn} (h : ∀ y ∈ ts, 0 ≤ y.2) : frT ts = ts.length := List.findIdx_eq_length.2 fun y hy => by simp [h y hy]
def extT (ts : List Tn) : List Tn := if frT ts = ts.length then ts ++ [zT] else ts
theorem ext_T (ts : List Tn) : extE (esOf ts) = esOf (extT ts) := by
  unfold extE extT
  rw [fr_T, esOf_len]
  split
  · unfold esOf; rw [List.map_append]; rfl
  · rfl
theorem extT_get (ts : List Tn) : ∃ p, (extT ts)[frT ts]? = some p := by
  have := frT_le ts
  unfold extT
  split
  · rename_i h; exact ⟨zT, by rw [h, List.getElem?_append_right (Nat.le_refl _)]; simp⟩
  · exact ex_get (by omega)
def genT (ts : List Tn) : Int := ((extT ts).getD (frT ts) zT).1 + 1
def makeT (ts : List Tn) (n : Int) : List Tn := (extT ts).set (frT ts) (genT ts, n)
def putT (ts : List Tn) (x : Int × Int) (n : Int) : List Tn := if hasT ts x.1 x.2 = true then ts.set x.1.toNat ((ts.getD x.1.toNat zT).1, n) else ts
def offT (ts : List Tn) (x : Int × Int) : List Tn := ts.set x.1.toNat ((ts.getD x.1.toNat zT).1, -1)
theorem makeG_T (ts : List Tn) : makeG (esOf ts) = genT ts := by
  obtain ⟨p, hp⟩ := extT_get ts
  unfold makeG genT
  rw [ext_T, fr_T, getD_of (esOf_get hp), getD_of hp]; rfl
theorem enOf_nn {g n : Int} (h : 0 ≤ n) : enOf (g, n) = (nodeOf n, g, true) := by
  unfold enOf nodeAt
  rw [if_neg (by omega), show decide (0 ≤ n) = true by simpa using h]
theorem make_T (ts : List Tn) {n : Int} (h : 0 ≤ n) : makeE (esOf ts) (nodeOf n) = esOf (makeT ts n) := by
  unfold makeE makeT
  rw [makeG_T, fr_T, ext_T]
  unfold esOf
  rw [List.map_set, enOf_nn h]
theorem put_T (ts : List Tn) (x : Int × Int) {n : Int} (h : 0 ≤ n) : putE (esOf ts) x.1 x.2 (nodeOf n) = esOf (putT ts x n) := by
  unfold putE putT
  rw [hasE_T]
  split
  · rename_i hh
    obtain ⟨h0, hl, hn, hg⟩ := hasT_get hh
    have hg2 := getT hl
    rw [getD_of (esOf_get hg2)]
    unfold esOf
    rw [List.map_set, enOf_nn h]
    unfold enOf
    rw [show decide (0 ≤ (ts.getD x.1.toNat zT).2) = true by simpa using hn]
  · rfl
theorem off_T (ts : List Tn) (x : Int × Int) (hl : x.1.toNat < ts.length) : fstep (esOf ts) x = esOf (offT ts x) := by
  unfold fstep offT
  rw [getD_of (esOf_get (getT hl))]
  unfold esOf
  rw [List.map_set]; rfl
abbrev Hg := Int × Int × Int × Int
def gripP : PRep Hg := ⟨4, fun h => [.int .u8 h.1, .int .u8 h.2.1, .int .u8 h.2.2.1, .int .u8 h.2.2.2], fun _ => rfl, fun _ => rfl, by decide, (0, 0, 0, 0)⟩
def gripR : Rep Hg := gripP.rep
theorem gripR_elem (a b c d : Int) : ∀ v w, is (.agg #[.int .u8 a, .int .u8 b, .int .u8 c, .int .u8 d]) v w → ElemV gripR (a, b, c, d) v w := by
  rintro v w rfl
  exact .cons rfl (.cons rfl (.cons rfl (.cons rfl .nil)))
def okG (h : Hg) : Prop := (0 ≤ h.1 ∧ h.1 ≤ 255) ∧ (0 ≤ h.2.1 ∧ h.2.1 ≤ 255) ∧ (0 ≤ h.2.2.1 ∧ h.2.2.1 ≤ 255) ∧ (0 ≤ h.2.2.2 ∧ h.2.2.2 ≤ 255)
abbrev allT (told : List (Int × Int)) : List (Int × Int) := [] ++ told ++ [(3, 90), (-1, 1)]
def oneT (told : List (Int × Int)) (a : Int) : Int × Int := (allT told).getD (a.tmod ((allT told).length : Int)).toNat (0, 0)
theorem oneT_ix (told : List (Int × Int)) {a : Int} (h : 0 ≤ a) : ∃ i : Nat, a.tmod ((allT told).length : Int) = i ∧ (allT told)[i]? = some (oneT told a) := by
  have hl : (allT told).length = told.length + 2 := by simp
  have h1 := Int.emod_nonneg a (show ((allT told).length : Int) ≠ 0 by omega)
  have h2 := Int.emod_lt_of_pos a (show (0 : Int) < ((allT told).length : Int) by omega)
  rw [← Int.tmod_eq_emod_of_nonneg h] at h1 h2
  refine ⟨(a.tmod ((allT told).length : Int)).toNat, by omega, ?_⟩
  unfold oneT
  rw [List.getD_eq_getElem?_getD, List.getElem?_eq_getElem (by omega)]; rfl
def stepG (s : List Tn × List (Int × Int) × Int) (h : Hg) : List Tn × List (Int × Int) × Int :=
  if h.1 % 6 ≤ 1 then (makeT s.1 h.2.2.2, s.2.1 ++ [(((frT s.1 : Nat) : Int), genT s.1)], s.2.2)
  else if h.1 % 6 = 2 then s
  else if h.1 % 6 = 3 then (putT s.1 (oneT s.2.1 h.2.1) h.2.2.2, s.2.1, s.2.2)
  else if h.1 % 6 = 4 then (if hasT s.1 (oneT s.2.1 h.2.1).1 (oneT s.2.1 h.2.1).2 = true then (offT s.1 (oneT s.2.1 h.2.1), s.2.1, s.2.2 + 1) else s)
  else if (hasT s.1 (oneT s.2.1 h.2.1).1 (oneT s.2.1 h.2.1).2 = true ∧ hasT s.1 (oneT s.2.1 h.2.2.1).1 (oneT s.2.1 h.2.2.1).2 = true) ∧ oneT s.2.1 h.2.1 ≠ oneT s.2.1 h.2.2.1 then (offT (offT s.1 (oneT s.2.1 h.2.1)) (oneT s.2.1 h.2.2.1), s.2.1, s.2.2 + 2) else s
def runG (l : List Hg) : List Tn × List (Int × Int) × Int := l.foldl stepG ([], [], 0)
theorem runG_snoc (l : List Hg) (h : Hg) : runG (l ++ [h]) = stepG (runG l) h := by simp [runG]
structure InvT (ts : List Tn) (told : List (Int × Int)) (fd : Int) (k : Nat) : Prop where
  bd : ∀ p ∈ ts, (0 ≤ p.1 ∧ p.1 ≤ k) ∧ (-1 ≤ p.2 ∧ p.2 ≤ 255)
  len : ts.length ≤ k
  tl : told.length ≤ k
  f0 : 0 ≤ fd
  fk : fd ≤ 2 * k
theorem mem_set {ts : List Tn} {i : Nat} {z p : Tn} (h : p ∈ ts.set i z) : p ∈ ts ∨ p = z := List.mem_or_eq_of_mem_set h
theorem InvT.get {ts : List Tn} {told : List (Int × Int)} {fd : Int} {k : Nat} (v : InvT ts told fd k) {i : Nat} {p : Tn} (h : ts[i]? = some p) : (0 ≤ p.1 ∧ p.1 ≤ k) ∧ (-1 ≤ p.2 ∧ p.2 ≤ 255) := v.bd p (List.mem_of_getElem? h)
theorem getD_bd {ts : List Tn} {k : Nat} (h : ∀ p ∈ ts, (0 ≤ p.1 ∧ p.1 ≤ (k : Int)) ∧ (-1 ≤ p.2 ∧ p.2 ≤ 255)) (i : Nat) : (0 ≤ (ts.getD i zT).1 ∧ (ts.getD i zT).1 ≤ k) ∧ (-1 ≤ (ts.getD i zT).2 ∧ (ts.getD i zT).2 ≤ 255) := by
  rcases Nat.lt_or_ge i ts.length with h1 | h1
  · exact h _ (List.mem_of_getElem? (getT h1))
  · rw [List.getD_eq_getElem?_getD, List.getElem?_eq_none h1]; show (0 ≤ (0 : Int) ∧ (0 : Int) ≤ k) ∧ (-1 ≤ (-1 : Int) ∧ (-1 : Int) ≤ 255); omega
theorem InvT.ext {ts : List Tn} {told : List (Int × Int)} {fd : Int} {k : Nat} (v : InvT ts told fd k) : ∀ p ∈ extT ts, (0 ≤ p.1 ∧ p.1 ≤ (k : Int)) ∧ (-1 ≤ p.2 ∧ p.2 ≤ 255) := by
  intro p hp
  unfold extT at hp
  split at hp
  · rw [List.mem_append] at hp
    rcases hp with hp | hp
    · exact v.bd p hp
    · simp only [List.mem_singleton] at hp; subst hp; show (0 ≤ (0 : Int) ∧ (0 : Int) ≤ k) ∧ (-1 ≤ (-1 : Int) ∧ (-1 : Int) ≤ 255); omega
  · exact v.bd p hp
theorem InvT.grow {ts : List Tn} {told : List (Int × Int)} {fd : Int} {k : Nat} (v : InvT ts told fd k) {ts2 : List Tn} {fd2 : Int} (hl : ts2.length = ts.length) (hb : ∀ p ∈ ts2, (0 ≤ p.1 ∧ p.1 ≤ (k : Int)) ∧ (-1 ≤ p.2 ∧ p.2 ≤ 255)) (h0 : fd ≤ fd2) (h1 : fd2 ≤ fd + 2) : InvT ts2 told fd2 (k + 1) :=
  ⟨fun p hp => by have := hb p hp; push_cast; omega, by have := v.len; omega, by have := v.tl; omega, by have := v.f0; omega, by have := v.fk; push_cast; omega⟩
theorem InvT.off {ts : List Tn} {k : Nat} (v : ∀ p ∈ ts, (0 ≤ p.1 ∧ p.1 ≤ (k : Int)) ∧ (-1 ≤ p.2 ∧ p.2 ≤ 255)) (x : Int × Int) : ∀ p ∈ offT ts x, (0 ≤ p.1 ∧ p.1 ≤ (k : Int)) ∧ (-1 ≤ p.2 ∧ p.2 ≤ 255) := by
  intro p hp
  have hg := getD_bd v x.1.toNat
  rcases mem_set hp with h | rfl
  · exact v p h
  · exact ⟨hg.1, by show (-1 : Int) ≤ -1 ∧ (-1 : Int) ≤ 255; decide⟩
theorem InvT.step {ts : List Tn} {told : List (Int × Int)} {fd : Int} {k : Nat} (v : InvT ts told fd k) {h : Hg} (hok : okG h) {ts2 : List Tn} {told2 : List (Int × Int)} {fd2 : Int} (hs : stepG (ts, told, fd) h = (ts2, told2, fd2)) : InvT ts2 told2 fd2 (k + 1) := by
  have hsame : InvT ts told fd (k + 1) := v.grow rfl v.bd (Int.le_refl _) (by omega)
  unfold stepG at hs
  dsimp only at hs
  split at hs
  · cases hs
    refine ⟨fun p hp => ?_, ?_, by have := v.tl; simp; omega, v.f0, by have := v.fk; push_cast; omega⟩
    · unfold makeT at hp
      have hg := getD_bd v.ext (frT ts)
      rcases mem_set hp with h' | rfl
      · have := v.ext p h'; push_cast; omega
      · have hn := hok.2.2.2
        unfold genT
        push_cast
        try dsimp only
        omega
    · unfold makeT
      rw [List.length_set]
      have := v.len
      unfold extT
      split <;> simp <;> omega
  · split at hs
    · cases hs
      exact hsame
    · split at hs
      · cases hs
        unfold putT
        split
        · refine v.grow (by simp) (fun p hp => ?_) (Int.le_refl _) (by omega)
          have hg := getD_bd v.bd (oneT told h.2.1).1.toNat
          rcases mem_set hp with h' | rfl
          · exact v.bd p h'
          · have hn := hok.2.2.2
            try dsimp only
            omega
        · exact hsame
      · split at hs
        · split at hs <;> cases hs
          · exact v.grow (by unfold offT; simp) (InvT.off v.bd _) (by omega) (by omega)
          · exact hsame
        · split at hs <;> cases hs
          · exact v.grow (by unfold offT; simp) (InvT.off (InvT.off v.bd _) _) (by omega) (by omega)
          · exact hsame
theorem InvT.okEs {ts : List Tn} {told : List (Int × Int)} {fd : Int} {k : Nat} (v : InvT ts told fd k) (hk : k ≤ 900) : okEs (esOf ts) := by
  intro e he
  obtain ⟨p, hp, rfl⟩ := List.mem_map.1 he
  have := v.bd p hp
  refine ⟨?_, this.1.1, by show p.1 ≤ 1000; omega⟩
  show okN (nodeAt p.2)
  unfold nodeAt
  split
  · exact ⟨by decide, by decide, by decide⟩
  · exact nodeOf_ok _
theorem free1 (ts : List Tn) (x : Int × Int) : freeOk (esOf ts) [x] = hasT ts x.1 x.2 := by unfold freeOk; simp [hasE_T]
theorem free2 (ts : List Tn) (x y : Int × Int) : freeOk (esOf ts) [x, y] = ((hasT ts x.1 x.2 && hasT ts y.1 y.2) && decide (x ≠ y)) := by unfold freeOk; simp [hasE_T, Bool.and_assoc]
theorem usedL_at {es : List En} {j : Nat} {e : En} (he : es[j]? = some e) (hl : e.2.2 = true) : (usedL es)[(usedL (es.take j)).length]? = some ((j : Int), e.2.1) := by
  have hj := getL_len he
  have hsplit : usedL es = usedL (es.take (j + 1)) ++ ((es.drop (j + 1)).zipIdx (es.take (j + 1)).length).filterMap (fun p => if p.1.2.2 = true then some ((p.2 : Int), p.1.2.1) else none) := by
    unfold usedL
    conv => lhs; rw [← List.take_append_drop (j + 1) es]
    rw [List.zipIdx_append, List.filterMap_append, Nat.zero_add]
  rw [hsplit, take_snoc he, usedL_snoc, if_pos hl, List.append_assoc, List.getElem?_append_right (Nat.le_refl _), Nat.sub_self]
  simp
  omega

/- tidepool/tidepooltop.gripped34$1 -/
set_option maxRecDepth 100000 in
theorem F51 (c1 c2 : Nat) (vt vn : Value) (ts : List Tn) (hl : ts.length ≤ 1000) (x y : Int) : FnG Try.prog 51 [is (.agg #[.int .i64 x, .int .i64 y]), is (.pointer (some ⟨c1, 0, none⟩)), is (.pointer (some ⟨c2, 0, none⟩))] [BlkR c1 [is vt] 79, View (intR .i64) vt (ts.map (·.1)), BlkR c2 [is vn] 79, View (intR .i64) vn (ts.map (·.2))] [] (γ := Unit) (fun _ => is (.bool (hasT ts x y))) (fun _ => []) := by
  have htx : x.toNat < ts.length → (ts.map (·.1))[x.toNat]? = some (ts.getD x.toNat zT).1 := fun h => fst_get (getT h)
  have hnx : x.toNat < ts.length → (ts.map (·.2))[x.toNat]? = some (ts.getD x.toNat zT).2 := fun h => snd_get (getT h)
  refine FnG.mk' Try.func51 T.nm51 rfl (N := 33) rfl rfl (t := 6) rfl fun B => ?_
  refine Tr.seq ?_
  refine Tr.region ?_
  refine TrL.stepS 3 (.plain rfl (.boxR rfl (.of rfl))) rfl rfl ?_
  refine TrL.stepS 4 (.plain rfl (.assign rfl (.of rfl))) rfl rfl ?_
  refine TrL.nil ?_
  refine Fin.keepG (Γ' := [(1, _), (2, _), (3, _)]) (.same rfl (.same rfl (.same rfl .nil))) ?_
  refine Fin.next ?_
  refine Tr.seq ?_
  refine Tr.regionK T.mixed (by kernel_rfl) (by kernel_rfl) ?_
  refine ChainK.consS 5 (.plain rfl (.fieldC rfl (.of rfl) T.fl75_0)) rfl ?_
  refine ChainK.consS 6 (.plain rfl (.load1 rfl (.of rfl) T.sc3)) rfl ?_
  refine ChainK.consS 7 (.plain rfl (.geq rfl (.of rfl) (.of rfl))) rfl ?_
  refine ChainK.consS 8 (.plain rfl (.move rfl (.of rfl))) rfl ?_
  refine ChainK.consS 9 (.guarded rfl rfl rfl fun hg => .fieldC rfl (.of rfl) T.fl75_0) rfl ?_
  refine ChainK.consS 10 (.guarded rfl rfl rfl fun hg => .load1 rfl (.cond rfl hg) T.sc3) rfl ?_
  refine ChainK.consS 11 (.guarded rfl rfl rfl fun hg => .loadR 2 rfl (.of rfl) rfl rfl rfl T.sc79) rfl ?_
  refine ChainK.consS 12 (.guarded rfl rfl rfl fun hg => .lenV 3 rfl (.cond rfl hg) rfl View.refl rfl Try.underlying79) rfl ?_
  refine ChainK.consS 13 (.guarded rfl rfl rfl fun hg => .lss rfl (.cond rfl hg) (.cond rfl hg)) rfl ?_
  refine ChainK.consS 14 (.plain rfl (.and rfl (.of rfl) (.cond rfl fun h => h))) rfl ?_
  refine ChainK.consS 15 (.plain rfl (.move rfl (.of rfl))) rfl ?_
  refine ChainK.consS 16 (.guarded rfl rfl rfl fun hg => .loadR 4 rfl (.of rfl) rfl rfl rfl T.sc79) rfl ?_
  refine ChainK.consS 17 (.guarded rfl rfl rfl fun hg => .fieldC rfl (.of rfl) T.fl75_0) rfl ?_
  refine ChainK.consS 18 (.guarded rfl rfl rfl fun hg => .load1 rfl (.cond rfl hg) T.sc3) rfl ?_
  refine ChainK.consS 19 (.guarded rfl rfl rfl fun hg => .indexN 5 (x.toNat) rfl (.cond rfl hg) (.cond rfl hg) rfl View.refl rfl Try.underlying79 T.sz3 (by have h := hg; simp at h; omega) (hnx (by have h := hg; simp at h; omega))) rfl ?_
  refine ChainK.consS 20 (.guarded rfl rfl rfl fun hg => .loadW 5 (x.toNat) 0 rfl (.cond rfl hg) rfl View.refl rfl (hnx (by have h := hg; simp at h; omega)) rfl T.sc3) rfl ?_
  refine ChainK.consS 21 (.guarded rfl rfl rfl fun hg => .geq rfl (.cond rfl hg) (.of rfl)) rfl ?_
  refine ChainK.consS 22 (.plain rfl (.and rfl (.of rfl) (.cond rfl fun h => h))) rfl ?_
  refine ChainK.consS 23 (.plain rfl (.move rfl (.of rfl))) rfl ?_
  refine ChainK.consS 24 (.guarded rfl rfl rfl fun hg => .loadR 2 rfl (.of rfl) rfl rfl rfl T.sc79) rfl ?_
  refine ChainK.consS 25 (.guarded rfl rfl rfl fun hg => .fieldC rfl (.of rfl) T.fl75_0) rfl ?_
  refine ChainK.consS 26 (.guarded rfl rfl rfl fun hg => .load1 rfl (.cond rfl hg) T.sc3) rfl ?_
  refine ChainK.consS 27 (.guarded rfl rfl rfl fun hg => .indexN 3 (x.toNat) rfl (.cond rfl hg) (.cond rfl hg) rfl View.refl rfl Try.underlying79 T.sz3 (by have h := hg; simp at h; omega) (htx (by have h := hg; simp at h; omega))) rfl ?_
  refine ChainK.consS 28 (.guarded rfl rfl rfl fun hg => .loadW 3 (x.toNat) 0 rfl (.cond rfl hg) rfl View.refl rfl (htx (by have h := hg; simp at h; omega)) rfl T.sc3) rfl ?_
  refine ChainK.consS 29 (.guarded rfl rfl rfl fun hg => .fieldC rfl (.of rfl) T.fl75_1) rfl ?_
  refine ChainK.consS 30 (.guarded rfl rfl rfl fun hg => .load1 rfl (.cond rfl hg) T.sc3) rfl ?_
  refine ChainK.consS 31 (.guarded rfl rfl rfl fun hg => .eql rfl (.cond rfl hg) (.cond rfl hg)) rfl ?_
  refine ChainK.consS 32 (.plain rfl (.and rfl (.of rfl) (.cond rfl fun h => h))) rfl ?_
  refine ChainK.consS 4 (.plain rfl (.assign rfl (.of rfl))) rfl ?_
  refine ChainK.nil ?_
  refine Fin.keepG (Γ' := [(4, _)]) (.same rfl .nil) ?_
  refine Fin.next ?_
  refine Tr.ret ?_
  refine Fin.retGI 6 rfl (()) [] (rs := [_]) rfl (.cons (.tmp rfl) .nil) (.cons (L.iv ?_) .nil) rfl (.nil) rfl
  · unfold hasT; rw [List.length_map]

end Go.Proofs.Ytemkogoclljhpaa