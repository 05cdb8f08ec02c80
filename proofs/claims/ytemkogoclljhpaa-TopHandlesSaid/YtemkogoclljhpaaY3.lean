import Derived.Test.YtemkogoclljhpaaY2
namespace Go.Proofs.Ytemkogoclljhpaa
open Go Go.Proofs.Ytemkogoclljhpaa.L
set_option linter.unusedVariables false
set_option linter.unusedSimpArgs false

namespace T
theorem Y3bd183_1 (c1 : Option Nat) : Try.prog.built 183 [(1, .map c1)] = some #[.slice none 0 0, .map c1] := by kernel_rfl
end T


abbrev En := Nd × Int × Bool
def zE : En := (zN, 0, false)
def placeR : Rep En := ⟨5, fun e => [is (.bool e.1.1), Lst strR e.1.2.1, Lst handR e.1.2.2.1, Lst (intR .i64) e.1.2.2.2, is (.int .i64 e.2.1)], fun _ => rfl, fun e w cs h => List.all_eq_true.1 (all1_cons (h1is rfl rfl) (all1_cons h1lst (all1_cons h1lst (all1_cons h1lst (all1_cons (h1is rfl rfl) all1_nil)))) w cs h), by decide, zE⟩
theorem zE_elem : ∀ v w, is (.agg #[.bool false, .slice none 0 0, .slice none 0 0, .slice none 0 0, .int .i64 0]) v w → ElemV placeR zE v w := by
  rintro v w rfl
  exact .cons rfl (.cons (lst_nil' rfl) (.cons (lst_nil' rfl) (.cons (lst_nil' rfl) (.cons rfl .nil))))
def unitR : Unit → VP := fun _ => is (.agg #[])
theorem lookU {o : Option Unit} : ∀ v w, lookR unitR (.agg #[]) o v w → is (.agg #[]) v w := by cases o <;> exact fun _ _ h => h
/-- the map of the free places -/
def FreeM (m : List (Int × Unit)) (es : List En) : Prop := (m.map (·.1)).Nodup ∧ ∀ a : Int, (mapGet m a).isSome = true ↔ ∃ (i : Nat) (e : En), a = i ∧ es[i]? = some e ∧ e.2.2 = false
theorem FreeM.at {m : List (Int × Unit)} {es : List En} (h : FreeM m es) {a : Int} {e : En} (h0 : 0 ≤ a) (he : es[a.toNat]? = some e) : (mapGet m a).isSome = !e.2.2 := by
  rw [Bool.eq_iff_iff, h.2 a]
  constructor
  · rintro ⟨i, f, rfl, hf, hl⟩
    rw [Int.toNat_natCast, hf] at he
    cases he; simp [hl]
  · intro hl
    exact ⟨a.toNat, e, by omega, he, by simpa using hl⟩
theorem FreeM.nat {m : List (Int × Unit)} {es : List En} (h : FreeM m es) {i : Nat} {e : En} (he : es[i]? = some e) : (mapGet m (i : Int)).isSome = !e.2.2 := h.at (Int.natCast_nonneg _) (by rwa [Int.toNat_natCast])
def fr (es : List En) : Nat := es.findIdx fun e => !e.2.2
theorem fr_le (es : List En) : fr es ≤ es.length := List.findIdx_le_length
theorem fr_here {es : List En} {k : Nat} {x : En} (hx : es[k]? = some x) (hp : x.2.2 = false) (h : ∀ y ∈ es.take k, y.2.2 = true) : fr es = k := by
  have hk := getL_len hx
  have hxk : es[k] = x := by rw [List.getElem?_eq_getElem hk] at hx; simpa using hx
  unfold fr
  rw [List.findIdx_eq hk]
  refine ⟨by rw [hxk, hp]; rfl, fun j hj => ?_⟩
  have := h (es[j]'(by omega)) (List.mem_take_iff_getElem.2 ⟨j, by omega, rfl⟩)
  simp [this]
theorem fr_none {es : List En} (h : ∀ y ∈ es, y.2.2 = true) : fr es = es.length := List.findIdx_eq_length.2 fun y hy => by simp [h y hy]
theorem fr_get {es : List En} (h : fr es < es.length) : ∃ e, es[fr es]? = some e ∧ e.2.2 = false := ⟨_, List.getElem?_eq_getElem h, by
  have h2 := List.findIdx_getElem (p := fun e : En => !e.2.2) (xs := es) (w := h)
  change (!(es[fr es]'h).2.2) = true at h2
  rw [Bool.not_eq_true'] at h2; exact h2⟩
def hasE (es : List En) (a b : Int) : Bool := decide (0 ≤ a) && (match es[a.toNat]? with | some e => e.2.2 && (e.2.1 == b) | none => false)
theorem hasE_neg {es : List En} {a b : Int} (h : a < 0 ∨ (es.length : Int) ≤ a) : hasE es a b = false := by
  unfold hasE
  rcases Int.lt_or_le a 0 with h0 | h0
  · simp [show ¬ 0 ≤ a by omega]
  · rw [List.getElem?_eq_none (by omega)]; simp
theorem hasE_at {es : List En} {a b : Int} {e : En} (h0 : 0 ≤ a) (he : es[a.toNat]? = some e) : hasE es a b = (e.2.2 && (e.2.1 == b)) := by
  unfold hasE; rw [he]; simp [h0]
theorem hasE_get {es : List En} {a b : Int} (h : hasE es a b = true) : 0 ≤ a ∧ ∃ e, es[a.toNat]? = some e ∧ e.2.2 = true ∧ e.2.1 = b := by
  unfold hasE at h
  rw [Bool.and_eq_true] at h
  refine ⟨by simpa using h.1, ?_⟩
  cases he : es[a.toNat]? with
  | none => rw [he] at h; simp at h
  | some e => rw [he] at h; exact ⟨e, rfl, by simpa using h.2⟩
def getE (es : List En) (a b : Int) : Nd := if hasE es a b = true then (es.getD a.toNat zE).1 else zN
def errE (es : List En) (a b : Int) : Int := if hasE es a b = true then 0 else 110
def putE (es : List En) (a b : Int) (x : Nd) : List En := if hasE es a b = true then es.set a.toNat (x, (es.getD a.toNat zE).2) else es
def usedL (es : List En) : List (Int × Int) := es.zipIdx.filterMap fun p => if p.1.2.2 = true then some ((p.2 : Int), p.1.2.1) else none
theorem usedL_snoc (es : List En) (e : En) : usedL (es ++ [e]) = usedL es ++ (if e.2.2 = true then [((es.length : Int), e.2.1)] else []) := by
  unfold usedL
  rw [List.zipIdx_append, List.filterMap_append]
  congr 1
  simp only [List.zipIdx_cons, List.zipIdx_nil, Nat.zero_add, List.filterMap_cons, List.filterMap_nil]
  by_cases h : e.2.2 = true
  · rw [if_pos h, if_pos h]
  · rw [if_neg h, if_neg h]
def okEs (es : List En) : Prop := ∀ e ∈ es, okN e.1 ∧ 0 ≤ e.2.1 ∧ e.2.1 ≤ 1000
theorem usedL_len (es : List En) : (usedL es).length ≤ es.length := by
  unfold usedL
  exact Nat.le_trans (List.length_filterMap_le _ _) (by rw [List.length_zipIdx]; exact Nat.le_refl _)

/- tidepool/arena.New -/
set_option maxRecDepth 100000 in
theorem F43  : FnG Try.prog 43 [] [] [] (γ := Nat × Nat) (fun g => is (.pointer (some ⟨g.1, 0, none⟩))) (fun g => [BlkR g.1 [is (.slice none 0 0), is (.map (some g.2))] 183, Own placeR 185 (.slice none 0 0) [], MapR (intK .i64) unitR g.2 []]) := by
  refine FnG.mk' Try.func43 T.nm43 rfl (N := 4) rfl rfl (t := 2) rfl fun B => ?_
  refine Tr.seq ?_
  refine Tr.region ?_
  refine TrL.stepS 0 (.plain rfl (.assign rfl (.of rfl))) rfl rfl ?_
  refine TrL.nil ?_
  refine Fin.keepG (Γ' := []) .nil ?_
  refine Fin.next ?_
  refine Tr.seq ?_
  refine Tr.region ?_
  refine TrL.makeMap 20 (intK .i64) unitR rfl rfl 1 rfl rfl rfl fun r20 => ?_
  refine TrL.stepS 2 (.plain rfl (.build rfl (.cons (.of rfl) .nil) (T.Y3bd183_1 _))) rfl rfl ?_
  refine TrL.boxW 21 (cs := [_, _]) rfl rfl (.of rfl) 3 rfl rfl rfl fun b21 => ?_
  refine TrL.stepS 0 (.plain rfl (.assign rfl (.of rfl))) rfl rfl ?_
  refine TrL.nil ?_
  refine Fin.keepG (Γ' := [(0, _)]) (.same rfl .nil) ?_
  refine Fin.next ?_
  refine Tr.ret ?_
  refine Fin.own0 30 placeR 185 rfl ?_
  exact Fin.retGI 2 rfl ((b21, r20)) [21, 30, 20] (rs := [_]) rfl (.cons (.tmp rfl) .nil) (.cons (L.iv rfl) .nil) rfl (.cons rfl L.Blk.toR (.same rfl (.same rfl .nil))) rfl

/- (*tidepool/arena.Arena).least -/
set_option maxRecDepth 100000 in
theorem F118 (b : Nat) (v : Value) (mr : Nat) (m : List (Int × Unit)) (es : List En) (hF : FreeM m es) (hok : okEs es) (hl : es.length ≤ 1000) : FnG Try.prog 118 [is (.pointer (some ⟨b, 0, none⟩))] [BlkR b [is v, is (.map (some mr))] 183, Own placeR 185 v es, MapR (intK .i64) unitR mr m] [] (γ := Unit) (fun _ => is (.int .i64 (fr es : Nat))) (fun _ => []) := by
  refine FnG.mk' Try.func118 T.nm118 rfl (N := 31) rfl rfl (t := 5) rfl fun B => ?_
  refine Tr.seq ?_
  refine Tr.region ?_
  refine TrL.stepS 2 (.plain rfl (.assign rfl (.of rfl))) rfl rfl ?_
  refine TrL.nil ?_
  refine Fin.keepG (Γ' := [(0, _)]) (.same rfl .nil) ?_
  refine Fin.next ?_
  refine Tr.seq ?_
  refine Tr.seq ?_
  refine Tr.region ?_
  refine TrL.stepS 6 (.plain rfl (.move rfl (.of rfl))) rfl rfl ?_
  refine TrL.stepS 7 (.plain rfl (.nilCheckP rfl (.of rfl))) rfl rfl ?_
  refine TrL.stepS 8 (.plain rfl (.fieldP rfl (.of rfl) T.fl183_0)) rfl rfl ?_
  refine TrL.stepS 9 (.plain rfl (.loadR 2 rfl (.of rfl) rfl rfl rfl T.sc181)) rfl rfl ?_
  refine TrL.stepS 10 (.plain rfl (.lenV 3 rfl (.of rfl) rfl Own.view rfl Try.underlying181)) rfl rfl ?_
  refine TrL.stepS 11 (.plain rfl (.move rfl (.of rfl))) rfl rfl ?_
  refine TrL.nil ?_
  refine Fin.keepG (Γ' := [(0, _), (10, _), (11, _)]) (.same rfl (.same rfl (.same rfl .nil))) ?_
  refine Fin.next ?_
  refine Tr.block ?_
  refine Tr.loopK (γ := Nat) (Γk := [(0, _), (10, _)]) (Mk := [(2, _), (3, _), (4, _)]) (.same rfl (.same rfl .nil)) (.same rfl (.same rfl (.same rfl .nil))) (fun i => i ≤ es.length ∧ ∀ y ∈ es.take i, y.2.2 = true) (fun i => fun r => r) (fun i => fun r => (11, is (.int .i64 i)) :: r) (fun i => es.length - i) (0) ?h0_0 ?hM_0 ?hG_0 ?hl_0
  case h0_0 => exact ⟨Nat.zero_le _, by simp⟩
  case hM_0 => exact (.same rfl (.same rfl (.same rfl .nil)))
  case hG_0 => exact (.eq rfl (by first | rfl | (congr 1; first | done | omega | (push_cast; omega) | (push_cast; rfl))) (.same rfl (.same rfl .nil)))
  case hl_0 =>
    intro i hI
    refine Tr.seq ?_
    refine Tr.region ?_
    refine TrL.stepS 12 (.plain rfl (.lss rfl (.of rfl) (.of rfl))) rfl rfl ?_
    refine TrL.nil ?_
    refine Fin.next ?_
    refine Tr.seq ?_
    refine Tr.cond rfl (fun hb0 => ?_) (fun hb0 => ?_)
    · try simp only [decide_eq_true_eq, decide_eq_false_iff_not, beq_iff_eq, beq_eq_false_iff_ne, bne_iff_ne, bne_eq_false_iff_eq, Bool.and_eq_true, Bool.and_eq_false_iff, Bool.or_eq_true, Bool.or_eq_false_iff, Bool.not_eq_true', Bool.not_eq_false', gt_iff_lt, ge_iff_le, Int.not_lt, Int.not_le, ne_eq, Int.natCast_nonneg, true_and, and_true, Decidable.not_not, not_true_eq_false, not_false_eq_true] at hb0
      obtain ⟨e, he⟩ := ex_get (xs := es) (i := i) (by omega)
      have hlk := hF.nat he
      refine Tr.skip ?_
      refine Fin.next ?_
      refine Tr.seq ?_
      refine Tr.block ?_
      refine Tr.seq ?_
      refine Tr.region ?_
      refine TrL.stepS 13 (.plain rfl (.move rfl (.of rfl))) rfl rfl ?_
      refine TrL.stepS 3 (.plain rfl (.assign rfl (.of rfl))) rfl rfl ?_
      refine TrL.nil ?_
      refine Fin.keepG (Γ' := [(0, _), (3, _), (10, _), (11, _)]) (.same rfl (.same rfl (.same rfl (.same rfl .nil)))) ?_
      refine Fin.next ?_
      refine Tr.seq ?_
      refine Tr.region ?_
      refine TrL.stepS 15 (.plain rfl (.move rfl (.of rfl))) rfl rfl ?_
      refine TrL.stepS 16 (.plain rfl (.nilCheckP rfl (.of rfl))) rfl rfl ?_
      refine TrL.stepS 17 (.plain rfl (.fieldP rfl (.of rfl) T.fl183_1)) rfl rfl ?_
      refine TrL.stepS 18 (.plain rfl (.loadR 2 rfl (.of rfl) rfl rfl rfl T.sc180)) rfl rfl ?_
      refine TrL.stepS 19 (.plain rfl (.move rfl (.of rfl))) rfl rfl ?_
      refine TrL.stepS 20 (.plain rfl (.lookupM 4 rfl (.of rfl) (.of rfl) rfl rfl Try.underlying180 Try.underlying3 rfl)) rfl rfl ?_
      refine TrL.stepS 14 (.plain rfl (.move rfl (.of rfl))) rfl rfl ?_
      refine TrL.stepS 21 (.plain rfl ((OpM.extract rfl (.of rfl) rfl).weaken lookU)) rfl rfl ?_
      refine TrL.stepS 22 (.plain rfl (.extract rfl (.of rfl) rfl)) rfl rfl ?_
      refine TrL.allocS 20 (zs := []) rfl rfl (by kernel_rfl) 4 rfl rfl rfl fun b20 => ?_
      refine TrL.storeW 20 (vs := []) rfl rfl rfl (.of rfl) (.of rfl) rfl rfl T.sz189 rfl rfl ?_
      refine TrL.stepS 5 (.plain rfl (.assign rfl (.of rfl))) rfl rfl ?_
      refine TrL.nil ?_
      refine Fin.keepG (Γ' := [(0, _), (3, _), (5, _), (10, _), (11, _)]) (.same rfl (.same rfl (.same rfl (.same rfl (.same rfl .nil))))) ?_
      refine Fin.next ?_
      refine Tr.seq ?_
      refine Tr.region ?_
      refine TrL.stepS 23 (.plain rfl (.move rfl (.of rfl))) rfl rfl ?_
      refine TrL.nil ?_
      refine Fin.keepG (Γ' := [(0, _), (3, _), (10, _), (11, _), (23, _)]) (.same rfl (.same rfl (.same rfl (.same rfl (.same rfl .nil))))) ?_
      refine Fin.next ?_
      refine Tr.cond rfl (fun hb1 => ?_) (fun hb1 => ?_)
      · try simp only [decide_eq_true_eq, decide_eq_false_iff_not, beq_iff_eq, beq_eq_false_iff_ne, bne_iff_ne, bne_eq_false_iff_eq, Bool.and_eq_true, Bool.and_eq_false_iff, Bool.or_eq_true, Bool.or_eq_false_iff, Bool.not_eq_true', Bool.not_eq_false', gt_iff_lt, ge_iff_le, Int.not_lt, Int.not_le, ne_eq, Int.natCast_nonneg, true_and, and_true, Decidable.not_not, not_true_eq_false, not_false_eq_true] at hb1
        have hfr := fr_here he (by rw [hlk] at hb1; simpa using hb1) hI.2
        refine Tr.seq ?_
        refine Tr.region ?_
        refine TrL.stepS 24 (.plain rfl (.move rfl (.of rfl))) rfl rfl ?_
        refine TrL.stepS 2 (.plain rfl (.assign rfl (.of rfl))) rfl rfl ?_
        refine TrL.nil ?_
        refine Fin.keepG (Γ' := [(2, _)]) (.same rfl .nil) ?_
        refine Fin.next ?_
        refine Tr.ret ?_
        refine Fin.blockRet ?_
        refine Fin.thenRet ?_
        refine Fin.thenRet ?_
        refine Fin.blockRet ?_
        refine Fin.thenRet ?_
        refine Fin.retGI 5 rfl (()) [] (rs := [_]) rfl (.cons (.tmp rfl) .nil) (.cons (L.iv ?_) .nil) rfl (.nil) rfl
        · rw [hfr]
      · try simp only [decide_eq_true_eq, decide_eq_false_iff_not, beq_iff_eq, beq_eq_false_iff_ne, bne_iff_ne, bne_eq_false_iff_eq, Bool.and_eq_true, Bool.and_eq_false_iff, Bool.or_eq_true, Bool.or_eq_false_iff, Bool.not_eq_true', Bool.not_eq_false', gt_iff_lt, ge_iff_le, Int.not_lt, Int.not_le, ne_eq, Int.natCast_nonneg, true_and, and_true, Decidable.not_not, not_true_eq_false, not_false_eq_true] at hb1
        refine Tr.skip ?_
        refine Fin.blockNormal ?_
        refine Fin.next ?_
        refine Tr.region ?_
        first | refine TrL.stepS 25 (.plain rfl (.addI L.bd_i64 rfl (.of rfl) (.of rfl) (by omega) (by omega))) rfl rfl ?_ | refine TrL.stepS 25 (.plain rfl (.add rfl (.of rfl) (.of rfl))) rfl rfl ?_
        refine TrL.stepS 11 (.plain rfl (.move rfl (.of rfl))) rfl rfl ?_
        refine TrL.nil ?_
        refine Fin.keepG (Γ' := [(0, _), (10, _), (11, _)]) (.same rfl (.same rfl (.same rfl .nil))) ?_
        exact Fin.again (i + 1) (⟨by omega, fun y hy => by rw [take_snoc he, List.mem_append] at hy; rcases hy with hy | hy; exact hI.2 y hy; simp only [List.mem_singleton] at hy; subst hy; rw [hlk] at hb1; simpa using hb1⟩) (by omega) (.same rfl (.same rfl (.same rfl .nil))) (.eq rfl (by first | rfl | (congr 1; first | done | omega | (push_cast; omega) | (push_cast; rfl))) (.same rfl (.same rfl .nil)))
    · try simp only [decide_eq_true_eq, decide_eq_false_iff_not, beq_iff_eq, beq_eq_false_iff_ne, bne_iff_ne, bne_eq_false_iff_eq, Bool.and_eq_true, Bool.and_eq_false_iff, Bool.or_eq_true, Bool.or_eq_false_iff, Bool.not_eq_true', Bool.not_eq_false', gt_iff_lt, ge_iff_le, Int.not_lt, Int.not_le, ne_eq, Int.natCast_nonneg, true_and, and_true, Decidable.not_not, not_true_eq_false, not_false_eq_true] at hb0
      have hfr := fr_none (es := es) (fun y hy => hI.2 y (by rw [List.take_of_length_le (by omega)]; exact hy))
      refine Tr.exit ?_
      refine Fin.thenExit ?_
      refine Fin.thenExit ?_
      refine Fin.blockOut ?_
      refine Fin.next ?_
      refine Tr.seq ?_
      refine Tr.region ?_
      refine TrL.stepS 26 (.plain rfl (.move rfl (.of rfl))) rfl rfl ?_
      refine TrL.stepS 27 (.plain rfl (.nilCheckP rfl (.of rfl))) rfl rfl ?_
      refine TrL.stepS 28 (.plain rfl (.fieldP rfl (.of rfl) T.fl183_0)) rfl rfl ?_
      refine TrL.stepS 29 (.plain rfl (.loadR 2 rfl (.of rfl) rfl rfl rfl T.sc181)) rfl rfl ?_
      refine TrL.stepS 30 (.plain rfl (.lenV 3 rfl (.of rfl) rfl Own.view rfl Try.underlying181)) rfl rfl ?_
      refine TrL.stepS 2 (.plain rfl (.assign rfl (.of rfl))) rfl rfl ?_
      refine TrL.nil ?_
      refine Fin.keepG (Γ' := [(2, _)]) (.same rfl .nil) ?_
      refine Fin.next ?_
      refine Tr.ret ?_
      refine Fin.retGI 5 rfl (()) [] (rs := [_]) rfl (.cons (.tmp rfl) .nil) (.cons (L.iv ?_) .nil) rfl (.nil) rfl
      · rw [hfr]

/- (*tidepool/arena.Arena).Has -/
set_option maxRecDepth 100000 in
theorem F48 (b : Nat) (v : Value) (mr : Nat) (m : List (Int × Unit)) (es : List En) (hF : FreeM m es) (hok : okEs es) (hl : es.length ≤ 1000) (x y : Int) : FnG Try.prog 48 [is (.pointer (some ⟨b, 0, none⟩)), is (.agg #[.int .i64 x, .int .i64 y])] [BlkR b [is v, is (.map (some mr))] 183, Own placeR 185 v es, MapR (intK .i64) unitR mr m] [] (γ := Unit) (fun _ => is (.bool (hasE es x y))) (fun _ => []) := by
  refine FnG.mk' Try.func48 T.nm48 rfl (N := 50) rfl rfl (t := 5) rfl fun B => ?_
  refine Tr.seq ?_
  refine Tr.region ?_
  refine TrL.stepS 3 (.plain rfl (.boxR rfl (.of rfl))) rfl rfl ?_
  refine TrL.stepS 4 (.plain rfl (.assign rfl (.of rfl))) rfl rfl ?_
  refine TrL.nil ?_
  refine Fin.keepG (Γ' := [(0, _), (3, _)]) (.same rfl (.same rfl .nil)) ?_
  refine Fin.next ?_
  refine Tr.seq ?_
  refine Tr.seq ?_
  refine Tr.regionK T.mixed (by kernel_rfl) (by kernel_rfl) ?_
  refine ChainK.consS 7 (.plain rfl (.move rfl (.of rfl))) rfl ?_
  refine ChainK.consS 8 (.plain rfl (.eqlPN rfl (.of rfl) (.of rfl) Try.underlying72)) rfl ?_
  refine ChainK.consS 9 (.plain rfl (.move rfl (.of rfl))) rfl ?_
  refine ChainK.consS 10 (.guarded rfl rfl rfl fun hg => .fieldC rfl (.of rfl) T.fl75_0) rfl ?_
  refine ChainK.consS 11 (.guarded rfl rfl rfl fun hg => .load1 rfl (.cond rfl hg) T.sc3) rfl ?_
  refine ChainK.consS 12 (.guarded rfl rfl rfl fun hg => .lss rfl (.cond rfl hg) (.of rfl)) rfl ?_
  refine ChainK.consS 13 (.plain rfl (.or rfl (.of rfl) (.cond rfl fun h => h))) rfl ?_
  refine ChainK.consS 14 (.plain rfl (.move rfl (.of rfl))) rfl ?_
  refine ChainK.consS 15 (.guarded rfl rfl rfl fun hg => .fieldC rfl (.of rfl) T.fl75_0) rfl ?_
  refine ChainK.consS 16 (.guarded rfl rfl rfl fun hg => .load1 rfl (.cond rfl hg) T.sc3) rfl ?_
  refine ChainK.consS 17 (.guarded rfl rfl rfl fun hg => .move rfl (.of rfl)) rfl ?_
  refine ChainK.consS 18 (.guarded rfl rfl rfl fun hg => .nilCheckP rfl (.cond rfl hg)) rfl ?_
  refine ChainK.consS 19 (.guarded rfl rfl rfl fun hg => .fieldP rfl (.cond rfl hg) T.fl183_0) rfl ?_
  refine ChainK.consS 20 (.guarded rfl rfl rfl fun hg => .loadR 2 rfl (.cond rfl hg) rfl rfl rfl T.sc181) rfl ?_
  refine ChainK.consS 21 (.guarded rfl rfl rfl fun hg => .lenV 3 rfl (.cond rfl hg) rfl Own.view rfl Try.underlying181) rfl ?_
  refine ChainK.consS 22 (.guarded rfl rfl rfl fun hg => .geq rfl (.cond rfl hg) (.cond rfl hg)) rfl ?_
  refine ChainK.consS 23 (.plain rfl (.or rfl (.of rfl) (.cond rfl fun h => h))) rfl ?_
  refine ChainK.nil ?_
  refine Fin.keepG (Γ' := [(0, _), (3, _), (23, _)]) (.same rfl (.same rfl (.same rfl .nil))) ?_
  refine Fin.next ?_
  refine Tr.cond rfl (fun hb0 => ?_) (fun hb0 => ?_)
  · try simp only [decide_eq_true_eq, decide_eq_false_iff_not, beq_iff_eq, beq_eq_false_iff_ne, bne_iff_ne, bne_eq_false_iff_eq, Bool.and_eq_true, Bool.and_eq_false_iff, Bool.or_eq_true, Bool.or_eq_false_iff, Bool.not_eq_true', Bool.not_eq_false', gt_iff_lt, ge_iff_le, Int.not_lt, Int.not_le, ne_eq, Int.natCast_nonneg, true_and, and_true, Decidable.not_not, not_true_eq_false, not_false_eq_true] at hb0
    refine Tr.seq ?_
    refine Tr.region ?_
    refine TrL.stepS 4 (.plain rfl (.assign rfl (.of rfl))) rfl rfl ?_
    refine TrL.nil ?_
    refine Fin.keepG (Γ' := [(4, _)]) (.same rfl .nil) ?_
    refine Fin.next ?_
    refine Tr.ret ?_
    refine Fin.thenRet ?_
    refine Fin.retGI 5 rfl (()) [] (rs := [_]) rfl (.cons (.tmp rfl) .nil) (.cons (L.iv ?_) .nil) rfl (.nil) rfl
    · rw [hasE_neg (by rcases hb0 with (h | h) | h; cases h; exact .inl h; exact .inr h)]
  · try simp only [decide_eq_true_eq, decide_eq_false_iff_not, beq_iff_eq, beq_eq_false_iff_ne, bne_iff_ne, bne_eq_false_iff_eq, Bool.and_eq_true, Bool.and_eq_false_iff, Bool.or_eq_true, Bool.or_eq_false_iff, Bool.not_eq_true', Bool.not_eq_false', gt_iff_lt, ge_iff_le, Int.not_lt, Int.not_le, ne_eq, Int.natCast_nonneg, true_and, and_true, Decidable.not_not, not_true_eq_false, not_false_eq_true] at hb0
    have hx0 : 0 ≤ x := by omega
    obtain ⟨e, he⟩ := ex_get (xs := es) (i := x.toNat) (by omega)
    have hlk := hF.at hx0 he
    have hhe := hasE_at (b := y) hx0 he
    refine Tr.skip ?_
    refine Fin.next ?_
    refine Tr.seq ?_
    refine Tr.regionW [([], [], []), ([2], [], []), ([2], [], []), ([2], [], []), ([], [], []), ([], [], []), ([4], [], []), ([], [], []), ([], [], []), ([], [], []), ([], [20], [5]), ([20], [20], [5]), ([], [], [])] T.mixed (by kernel_rfl) (by kernel_rfl) (by kernel_rfl) (by kernel_rfl) ?_
    refine AChain.rd 25 rfl (fun σ => .plain rfl (.move rfl (.of rfl))) rfl rfl (fun _ _ => rfl) (L.Dep.const) ?_
    refine AChain.rd 26 rfl (fun σ => .plain rfl (.nilCheckP rfl (.of rfl))) rfl rfl (fun _ _ => rfl) (L.Dep.const) ?_
    refine AChain.rd 27 rfl (fun σ => .plain rfl (.fieldP rfl (.of rfl) T.fl183_1)) rfl rfl (fun _ _ => rfl) (L.Dep.const) ?_
    refine AChain.rd 28 rfl (fun σ => .plain rfl (.loadR 2 rfl (.of rfl) rfl rfl rfl T.sc180)) rfl rfl (fun _ _ => rfl) (L.Dep.const) ?_
    refine AChain.rd 29 rfl (fun σ => .plain rfl (.fieldC rfl (.of rfl) T.fl75_0)) rfl rfl (fun _ _ => rfl) (L.Dep.const) ?_
    refine AChain.rd 30 rfl (fun σ => .plain rfl (.load1 rfl (.of rfl) T.sc3)) rfl rfl (fun _ _ => rfl) (L.Dep.const) ?_
    refine AChain.rd 31 rfl (fun σ => .plain rfl (.lookupM 4 rfl (.of rfl) (.of rfl) rfl rfl Try.underlying180 Try.underlying3 rfl)) rfl rfl (fun _ _ => rfl) (L.Dep.const) ?_
    refine AChain.rd 24 rfl (fun σ => .plain rfl (.move rfl (.of rfl))) rfl rfl (fun _ _ => rfl) (L.Dep.const) ?_
    refine AChain.rd 32 rfl (fun σ => .plain rfl ((OpM.extract rfl (.of rfl) rfl).weaken lookU)) rfl rfl (fun _ _ => rfl) (L.Dep.const) ?_
    refine AChain.rd 33 rfl (fun σ => .plain rfl (.extract rfl (.of rfl) rfl)) rfl rfl (fun _ _ => rfl) (L.Dep.const) ?_
    refine AChain.allocD 20 5 (zs := []) rfl rfl rfl rfl rfl rfl (by kernel_rfl) (L.depS (by decide)) (L.depP (by decide)) ?_
    refine AChain.storeDA (vs := []) 20 5 rfl rfl rfl rfl rfl (fun σ _ => (.of rfl)) (fun σ _ => (.of rfl)) rfl (fun σ => rfl) T.sz189 rfl (L.depP (by decide)) ?_
    refine AChain.rd 6 rfl (fun σ => .plain rfl (.assign rfl (.of rfl))) rfl rfl (fun _ _ => rfl) (L.Dep.const) ?_
    refine AChain.nil ?_
    intro s3
    refine Fin.keepG (Γ' := [(0, _), (3, _), (6, _)]) (.same rfl (.same rfl (.same rfl .nil))) ?_
    refine Fin.next ?_
    refine Tr.seq ?_
    refine Tr.regionK T.mixed (by kernel_rfl) (by kernel_rfl) ?_
    refine ChainK.consS 34 (.plain rfl (.move rfl (.of rfl))) rfl ?_
    refine ChainK.consS 35 (.plain rfl (.not rfl (.of rfl))) rfl ?_
    refine ChainK.consS 36 (.plain rfl (.move rfl (.of rfl))) rfl ?_
    refine ChainK.consS 37 (.guarded rfl rfl rfl fun hg => .move rfl (.of rfl)) rfl ?_
    refine ChainK.consS 38 (.guarded rfl rfl rfl fun hg => .nilCheckP rfl (.cond rfl hg)) rfl ?_
    refine ChainK.consS 39 (.guarded rfl rfl rfl fun hg => .fieldP rfl (.cond rfl hg) T.fl183_0) rfl ?_
    refine ChainK.consS 40 (.guarded rfl rfl rfl fun hg => .loadR 2 rfl (.cond rfl hg) rfl rfl rfl T.sc181) rfl ?_
    refine ChainK.consS 41 (.guarded rfl rfl rfl fun hg => .fieldC rfl (.of rfl) T.fl75_0) rfl ?_
    refine ChainK.consS 42 (.guarded rfl rfl rfl fun hg => .load1 rfl (.cond rfl hg) T.sc3) rfl ?_
    refine ChainK.consS 43 (.guarded rfl rfl rfl fun hg => .indexN 3 (x.toNat) rfl (.cond rfl hg) (.cond rfl hg) rfl Own.view rfl Try.underlying181 T.sz185 (by omega) (he)) rfl ?_
    refine ChainK.consS 44 (.guarded rfl rfl rfl fun hg => .fieldW 3 rfl (.cond rfl hg) rfl Own.view rfl (L.hz_pos (he)) T.fl185_1) rfl ?_
    refine ChainK.consS 45 (.guarded rfl rfl rfl fun hg => .loadW 3 (x.toNat) 4 rfl (.cond rfl hg) rfl Own.view rfl (he) rfl T.sc3) rfl ?_
    refine ChainK.consS 46 (.guarded rfl rfl rfl fun hg => .fieldC rfl (.of rfl) T.fl75_1) rfl ?_
    refine ChainK.consS 47 (.guarded rfl rfl rfl fun hg => .load1 rfl (.cond rfl hg) T.sc3) rfl ?_
    refine ChainK.consS 48 (.guarded rfl rfl rfl fun hg => .eql rfl (.cond rfl hg) (.cond rfl hg)) rfl ?_
    refine ChainK.consS 49 (.plain rfl (.and rfl (.of rfl) (.cond rfl fun h => h))) rfl ?_
    refine ChainK.consS 4 (.plain rfl (.assign rfl (.of rfl))) rfl ?_
    refine ChainK.nil ?_
    refine Fin.keepG (Γ' := [(4, _)]) (.same rfl .nil) ?_
    refine Fin.next ?_
    refine Tr.ret ?_
    refine Fin.retGI 5 rfl (()) [] (rs := [_]) rfl (.cons (.tmp rfl) .nil) (.cons (L.iv ?_) .nil) rfl (.nil) rfl
    · rw [hhe, hlk]; simp

end Go.Proofs.Ytemkogoclljhpaa