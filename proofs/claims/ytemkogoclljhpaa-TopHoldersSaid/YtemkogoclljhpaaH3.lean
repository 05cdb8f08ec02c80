import Derived.Test.YtemkogoclljhpaaH2
namespace Go.Proofs.Ytemkogoclljhpaa
open Go Go.Proofs.Ytemkogoclljhpaa.L
set_option linter.unusedVariables false
set_option linter.unusedSimpArgs false

namespace T

end T


def cmpI (a b : Int) : Int := if a < b then -1 else if b < a then 1 else 0
def minS (m x : Ls) : Ls := if x.2.2.1 < m.2.2.1 then x else m
def minL : List Ls → Ls
  | [] => zL
  | x :: xs => xs.foldl minS x
theorem minL_snoc {xs : List Ls} (h : xs ≠ []) (y : Ls) : minL (xs ++ [y]) = minS (minL xs) y := by
  cases xs with
  | nil => exact absurd rfl h
  | cons x xs => simp [minL]
theorem take_ne {α : Type} {xs : List α} {k : Nat} (h : 1 ≤ k) (h' : k ≤ xs.length) : xs.take k ≠ [] := by
  intro e
  have h2 := congrArg List.length e
  rw [List.length_take] at h2; simp only [List.length_nil] at h2; omega
theorem fld97_2 (a b c d e : Value) : ∀ w, (Instr.field 97 (.agg #[a, b, c, d, e]) 2).run Try.prog w = .ok c w := by
  intro w
  kernel_rfl
def goneI (p : Ls → Bool) (xs gone : List Ls) : List Ls := if ix p xs < xs.length then gone ++ [xs.getD (ix p xs) zL] else gone
theorem filter_none {p : Ls → Bool} {xs : List Ls} (h : ix p xs = xs.length) : xs.filter p = [] ∧ xs.filter (fun x => !p x) = xs := by
  have h2 : ∀ x ∈ xs, p x = false := List.findIdx_eq_length.1 h
  exact ⟨by rw [List.filter_eq_nil_iff]; intro x hx; simp [h2 x hx], by rw [List.filter_eq_self]; intro x hx; simp [h2 x hx]⟩
theorem filter_take {p : Ls → Bool} {xs : List Ls} {k : Nat} {x : Ls} (h : xs[k]? = some x) : (xs.take (k + 1)).filter p = (xs.take k).filter p ++ if p x then [x] else [] := by
  rw [take_snoc h, List.filter_append]
  congr 1
  cases hp : p x <;> simp [List.filter, hp]
theorem filter_first {p : Ls → Bool} {xs : List Ls} {x : Ls} (hx : xs[ix p xs]? = some x) (hp : p x = true) : (xs.take (ix p xs + 1)).filter p = [x] ∧ (xs.take (ix p xs + 1)).filter (fun y => !p y) = xs.take (ix p xs) := by
  have hlt := getL_len hx
  have h0 : ∀ y ∈ xs.take (ix p xs), p y = false := by
    intro y hy
    obtain ⟨j, hj, rfl⟩ := List.mem_take_iff_getElem.1 hy
    have := List.not_of_lt_findIdx (p := p) (xs := xs) (i := j) (show j < xs.findIdx p by unfold ix at hj; omega)
    simpa using this
  constructor
  · rw [filter_take hx, hp]
    have : (xs.take (ix p xs)).filter p = [] := by rw [List.filter_eq_nil_iff]; intro y hy; simp [h0 y hy]
    rw [this]; rfl
  · have := filter_take (p := fun y => !p y) hx
    rw [this]
    simp only [hp]
    have h3 : (xs.take (ix p xs)).filter (fun y => !p y) = xs.take (ix p xs) := by rw [List.filter_eq_self]; intro y hy; simp [h0 y hy]
    rw [h3]; simp
theorem drop_of_drop {α : Type} {xs es : List α} {k : Nat} (h : es.drop k = xs.drop k) {i : Nat} : es[k + i]? = xs[k + i]? := by
  have := congrArg (fun l => l[i]?) h
  simpa using this
theorem drop_step {α : Type} {xs es : List α} {k : Nat} (h : es.drop k = xs.drop k) : es.drop (k + 1) = xs.drop (k + 1) := by
  have := congrArg (List.drop 1) h
  simpa using this
theorem drop_set {α : Type} {es : List α} {i k : Nat} {x : α} (h : i < k) : (es.set i x).drop k = es.drop k := by
  apply List.ext_getElem?
  intro j
  rw [List.getElem?_drop, List.getElem?_drop, List.getElem?_set_ne (by omega)]
theorem take_set {α : Type} {es : List α} {i : Nat} {x : α} (h : i < es.length) : (es.set i x).take (i + 1) = es.take i ++ [x] := by
  rw [take_snoc (x := x) (by rw [List.getElem?_set_self h])]
  congr 1
  apply List.ext_getElem?
  intro j
  rw [List.getElem?_take, List.getElem?_take]
  split
  · rw [List.getElem?_set_ne (by omega)]
  · rfl

/- cmp.isNaN[uint64] -/
set_option maxRecDepth 100000 in
theorem F166 (n : Int) : FnP Try.prog 166 [is (.int .u64 n)] (is (.bool false)) := by
  refine FnP.mk' Try.func166 T.nm166 rfl (N := 6) rfl rfl fun B hB hκ => ?_
  refine Tr.seq ?_
  refine Tr.region ?_
  refine TrL.stepS 2 (.plain rfl (.assign rfl (.of rfl))) rfl rfl ?_
  refine TrL.nil ?_
  refine Fin.keepG (Γ' := [(0, _)]) (.same rfl .nil) ?_
  refine Fin.next ?_
  refine Tr.seq ?_
  refine Tr.region ?_
  refine TrL.stepS 3 (.plain rfl (.move rfl (.of rfl))) rfl rfl ?_
  refine TrL.stepS 4 (.plain rfl (.move rfl (.of rfl))) rfl rfl ?_
  refine TrL.stepS 5 (.plain rfl (.neq rfl (.of rfl) (.of rfl))) rfl rfl ?_
  refine TrL.stepS 2 (.plain rfl (.assign rfl (.of rfl))) rfl rfl ?_
  refine TrL.nil ?_
  refine Fin.keepG (Γ' := [(2, _)]) (.same rfl .nil) ?_
  refine Fin.next ?_
  refine Tr.ret ?_
  refine Fin.retI (rs := [_]) (Rs' := [is (.bool false)]) rfl (.cons (.tmp rfl) .nil) (.cons (L.iv ?_) .nil)
  · simp

/- cmp.Compare[uint64] -/
set_option maxRecDepth 100000 in
theorem F127 (a b : Int) : FnP Try.prog 127 [is (.int .u64 a), is (.int .u64 b)] (is (.int .i64 (cmpI a b))) := by
  refine FnP.mk' Try.func127 T.nm127 rfl (N := 20) rfl rfl fun B hB hκ => ?_
  refine Tr.seq ?_
  refine Tr.region ?_
  refine TrL.stepS 4 (.plain rfl (.assign rfl (.of rfl))) rfl rfl ?_
  refine TrL.nil ?_
  refine Fin.keepG (Γ' := [(0, _), (1, _)]) (.same rfl (.same rfl .nil)) ?_
  refine Fin.next ?_
  refine Tr.seq ?_
  refine Tr.region ?_
  refine TrL.stepS 7 (.plain rfl (.move rfl (.of rfl))) rfl rfl ?_
  refine TrL.stepS 8 (.plain rfl (.call rfl (F166 ..) (.cons (.of rfl) .nil))) rfl rfl ?_
  refine TrL.stepS 5 (.plain rfl (.assign rfl (.of rfl))) rfl rfl ?_
  refine TrL.nil ?_
  refine Fin.keepG (Γ' := [(0, _), (1, _), (5, _)]) (.same rfl (.same rfl (.same rfl .nil))) ?_
  refine Fin.next ?_
  refine Tr.seq ?_
  refine Tr.region ?_
  refine TrL.stepS 9 (.plain rfl (.move rfl (.of rfl))) rfl rfl ?_
  refine TrL.stepS 10 (.plain rfl (.call rfl (F166 ..) (.cons (.of rfl) .nil))) rfl rfl ?_
  refine TrL.stepS 6 (.plain rfl (.assign rfl (.of rfl))) rfl rfl ?_
  refine TrL.nil ?_
  refine Fin.keepG (Γ' := [(0, _), (1, _), (5, _), (6, _)]) (.same rfl (.same rfl (.same rfl (.same rfl .nil)))) ?_
  refine Fin.next ?_
  refine Tr.seq ?_
  refine Tr.seq ?_
  refine Tr.region ?_
  refine TrL.stepS 11 (.plain rfl (.move rfl (.of rfl))) rfl rfl ?_
  refine TrL.nil ?_
  refine Fin.keepG (Γ' := [(0, _), (1, _), (6, _), (11, _)]) (.same rfl (.same rfl (.same rfl (.same rfl .nil)))) ?_
  refine Fin.next ?_
  refine Tr.cond rfl (fun hb0 => ?_) (fun hb0 => ?_)
  · try simp only [decide_eq_true_eq, decide_eq_false_iff_not, beq_iff_eq, beq_eq_false_iff_ne, bne_iff_ne, bne_eq_false_iff_eq, Bool.and_eq_true, Bool.and_eq_false_iff, Bool.or_eq_true, Bool.or_eq_false_iff, Bool.not_eq_true', Bool.not_eq_false', gt_iff_lt, ge_iff_le, Int.not_lt, Int.not_le, ne_eq, Int.natCast_nonneg, true_and, and_true, Decidable.not_not, not_true_eq_false, not_false_eq_true] at hb0
    cases hb0
  · try simp only [decide_eq_true_eq, decide_eq_false_iff_not, beq_iff_eq, beq_eq_false_iff_ne, bne_iff_ne, bne_eq_false_iff_eq, Bool.and_eq_true, Bool.and_eq_false_iff, Bool.or_eq_true, Bool.or_eq_false_iff, Bool.not_eq_true', Bool.not_eq_false', gt_iff_lt, ge_iff_le, Int.not_lt, Int.not_le, ne_eq, Int.natCast_nonneg, true_and, and_true, Decidable.not_not, not_true_eq_false, not_false_eq_true] at hb0
    refine Tr.skip ?_
    refine Fin.next ?_
    refine Tr.seq ?_
    refine Tr.seq ?_
    refine Tr.region ?_
    refine TrL.stepS 13 (.plain rfl (.move rfl (.of rfl))) rfl rfl ?_
    refine TrL.nil ?_
    refine Fin.keepG (Γ' := [(0, _), (1, _), (13, _)]) (.same rfl (.same rfl (.same rfl .nil))) ?_
    refine Fin.next ?_
    refine Tr.cond rfl (fun hb2 => ?_) (fun hb2 => ?_)
    · try simp only [decide_eq_true_eq, decide_eq_false_iff_not, beq_iff_eq, beq_eq_false_iff_ne, bne_iff_ne, bne_eq_false_iff_eq, Bool.and_eq_true, Bool.and_eq_false_iff, Bool.or_eq_true, Bool.or_eq_false_iff, Bool.not_eq_true', Bool.not_eq_false', gt_iff_lt, ge_iff_le, Int.not_lt, Int.not_le, ne_eq, Int.natCast_nonneg, true_and, and_true, Decidable.not_not, not_true_eq_false, not_false_eq_true] at hb2
      cases hb2
    · try simp only [decide_eq_true_eq, decide_eq_false_iff_not, beq_iff_eq, beq_eq_false_iff_ne, bne_iff_ne, bne_eq_false_iff_eq, Bool.and_eq_true, Bool.and_eq_false_iff, Bool.or_eq_true, Bool.or_eq_false_iff, Bool.not_eq_true', Bool.not_eq_false', gt_iff_lt, ge_iff_le, Int.not_lt, Int.not_le, ne_eq, Int.natCast_nonneg, true_and, and_true, Decidable.not_not, not_true_eq_false, not_false_eq_true] at hb2
      refine Tr.skip ?_
      refine Fin.next ?_
      refine Tr.seq ?_
      refine Tr.seq ?_
      refine Tr.region ?_
      refine TrL.stepS 14 (.plain rfl (.move rfl (.of rfl))) rfl rfl ?_
      refine TrL.stepS 15 (.plain rfl (.move rfl (.of rfl))) rfl rfl ?_
      refine TrL.stepS 16 (.plain rfl (.lss rfl (.of rfl) (.of rfl))) rfl rfl ?_
      refine TrL.nil ?_
      refine Fin.keepG (Γ' := [(0, _), (1, _), (16, _)]) (.same rfl (.same rfl (.same rfl .nil))) ?_
      refine Fin.next ?_
      refine Tr.cond rfl (fun hb3 => ?_) (fun hb3 => ?_)
      · try simp only [decide_eq_true_eq, decide_eq_false_iff_not, beq_iff_eq, beq_eq_false_iff_ne, bne_iff_ne, bne_eq_false_iff_eq, Bool.and_eq_true, Bool.and_eq_false_iff, Bool.or_eq_true, Bool.or_eq_false_iff, Bool.not_eq_true', Bool.not_eq_false', gt_iff_lt, ge_iff_le, Int.not_lt, Int.not_le, ne_eq, Int.natCast_nonneg, true_and, and_true, Decidable.not_not, not_true_eq_false, not_false_eq_true] at hb3
        refine Tr.seq ?_
        refine Tr.region ?_
        refine TrL.stepS 4 (.plain rfl (.assign rfl (.of rfl))) rfl rfl ?_
        refine TrL.nil ?_
        refine Fin.keepG (Γ' := [(4, _)]) (.same rfl .nil) ?_
        refine Fin.next ?_
        refine Tr.ret ?_
        refine Fin.thenRet ?_
        refine Fin.retI (rs := [_]) (Rs' := [is (.int .i64 (cmpI a b))]) rfl (.cons (.tmp rfl) .nil) (.cons (L.iv ?_) .nil)
        · simp [cmpI, hb3]
      · try simp only [decide_eq_true_eq, decide_eq_false_iff_not, beq_iff_eq, beq_eq_false_iff_ne, bne_iff_ne, bne_eq_false_iff_eq, Bool.and_eq_true, Bool.and_eq_false_iff, Bool.or_eq_true, Bool.or_eq_false_iff, Bool.not_eq_true', Bool.not_eq_false', gt_iff_lt, ge_iff_le, Int.not_lt, Int.not_le, ne_eq, Int.natCast_nonneg, true_and, and_true, Decidable.not_not, not_true_eq_false, not_false_eq_true] at hb3
        refine Tr.skip ?_
        refine Fin.next ?_
        refine Tr.seq ?_
        refine Tr.seq ?_
        refine Tr.region ?_
        refine TrL.stepS 17 (.plain rfl (.move rfl (.of rfl))) rfl rfl ?_
        refine TrL.stepS 18 (.plain rfl (.move rfl (.of rfl))) rfl rfl ?_
        refine TrL.stepS 19 (.plain rfl (.gtr rfl (.of rfl) (.of rfl))) rfl rfl ?_
        refine TrL.nil ?_
        refine Fin.keepG (Γ' := [(19, _)]) (.same rfl .nil) ?_
        refine Fin.next ?_
        refine Tr.cond rfl (fun hb4 => ?_) (fun hb4 => ?_)
        · try simp only [decide_eq_true_eq, decide_eq_false_iff_not, beq_iff_eq, beq_eq_false_iff_ne, bne_iff_ne, bne_eq_false_iff_eq, Bool.and_eq_true, Bool.and_eq_false_iff, Bool.or_eq_true, Bool.or_eq_false_iff, Bool.not_eq_true', Bool.not_eq_false', gt_iff_lt, ge_iff_le, Int.not_lt, Int.not_le, ne_eq, Int.natCast_nonneg, true_and, and_true, Decidable.not_not, not_true_eq_false, not_false_eq_true] at hb4
          refine Tr.seq ?_
          refine Tr.region ?_
          refine TrL.stepS 4 (.plain rfl (.assign rfl (.of rfl))) rfl rfl ?_
          refine TrL.nil ?_
          refine Fin.keepG (Γ' := [(4, _)]) (.same rfl .nil) ?_
          refine Fin.next ?_
          refine Tr.ret ?_
          refine Fin.thenRet ?_
          refine Fin.retI (rs := [_]) (Rs' := [is (.int .i64 (cmpI a b))]) rfl (.cons (.tmp rfl) .nil) (.cons (L.iv ?_) .nil)
          · simp only [cmpI]; rw [if_neg (by omega), if_pos hb4]
        · try simp only [decide_eq_true_eq, decide_eq_false_iff_not, beq_iff_eq, beq_eq_false_iff_ne, bne_iff_ne, bne_eq_false_iff_eq, Bool.and_eq_true, Bool.and_eq_false_iff, Bool.or_eq_true, Bool.or_eq_false_iff, Bool.not_eq_true', Bool.not_eq_false', gt_iff_lt, ge_iff_le, Int.not_lt, Int.not_le, ne_eq, Int.natCast_nonneg, true_and, and_true, Decidable.not_not, not_true_eq_false, not_false_eq_true] at hb4
          refine Tr.skip ?_
          refine Fin.next ?_
          refine Tr.seq ?_
          refine Tr.region ?_
          refine TrL.stepS 4 (.plain rfl (.assign rfl (.of rfl))) rfl rfl ?_
          refine TrL.nil ?_
          refine Fin.keepG (Γ' := [(4, _)]) (.same rfl .nil) ?_
          refine Fin.next ?_
          refine Tr.ret ?_
          refine Fin.retI (rs := [_]) (Rs' := [is (.int .i64 (cmpI a b))]) rfl (.cons (.tmp rfl) .nil) (.cons (L.iv ?_) .nil)
          · simp only [cmpI]; rw [if_neg (by omega), if_neg (by omega)]

/- (*tidepool/lease.Leases).Least$1 -/
set_option maxRecDepth 100000 in
theorem F126 (a b : Ls) : FnP Try.prog 126 [is (.agg #[.int .u64 a.1, .int .i64 a.2.1, .int .u64 a.2.2.1, .int .u64 a.2.2.2.1, .bool a.2.2.2.2]), is (.agg #[.int .u64 b.1, .int .i64 b.2.1, .int .u64 b.2.2.1, .int .u64 b.2.2.2.1, .bool b.2.2.2.2])] (is (.int .i64 (cmpI a.2.2.1 b.2.2.1))) := by
  refine FnP.mk' Try.func126 T.nm126 rfl (N := 10) rfl rfl fun B hB hκ => ?_
  refine Tr.seq ?_
  refine Tr.region ?_
  refine TrL.stepS 2 (.plain rfl (.boxR rfl (.of rfl))) rfl rfl ?_
  refine TrL.stepS 3 (.plain rfl (.boxR rfl (.of rfl))) rfl rfl ?_
  refine TrL.stepS 4 (.plain rfl (.assign rfl (.of rfl))) rfl rfl ?_
  refine TrL.nil ?_
  refine Fin.keepG (Γ' := [(2, _), (3, _)]) (.same rfl (.same rfl .nil)) ?_
  refine Fin.next ?_
  refine Tr.seq ?_
  refine Tr.region ?_
  refine TrL.stepS 5 (.plain rfl (.fieldC rfl (.of rfl) T.fl97_2)) rfl rfl ?_
  refine TrL.stepS 6 (.plain rfl (.load1 rfl (.of rfl) T.sc55)) rfl rfl ?_
  refine TrL.stepS 7 (.plain rfl (.fieldC rfl (.of rfl) T.fl97_2)) rfl rfl ?_
  refine TrL.stepS 8 (.plain rfl (.load1 rfl (.of rfl) T.sc55)) rfl rfl ?_
  refine TrL.stepS 9 (.plain rfl (.call rfl (F127 ..) (.cons (.of rfl) (.cons (.of rfl) .nil)))) rfl rfl ?_
  refine TrL.stepS 4 (.plain rfl (.assign rfl (.of rfl))) rfl rfl ?_
  refine TrL.nil ?_
  refine Fin.keepG (Γ' := [(4, _)]) (.same rfl .nil) ?_
  refine Fin.next ?_
  refine Tr.ret ?_
  exact Fin.retI (rs := [_]) (Rs' := [is (.int .i64 (cmpI a.2.2.1 b.2.2.1))]) rfl (.cons (.tmp rfl) .nil) (.cons (L.iv rfl) .nil)

/- slices.MinFunc[[]tidepool/lease.Lease,tidepool/lease.Lease] -/
set_option maxRecDepth 100000 in
theorem F125 (v : Value) (xs : List Ls) (hl : xs.length ≤ 1000) (hne : xs ≠ []) : FnG Try.prog 125 [is v, is (.func (.func 126) #[] #[])] [View leaseR v xs] [] (γ := Unit) (fun _ => is (.agg #[.int .u64 (minL xs).1, .int .i64 (minL xs).2.1, .int .u64 (minL xs).2.2.1, .int .u64 (minL xs).2.2.2.1, .bool (minL xs).2.2.2.2])) (fun _ => []) := by
  have hpos : 0 < xs.length := List.length_pos_iff.2 hne
  obtain ⟨x0, hx0⟩ := ex_get (xs := xs) (i := 0) hpos
  refine FnG.mk' Try.func125 T.nm125 rfl (N := 33) rfl rfl (t := 3) rfl fun B => ?_
  refine Tr.seq ?_
  refine Tr.region ?_
  refine TrL.allocS 20 (zs := [.int .u64 0, .int .i64 0, .int .u64 0, .int .u64 0, .bool false]) rfl rfl (by kernel_rfl) 4 rfl rfl rfl fun b20 => ?_
  refine TrL.nil ?_
  refine Fin.next ?_
  refine Tr.seq ?_
  refine Tr.seq ?_
  refine Tr.region ?_
  refine TrL.stepS 7 (.plain rfl (.move rfl (.of rfl))) rfl rfl ?_
  refine TrL.stepS 8 (.plain rfl (.lenV 2 rfl (.of rfl) rfl View.refl rfl Try.underlying103)) rfl rfl ?_
  refine TrL.stepS 9 (.plain rfl (.lss rfl (.of rfl) (.of rfl))) rfl rfl ?_
  refine TrL.nil ?_
  refine Fin.keepG (Γ' := [(0, _), (1, _), (4, _), (9, _)]) (.same rfl (.same rfl (.same rfl (.same rfl .nil)))) ?_
  refine Fin.next ?_
  refine Tr.cond rfl (fun hb0 => ?_) (fun hb0 => ?_)
  · try simp only [decide_eq_true_eq, decide_eq_false_iff_not, beq_iff_eq, beq_eq_false_iff_ne, bne_iff_ne, bne_eq_false_iff_eq, Bool.and_eq_true, Bool.and_eq_false_iff, Bool.or_eq_true, Bool.or_eq_false_iff, Bool.not_eq_true', Bool.not_eq_false', gt_iff_lt, ge_iff_le, Int.not_lt, Int.not_le, ne_eq, Int.natCast_nonneg, true_and, and_true, Decidable.not_not, not_true_eq_false, not_false_eq_true] at hb0
    omega
  · try simp only [decide_eq_true_eq, decide_eq_false_iff_not, beq_iff_eq, beq_eq_false_iff_ne, bne_iff_ne, bne_eq_false_iff_eq, Bool.and_eq_true, Bool.and_eq_false_iff, Bool.or_eq_true, Bool.or_eq_false_iff, Bool.not_eq_true', Bool.not_eq_false', gt_iff_lt, ge_iff_le, Int.not_lt, Int.not_le, ne_eq, Int.natCast_nonneg, true_and, and_true, Decidable.not_not, not_true_eq_false, not_false_eq_true] at hb0
    refine Tr.skip ?_
    refine Fin.next ?_
    refine Tr.seq ?_
    refine Tr.region ?_
    refine TrL.stepS 11 (.plain rfl (.move rfl (.of rfl))) rfl rfl ?_
    refine TrL.stepS 12 (.plain rfl (.indexN 2 (0) rfl (.of rfl) (.of rfl) rfl View.refl rfl Try.underlying103 T.sz97 (by omega) (hx0))) rfl rfl ?_
    refine TrL.stepS 13 (.plain rfl (.loadWV 2 (0) 0 5 (ds := [_, _, _, _, _]) rfl (.of rfl) rfl View.refl rfl (hx0) rfl rfl T.ag97)) rfl rfl ?_
    refine TrL.allocS 21 (zs := [.int .u64 0, .int .i64 0, .int .u64 0, .int .u64 0, .bool false]) rfl rfl (by kernel_rfl) 5 rfl rfl rfl fun b21 => ?_
    refine TrL.storeW 21 (vs := [_, _, _, _, _]) rfl rfl rfl (.of rfl) (.of rfl) rfl rfl T.sz97 rfl rfl ?_
    refine TrL.nil ?_
    refine Fin.keepG (Γ' := [(0, _), (1, _), (4, _), (5, _)]) (.same rfl (.same rfl (.same rfl (.same rfl .nil)))) ?_
    refine Fin.next ?_
    refine Tr.seq ?_
    refine Tr.seq ?_
    refine Tr.region ?_
    refine TrL.stepS 6 (.plain rfl (.assign rfl (.of rfl))) rfl rfl ?_
    refine TrL.nil ?_
    refine Fin.next ?_
    refine Tr.block ?_
    refine Tr.loopK (γ := Nat) (Γk := [(0, _), (1, _), (4, _), (5, _)]) (Mk := [(2, _), (20, _)]) (.same rfl (.same rfl (.same rfl (.same rfl .nil)))) (.same rfl (.same rfl .nil)) (fun k => 1 ≤ k ∧ k ≤ xs.length) (fun k => fun r => (21, Blk b21 [.int .u64 (minL (xs.take k)).1, .int .i64 (minL (xs.take k)).2.1, .int .u64 (minL (xs.take k)).2.2.1, .int .u64 (minL (xs.take k)).2.2.2.1, .bool (minL (xs.take k)).2.2.2.2] 97) :: r) (fun k => fun r => (6, is (.int .i64 k)) :: r) (fun k => xs.length - k) (1) ?h0_0 ?hM_0 ?hG_0 ?hl_0
    case h0_0 => exact ⟨Nat.le_refl _, by omega⟩
    case hM_0 => exact (.cons rfl (fun F L w h => by have e : minL (xs.take 1) = x0 := (by cases xs with | nil => exact absurd rfl hne | cons y ys => (simp at hx0; subst hx0; rfl)); rw [e]; exact h) (.same rfl (.same rfl .nil)))
    case hG_0 => exact (.eq rfl (by first | rfl | (congr 1; first | done | omega | (push_cast; omega) | (push_cast; rfl))) (.same rfl (.same rfl (.same rfl (.same rfl .nil)))))
    case hl_0 =>
      intro k hI
      refine Tr.seq ?_
      refine Tr.seq ?_
      refine Tr.region ?_
      refine TrL.stepS 14 (.plain rfl (.move rfl (.of rfl))) rfl rfl ?_
      refine TrL.stepS 15 (.plain rfl (.move rfl (.of rfl))) rfl rfl ?_
      refine TrL.stepS 16 (.plain rfl (.lenV 2 rfl (.of rfl) rfl View.refl rfl Try.underlying103)) rfl rfl ?_
      refine TrL.stepS 17 (.plain rfl (.lss rfl (.of rfl) (.of rfl))) rfl rfl ?_
      refine TrL.nil ?_
      refine Fin.keepG (Γ' := [(0, _), (1, _), (4, _), (5, _), (6, _), (17, _)]) (.same rfl (.same rfl (.same rfl (.same rfl (.same rfl (.same rfl .nil)))))) ?_
      refine Fin.next ?_
      refine Tr.cond rfl (fun hb1 => ?_) (fun hb1 => ?_)
      · try simp only [decide_eq_true_eq, decide_eq_false_iff_not, beq_iff_eq, beq_eq_false_iff_ne, bne_iff_ne, bne_eq_false_iff_eq, Bool.and_eq_true, Bool.and_eq_false_iff, Bool.or_eq_true, Bool.or_eq_false_iff, Bool.not_eq_true', Bool.not_eq_false', gt_iff_lt, ge_iff_le, Int.not_lt, Int.not_le, ne_eq, Int.natCast_nonneg, true_and, and_true, Decidable.not_not, not_true_eq_false, not_false_eq_true] at hb1
        obtain ⟨x, hx⟩ := ex_get (xs := xs) (i := k) (by omega)
        have hsn : minL (xs.take (k + 1)) = minS (minL (xs.take k)) x := by rw [take_snoc hx, minL_snoc (take_ne (by omega) (by omega))]
        refine Tr.skip ?_
        refine Fin.next ?_
        refine Tr.seq ?_
        refine Tr.block ?_
        refine Tr.seq ?_
        refine Tr.regionK T.mixed (by kernel_rfl) (by kernel_rfl) ?_
        refine ChainK.consS 20 (.plain rfl (.move rfl (.of rfl))) rfl ?_
        refine ChainK.consS 21 (.plain rfl (.move rfl (.of rfl))) rfl ?_
        refine ChainK.consS 22 (.plain rfl (.move rfl (.of rfl))) rfl ?_
        refine ChainK.consS 23 (.plain rfl (.indexN 2 (k) rfl (.of rfl) (.of rfl) rfl View.refl rfl Try.underlying103 T.sz97 (by omega) (hx))) rfl ?_
        refine ChainK.consS 24 (.plain rfl (.loadWV 2 (k) 0 5 (ds := [_, _, _, _, _]) rfl (.of rfl) rfl View.refl rfl (hx) rfl rfl T.ag97)) rfl ?_
        refine ChainK.consS 25 (.plain rfl (.loadBN 21 (k := 5) (ds := [_, _, _, _, _]) rfl (.of rfl) rfl rfl rfl T.ag97 rfl)) rfl ?_
        refine ChainK.consS 26 (.plain rfl (.callV (first := []) (caps := []) rfl (.of rfl) (F126 x (minL (xs.take k))) (.cons (.of rfl) (.cons (.of rfl) .nil)))) rfl ?_
        refine ChainK.consS 27 (.plain rfl (.lss rfl (.of rfl) (.of rfl))) rfl ?_
        refine ChainK.nil ?_
        refine Fin.keepG (Γ' := [(0, _), (1, _), (4, _), (5, _), (6, _), (27, _)]) (.same rfl (.same rfl (.same rfl (.same rfl (.same rfl (.same rfl .nil)))))) ?_
        refine Fin.next ?_
        refine Tr.cond rfl (fun hb2 => ?_) (fun hb2 => ?_)
        · try simp only [decide_eq_true_eq, decide_eq_false_iff_not, beq_iff_eq, beq_eq_false_iff_ne, bne_iff_ne, bne_eq_false_iff_eq, Bool.and_eq_true, Bool.and_eq_false_iff, Bool.or_eq_true, Bool.or_eq_false_iff, Bool.not_eq_true', Bool.not_eq_false', gt_iff_lt, ge_iff_le, Int.not_lt, Int.not_le, ne_eq, Int.natCast_nonneg, true_and, and_true, Decidable.not_not, not_true_eq_false, not_false_eq_true] at hb2
          have hlt : x.2.2.1 < (minL (xs.take k)).2.2.1 := by
            unfold cmpI at hb2; (repeat' split at hb2) <;> omega
          refine Tr.region ?_
          refine TrL.stepS 28 (.plain rfl (.move rfl (.of rfl))) rfl rfl ?_
          refine TrL.stepS 29 (.plain rfl (.move rfl (.of rfl))) rfl rfl ?_
          refine TrL.stepS 30 (.plain rfl (.indexN 2 (k) rfl (.of rfl) (.of rfl) rfl View.refl rfl Try.underlying103 T.sz97 (by omega) (hx))) rfl rfl ?_
          refine TrL.stepS 31 (.plain rfl (.loadWV 2 (k) 0 5 (ds := [_, _, _, _, _]) rfl (.of rfl) rfl View.refl rfl (hx) rfl rfl T.ag97)) rfl rfl ?_
          refine TrL.storeW 21 (vs := [_, _, _, _, _]) rfl rfl rfl (.of rfl) (.of rfl) rfl rfl T.sz97 rfl rfl ?_
          refine TrL.nil ?_
          refine Fin.keepG (Γ' := [(0, _), (1, _), (4, _), (5, _), (6, _)]) (.same rfl (.same rfl (.same rfl (.same rfl (.same rfl .nil))))) ?_
          refine Fin.blockNormal ?_
          refine Fin.next ?_
          refine Tr.region ?_
          refine TrL.stepS 18 (.plain rfl (.move rfl (.of rfl))) rfl rfl ?_
          first | refine TrL.stepS 19 (.plain rfl (.addI L.bd_i64 rfl (.of rfl) (.of rfl) (by omega) (by omega))) rfl rfl ?_ | refine TrL.stepS 19 (.plain rfl (.add rfl (.of rfl) (.of rfl))) rfl rfl ?_
          refine TrL.stepS 6 (.plain rfl (.assign rfl (.of rfl))) rfl rfl ?_
          refine TrL.nil ?_
          refine Fin.keepG (Γ' := [(0, _), (1, _), (4, _), (5, _), (6, _)]) (.same rfl (.same rfl (.same rfl (.same rfl (.same rfl .nil))))) ?_
          exact Fin.again (k + 1) (⟨by omega, by omega⟩) (by omega) (.cons rfl (fun F L w h => by rw [hsn]; unfold minS; rw [if_pos hlt]; exact h) (.same rfl (.same rfl .nil))) (.eq rfl (by first | rfl | (congr 1; first | done | omega | (push_cast; omega) | (push_cast; rfl))) (.same rfl (.same rfl (.same rfl (.same rfl .nil)))))
        · try simp only [decide_eq_true_eq, decide_eq_false_iff_not, beq_iff_eq, beq_eq_false_iff_ne, bne_iff_ne, bne_eq_false_iff_eq, Bool.and_eq_true, Bool.and_eq_false_iff, Bool.or_eq_true, Bool.or_eq_false_iff, Bool.not_eq_true', Bool.not_eq_false', gt_iff_lt, ge_iff_le, Int.not_lt, Int.not_le, ne_eq, Int.natCast_nonneg, true_and, and_true, Decidable.not_not, not_true_eq_false, not_false_eq_true] at hb2
          have hlt : ¬ x.2.2.1 < (minL (xs.take k)).2.2.1 := by
            unfold cmpI at hb2; (repeat' split at hb2) <;> omega
          refine Tr.skip ?_
          refine Fin.blockNormal ?_
          refine Fin.next ?_
          refine Tr.region ?_
          refine TrL.stepS 18 (.plain rfl (.move rfl (.of rfl))) rfl rfl ?_
          first | refine TrL.stepS 19 (.plain rfl (.addI L.bd_i64 rfl (.of rfl) (.of rfl) (by omega) (by omega))) rfl rfl ?_ | refine TrL.stepS 19 (.plain rfl (.add rfl (.of rfl) (.of rfl))) rfl rfl ?_
          refine TrL.stepS 6 (.plain rfl (.assign rfl (.of rfl))) rfl rfl ?_
          refine TrL.nil ?_
          refine Fin.keepG (Γ' := [(0, _), (1, _), (4, _), (5, _), (6, _)]) (.same rfl (.same rfl (.same rfl (.same rfl (.same rfl .nil))))) ?_
          exact Fin.again (k + 1) (⟨by omega, by omega⟩) (by omega) (.cons rfl (fun F L w h => by rw [hsn]; unfold minS; rw [if_neg hlt]; exact h) (.same rfl (.same rfl .nil))) (.eq rfl (by first | rfl | (congr 1; first | done | omega | (push_cast; omega) | (push_cast; rfl))) (.same rfl (.same rfl (.same rfl (.same rfl .nil)))))
      · try simp only [decide_eq_true_eq, decide_eq_false_iff_not, beq_iff_eq, beq_eq_false_iff_ne, bne_iff_ne, bne_eq_false_iff_eq, Bool.and_eq_true, Bool.and_eq_false_iff, Bool.or_eq_true, Bool.or_eq_false_iff, Bool.not_eq_true', Bool.not_eq_false', gt_iff_lt, ge_iff_le, Int.not_lt, Int.not_le, ne_eq, Int.natCast_nonneg, true_and, and_true, Decidable.not_not, not_true_eq_false, not_false_eq_true] at hb1
        refine Tr.exit ?_
        refine Fin.thenExit ?_
        refine Fin.thenExit ?_
        refine Fin.blockOut ?_
        refine Fin.next ?_
        refine Tr.seq ?_
        refine Tr.region ?_
        refine TrL.stepS 32 (.plain rfl (.loadBN 21 (k := 5) (ds := [_, _, _, _, _]) rfl (.of rfl) rfl rfl rfl T.ag97 rfl)) rfl rfl ?_
        refine TrL.storeW 20 (vs := [_, _, _, _, _]) rfl rfl rfl (.of rfl) (.of rfl) rfl rfl T.sz97 rfl rfl ?_
        refine TrL.nil ?_
        refine Fin.keepG (Γ' := [(4, _)]) (.same rfl .nil) ?_
        refine Fin.next ?_
        refine Tr.ret ?_
        refine Fin.retGI 3 rfl (()) [] (rs := [_]) rfl (.cons (.cellB 20 (k := 5) (ds := [_, _, _, _, _]) rfl rfl rfl rfl T.ag97 rfl) .nil) (.cons (L.iv ?_) .nil) rfl (.nil) rfl
        · rw [List.take_of_length_le (by omega)]

/- (*tidepool/lease.Leases).Least -/
set_option maxRecDepth 100000 in
theorem F56 (b : Nat) (v : Value) (most last : Int) (rows : List Ls) (hl : rows.length ≤ 1000) : FnG Try.prog 56 [is (.pointer (some ⟨b, 0, none⟩))] [BlkR b [is v, is (.int .i64 most), is (.int .u64 last)] 197, Own leaseR 97 v rows] [] (γ := Unit) (fun _ => Tup [is (.int .u64 (if rows = [] then 0 else (minL rows).2.2.1)), is (.bool (!decide (rows = [])))]) (fun _ => []) := by
  refine FnG.mk' Try.func56 T.nm56 rfl (N := 13) rfl rfl (t := 4) rfl fun B => ?_
  refine Tr.seq ?_
  refine Tr.region ?_
  refine TrL.stepS 2 (.plain rfl (.assign rfl (.of rfl))) rfl rfl ?_
  refine TrL.stepS 3 (.plain rfl (.assign rfl (.of rfl))) rfl rfl ?_
  refine TrL.nil ?_
  refine Fin.keepG (Γ' := [(0, _)]) (.same rfl .nil) ?_
  refine Fin.next ?_
  refine Tr.seq ?_
  refine Tr.seq ?_
  refine Tr.region ?_
  refine TrL.stepS 4 (.plain rfl (.move rfl (.of rfl))) rfl rfl ?_
  refine TrL.stepS 5 (.plain rfl (.callR [2, 3] rfl (F69 b v most last rows hl) (.cons (.of rfl) .nil) (.same rfl (.same rfl .nil)) rfl)) rfl rfl ?_
  refine TrL.stepS 6 (.plain rfl (.eql rfl (.of rfl) (.of rfl))) rfl rfl ?_
  refine TrL.nil ?_
  refine Fin.keepG (Γ' := [(0, _), (6, _)]) (.same rfl (.same rfl .nil)) ?_
  refine Fin.next ?_
  refine Tr.cond rfl (fun hb0 => ?_) (fun hb0 => ?_)
  · try simp only [decide_eq_true_eq, decide_eq_false_iff_not, beq_iff_eq, beq_eq_false_iff_ne, bne_iff_ne, bne_eq_false_iff_eq, Bool.and_eq_true, Bool.and_eq_false_iff, Bool.or_eq_true, Bool.or_eq_false_iff, Bool.not_eq_true', Bool.not_eq_false', gt_iff_lt, ge_iff_le, Int.not_lt, Int.not_le, ne_eq, Int.natCast_nonneg, true_and, and_true, Decidable.not_not, not_true_eq_false, not_false_eq_true] at hb0
    have he : rows = [] := List.eq_nil_of_length_eq_zero (by omega)
    refine Tr.seq ?_
    refine Tr.region ?_
    refine TrL.stepS 2 (.plain rfl (.assign rfl (.of rfl))) rfl rfl ?_
    refine TrL.stepS 3 (.plain rfl (.assign rfl (.of rfl))) rfl rfl ?_
    refine TrL.nil ?_
    refine Fin.keepG (Γ' := [(2, _), (3, _)]) (.same rfl (.same rfl .nil)) ?_
    refine Fin.next ?_
    refine Tr.ret ?_
    refine Fin.thenRet ?_
    refine Fin.retGI 4 rfl (()) [] (rs := [_, _]) rfl (.cons (.tmp rfl) (.cons (.tmp rfl) .nil)) (.cons (L.iv ?_) (.cons (L.iv ?_) .nil)) rfl (.nil) rfl
    · simp [he]
    · simp [he]
  · try simp only [decide_eq_true_eq, decide_eq_false_iff_not, beq_iff_eq, beq_eq_false_iff_ne, bne_iff_ne, bne_eq_false_iff_eq, Bool.and_eq_true, Bool.and_eq_false_iff, Bool.or_eq_true, Bool.or_eq_false_iff, Bool.not_eq_true', Bool.not_eq_false', gt_iff_lt, ge_iff_le, Int.not_lt, Int.not_le, ne_eq, Int.natCast_nonneg, true_and, and_true, Decidable.not_not, not_true_eq_false, not_false_eq_true] at hb0
    have hne : rows ≠ [] := by rintro rfl; simp at hb0
    refine Tr.skip ?_
    refine Fin.next ?_
    refine Tr.seq ?_
    refine Tr.region ?_
    refine TrL.stepS 7 (.plain rfl (.move rfl (.of rfl))) rfl rfl ?_
    refine TrL.stepS 8 (.plain rfl (.nilCheckP rfl (.of rfl))) rfl rfl ?_
    refine TrL.stepS 9 (.plain rfl (.fieldP rfl (.of rfl) T.fl197_0)) rfl rfl ?_
    refine TrL.stepS 10 (.plain rfl (.loadR 2 rfl (.of rfl) rfl rfl rfl T.sc103)) rfl rfl ?_
    refine TrL.stepS 11 (.plain rfl (.callR [3] rfl (F125 v rows hl hne) (.cons (.of rfl) (.cons (.of rfl) .nil)) (.cons rfl L.Own.view .nil) rfl)) rfl rfl ?_
    refine TrL.stepS 12 (.plain rfl (.field rfl (.of rfl) (fld97_2 _ _ _ _ _))) rfl rfl ?_
    refine TrL.stepS 2 (.plain rfl (.assign rfl (.of rfl))) rfl rfl ?_
    refine TrL.stepS 3 (.plain rfl (.assign rfl (.of rfl))) rfl rfl ?_
    refine TrL.nil ?_
    refine Fin.keepG (Γ' := [(2, _), (3, _)]) (.same rfl (.same rfl .nil)) ?_
    refine Fin.next ?_
    refine Tr.ret ?_
    refine Fin.retGI 4 rfl (()) [] (rs := [_, _]) rfl (.cons (.tmp rfl) (.cons (.tmp rfl) .nil)) (.cons (L.iv ?_) (.cons (L.iv ?_) .nil)) rfl (.nil) rfl
    · rw [if_neg hne]
    · simp [hne]

/- (*tidepool/lease.Leases).part$1 -/
set_option maxRecDepth 100000 in
theorem F170 (p : Ls → Bool) (fh : FuncId) (u : Value) (ρ : RP) (hh : ∀ x, FnR Try.prog fh [is (.agg #[.int .u64 x.1, .int .i64 x.2.1, .int .u64 x.2.2.1, .int .u64 x.2.2.2.1, .bool x.2.2.2.2]), is u] [ρ] (is (.bool (p x)))) (bh bg : Nat) (vg : Value) (gone : List Ls) (hgl : gone.length ≤ 1000) (x : Ls) : FnG Try.prog 170 [is (.agg #[.int .u64 x.1, .int .i64 x.2.1, .int .u64 x.2.2.1, .int .u64 x.2.2.2.1, .bool x.2.2.2.2]), is (.pointer (some ⟨bh, 0, none⟩)), is (.pointer (some ⟨bg, 0, none⟩))] [Blk bh [.func (.func fh) #[] #[u]] 107, ρ] [BlkR bg [is vg] 103, Own leaseR 97 vg gone] (γ := Value) (fun v' => is (.bool (p x))) (fun v' => [BlkR bg [is v'] 103, Own leaseR 97 v' (if p x then gone ++ [x] else gone)]) := by
  refine FnG.mk' Try.func170 T.nm170 rfl (N := 13) rfl rfl (t := 4) rfl fun B => ?_
  refine Tr.seq ?_
  refine Tr.region ?_
  refine TrL.stepS 3 (.plain rfl (.boxR rfl (.of rfl))) rfl rfl ?_
  refine TrL.stepS 4 (.plain rfl (.assign rfl (.of rfl))) rfl rfl ?_
  refine TrL.nil ?_
  refine Fin.keepG (Γ' := [(1, _), (2, _), (3, _)]) (.same rfl (.same rfl (.same rfl .nil))) ?_
  refine Fin.next ?_
  refine Tr.seq ?_
  refine Tr.seq ?_
  refine Tr.region ?_
  refine TrL.stepS 5 (.plain rfl (.loadB 2 rfl (.of rfl) rfl rfl rfl T.sc107)) rfl rfl ?_
  refine TrL.stepS 6 (.plain rfl (.load5 rfl (.of rfl) T.ag97)) rfl rfl ?_
  refine TrL.stepS 7 (.plain rfl (.callRg (first := []) (caps := [_]) [3] rfl (.of rfl) (hh x) (.cons (.of rfl) .nil) (.same rfl .nil) rfl)) rfl rfl ?_
  refine TrL.stepS 8 (.plain rfl (.not rfl (.of rfl))) rfl rfl ?_
  refine TrL.nil ?_
  refine Fin.keepG (Γ' := [(2, _), (3, _), (8, _)]) (.same rfl (.same rfl (.same rfl .nil))) ?_
  refine Fin.next ?_
  refine Tr.cond rfl (fun hb0 => ?_) (fun hb0 => ?_)
  · try simp only [decide_eq_true_eq, decide_eq_false_iff_not, beq_iff_eq, beq_eq_false_iff_ne, bne_iff_ne, bne_eq_false_iff_eq, Bool.and_eq_true, Bool.and_eq_false_iff, Bool.or_eq_true, Bool.or_eq_false_iff, Bool.not_eq_true', Bool.not_eq_false', gt_iff_lt, ge_iff_le, Int.not_lt, Int.not_le, ne_eq, Int.natCast_nonneg, true_and, and_true, Decidable.not_not, not_true_eq_false, not_false_eq_true] at hb0
    refine Tr.seq ?_
    refine Tr.region ?_
    refine TrL.stepS 4 (.plain rfl (.assign rfl (.of rfl))) rfl rfl ?_
    refine TrL.nil ?_
    refine Fin.keepG (Γ' := [(4, _)]) (.same rfl .nil) ?_
    refine Fin.next ?_
    refine Tr.ret ?_
    refine Fin.thenRet ?_
    refine Fin.retGI 4 rfl (vg) [4, 5] (rs := [_]) rfl (.cons (.tmp rfl) .nil) (.cons (L.iv ?_) .nil) rfl (.same rfl (.cons rfl (fun F L w h => by rw [if_neg (by simp [hb0])]; exact h) .nil)) rfl
    · rw [hb0]
  · try simp only [decide_eq_true_eq, decide_eq_false_iff_not, beq_iff_eq, beq_eq_false_iff_ne, bne_iff_ne, bne_eq_false_iff_eq, Bool.and_eq_true, Bool.and_eq_false_iff, Bool.or_eq_true, Bool.or_eq_false_iff, Bool.not_eq_true', Bool.not_eq_false', gt_iff_lt, ge_iff_le, Int.not_lt, Int.not_le, ne_eq, Int.natCast_nonneg, true_and, and_true, Decidable.not_not, not_true_eq_false, not_false_eq_true] at hb0
    refine Tr.skip ?_
    refine Fin.next ?_
    refine Tr.seq ?_
    refine Tr.region ?_
    refine TrL.stepS 9 (.plain rfl (.loadR 4 rfl (.of rfl) rfl rfl rfl T.sc103)) rfl rfl ?_
    refine TrL.stepS 10 (.plain rfl (.load5 rfl (.of rfl) T.ag97)) rfl rfl ?_
    refine TrL.stepS 11 (.plain rfl (.slice (K := leaseR) (xs := [_]) rfl (.cons (.map (.of rfl) (leaseR_elem _ _ _ _ _)) .nil) Try.underlying103 T.sz97 T.zb97 rfl (by decide))) rfl rfl ?_
    refine TrL.appendS 5 (bytes := 40) rfl rfl 12 rfl rfl (.of rfl) rfl rfl (.of rfl) Try.underlying103 T.el97 (by simp) (by simp; omega) (by simp only [maxLen, List.length_append, List.length_cons, List.length_nil, List.length_map, List.length_take]; omega) fun v12 => ?_
    refine TrL.memP 5 rfl rfl own_form fun hf => ?_
    refine TrL.storeR1 4 rfl rfl rfl (.of rfl) (.of rfl) rfl rfl (L.h1sl hf) T.sz103 rfl ?_
    refine TrL.nil ?_
    refine Fin.keepG (Γ' := []) .nil ?_
    refine Fin.next ?_
    refine Tr.seq ?_
    refine Tr.region ?_
    refine TrL.stepS 4 (.plain rfl (.assign rfl (.of rfl))) rfl rfl ?_
    refine TrL.nil ?_
    refine Fin.next ?_
    refine Tr.ret ?_
    refine Fin.retGI 4 rfl (v12) [4, 5] (rs := [_]) rfl (.cons (.tmp rfl) .nil) (.cons (L.iv ?_) .nil) rfl (.same rfl (.cons rfl (fun F L w h => by rw [if_pos hb0]; exact h) .nil)) rfl
    · rw [hb0]

/- slices.IndexFunc[[]tidepool/lease.Lease,tidepool/lease.Lease] -/
set_option maxRecDepth 100000 in
theorem F167b (p : Ls → Bool) (fh : FuncId) (u : Value) (ρ : RP) (hh : ∀ x, FnR Try.prog fh [is (.agg #[.int .u64 x.1, .int .i64 x.2.1, .int .u64 x.2.2.1, .int .u64 x.2.2.2.1, .bool x.2.2.2.2]), is u] [ρ] (is (.bool (p x)))) (bh bg : Nat) (vg : Value) (gone : List Ls) (hgl : gone.length ≤ 1000) (v : Value) (xs : List Ls) (hl : xs.length ≤ 500) (hg2 : gone.length ≤ 500) : FnG Try.prog 167 [is v, is (.func (.func 170) #[] #[.pointer (some ⟨bh, 0, none⟩), .pointer (some ⟨bg, 0, none⟩)])] [View leaseR v xs, Blk bh [.func (.func fh) #[] #[u]] 107, ρ] [BlkR bg [is vg] 103, Own leaseR 97 vg gone] (γ := Value) (fun v' => is (.int .i64 (if ix p xs < xs.length then (ix p xs : Int) else -1))) (fun v' => [BlkR bg [is v'] 103, Own leaseR 97 v' (goneI p xs gone)]) := by
  refine FnG.mk' Try.func167 T.nm167 rfl (N := 19) rfl rfl (t := 5) rfl fun B => ?_
  refine Tr.seq ?_
  refine Tr.region ?_
  refine TrL.stepS 4 (.plain rfl (.assign rfl (.of rfl))) rfl rfl ?_
  refine TrL.nil ?_
  refine Fin.keepG (Γ' := [(0, _), (1, _)]) (.same rfl (.same rfl .nil)) ?_
  refine Fin.next ?_
  refine Tr.seq ?_
  refine Tr.seq ?_
  refine Tr.region ?_
  refine TrL.stepS 6 (.plain rfl (.move rfl (.of rfl))) rfl rfl ?_
  refine TrL.stepS 7 (.plain rfl (.lenV 2 rfl (.of rfl) rfl View.refl rfl Try.underlying103)) rfl rfl ?_
  refine TrL.stepS 8 (.plain rfl (.move rfl (.of rfl))) rfl rfl ?_
  refine TrL.nil ?_
  refine Fin.keepG (Γ' := [(0, _), (1, _), (7, _), (8, _)]) (.same rfl (.same rfl (.same rfl (.same rfl .nil)))) ?_
  refine Fin.next ?_
  refine Tr.block ?_
  refine Tr.loopK (γ := Nat × Value) (Γk := [(0, _), (1, _), (7, _)]) (Mk := [(2, _), (3, _), (4, _)]) (.same rfl (.same rfl (.same rfl .nil))) (.same rfl (.same rfl (.same rfl .nil))) (fun gp => gp.1 ≤ xs.length ∧ ∀ y ∈ xs.take gp.1, p y = false) (fun gp => fun r => (5, BlkR bg [is gp.2] 103) :: (6, Own leaseR 97 gp.2 gone) :: r) (fun gp => fun r => (8, is (.int .i64 gp.1)) :: r) (fun gp => xs.length - gp.1) ((0, vg)) ?h0_0 ?hM_0 ?hG_0 ?hl_0
  case h0_0 => exact ⟨Nat.zero_le _, by simp⟩
  case hM_0 => exact (.same rfl (.same rfl (.same rfl (.same rfl (.same rfl .nil)))))
  case hG_0 => exact (.eq rfl (by first | rfl | (congr 1; first | done | omega | (push_cast; omega) | (push_cast; rfl))) (.same rfl (.same rfl (.same rfl .nil))))
  case hl_0 =>
    intro p hI
    obtain ⟨k, v'⟩ := p
    dsimp only at hI ⊢
    refine Tr.seq ?_
    refine Tr.region ?_
    refine TrL.stepS 9 (.plain rfl (.lss rfl (.of rfl) (.of rfl))) rfl rfl ?_
    refine TrL.nil ?_
    refine Fin.next ?_
    refine Tr.seq ?_
    refine Tr.cond rfl (fun hb0 => ?_) (fun hb0 => ?_)
    · try simp only [decide_eq_true_eq, decide_eq_false_iff_not, beq_iff_eq, beq_eq_false_iff_ne, bne_iff_ne, bne_eq_false_iff_eq, Bool.and_eq_true, Bool.and_eq_false_iff, Bool.or_eq_true, Bool.or_eq_false_iff, Bool.not_eq_true', Bool.not_eq_false', gt_iff_lt, ge_iff_le, Int.not_lt, Int.not_le, ne_eq, Int.natCast_nonneg, true_and, and_true, Decidable.not_not, not_true_eq_false, not_false_eq_true] at hb0
      obtain ⟨x, hx⟩ := ex_get (xs := xs) (i := k) (by omega)
      refine Tr.skip ?_
      refine Fin.next ?_
      refine Tr.seq ?_
      refine Tr.block ?_
      refine Tr.seq ?_
      refine Tr.region ?_
      refine TrL.stepS 10 (.plain rfl (.move rfl (.of rfl))) rfl rfl ?_
      refine TrL.stepS 5 (.plain rfl (.assign rfl (.of rfl))) rfl rfl ?_
      refine TrL.nil ?_
      refine Fin.keepG (Γ' := [(0, _), (1, _), (5, _), (7, _), (8, _)]) (.same rfl (.same rfl (.same rfl (.same rfl (.same rfl .nil))))) ?_
      refine Fin.next ?_
      refine Tr.seq ?_
      refine Tr.region ?_
      refine TrL.stepS 11 (.plain rfl (.move rfl (.of rfl))) rfl rfl ?_
      refine TrL.stepS 12 (.plain rfl (.move rfl (.of rfl))) rfl rfl ?_
      refine TrL.stepS 13 (.plain rfl (.move rfl (.of rfl))) rfl rfl ?_
      refine TrL.stepS 14 (.plain rfl (.indexN 2 (k) rfl (.of rfl) (.of rfl) rfl View.refl rfl Try.underlying103 T.sz97 (by omega) (hx))) rfl rfl ?_
      refine TrL.stepS 15 (.plain rfl (.loadWV 2 (k) 0 5 (ds := [_, _, _, _, _]) rfl (.of rfl) rfl View.refl rfl (hx) rfl rfl T.ag97)) rfl rfl ?_
      refine TrL.callGv (first := []) (caps := [_, _]) [3, 4] [5, 6] [5, 6] rfl rfl 16 rfl rfl (.of rfl) (F170 p fh u ρ hh bh bg v' gone hgl x) (.cons (.of rfl) .nil) (.same rfl (.same rfl (.same rfl (.same rfl .nil)))) rfl rfl (fun _ => rfl) fun v2 => ?_
      refine TrL.nil ?_
      refine Fin.keepG (Γ' := [(0, _), (1, _), (5, _), (7, _), (8, _), (16, _)]) (.same rfl (.same rfl (.same rfl (.same rfl (.same rfl (.same rfl .nil)))))) ?_
      refine Fin.next ?_
      refine Tr.cond rfl (fun hb1 => ?_) (fun hb1 => ?_)
      · try simp only [decide_eq_true_eq, decide_eq_false_iff_not, beq_iff_eq, beq_eq_false_iff_ne, bne_iff_ne, bne_eq_false_iff_eq, Bool.and_eq_true, Bool.and_eq_false_iff, Bool.or_eq_true, Bool.or_eq_false_iff, Bool.not_eq_true', Bool.not_eq_false', gt_iff_lt, ge_iff_le, Int.not_lt, Int.not_le, ne_eq, Int.natCast_nonneg, true_and, and_true, Decidable.not_not, not_true_eq_false, not_false_eq_true] at hb1
        have hi := ix_here hx hb1 hI.2
        have hgI : goneI p xs gone = gone ++ [x] := by unfold goneI; rw [hi, if_pos (getL_len hx), getD_of hx]
        refine Tr.seq ?_
        refine Tr.region ?_
        refine TrL.stepS 17 (.plain rfl (.move rfl (.of rfl))) rfl rfl ?_
        refine TrL.stepS 4 (.plain rfl (.assign rfl (.of rfl))) rfl rfl ?_
        refine TrL.nil ?_
        refine Fin.keepG (Γ' := [(4, _)]) (.same rfl .nil) ?_
        refine Fin.next ?_
        refine Tr.ret ?_
        refine Fin.blockRet ?_
        refine Fin.thenRet ?_
        refine Fin.thenRet ?_
        refine Fin.blockRet ?_
        refine Fin.thenRet ?_
        refine Fin.retGI 5 rfl (v2) [5, 6] (rs := [_]) rfl (.cons (.tmp rfl) .nil) (.cons (L.iv ?_) .nil) rfl (.same rfl (.cons rfl (fun F L w h => by rw [hgI]; rw [if_pos hb1] at h; exact h) .nil)) rfl
        · rw [hi, if_pos (getL_len hx)]
      · try simp only [decide_eq_true_eq, decide_eq_false_iff_not, beq_iff_eq, beq_eq_false_iff_ne, bne_iff_ne, bne_eq_false_iff_eq, Bool.and_eq_true, Bool.and_eq_false_iff, Bool.or_eq_true, Bool.or_eq_false_iff, Bool.not_eq_true', Bool.not_eq_false', gt_iff_lt, ge_iff_le, Int.not_lt, Int.not_le, ne_eq, Int.natCast_nonneg, true_and, and_true, Decidable.not_not, not_true_eq_false, not_false_eq_true] at hb1
        refine Tr.skip ?_
        refine Fin.blockNormal ?_
        refine Fin.next ?_
        refine Tr.region ?_
        first | refine TrL.stepS 18 (.plain rfl (.addI L.bd_i64 rfl (.of rfl) (.of rfl) (by omega) (by omega))) rfl rfl ?_ | refine TrL.stepS 18 (.plain rfl (.add rfl (.of rfl) (.of rfl))) rfl rfl ?_
        refine TrL.stepS 8 (.plain rfl (.move rfl (.of rfl))) rfl rfl ?_
        refine TrL.nil ?_
        refine Fin.keepG (Γ' := [(0, _), (1, _), (7, _), (8, _)]) (.same rfl (.same rfl (.same rfl (.same rfl .nil)))) ?_
        exact Fin.again ((k + 1, v2)) (⟨by dsimp only; omega, fun y hy => by dsimp only at hy; rw [take_snoc hx, List.mem_append] at hy; rcases hy with hy | hy; exact hI.2 y hy; simp only [List.mem_singleton] at hy; subst hy; simpa using hb1⟩) (by dsimp only; omega) (.same rfl (.cons rfl (fun F L w h => by rw [if_neg (by simp [hb1])] at h; exact h) (.same rfl (.same rfl (.same rfl .nil))))) (.eq rfl (by first | rfl | (congr 1; first | done | omega | (push_cast; omega) | (push_cast; rfl))) (.same rfl (.same rfl (.same rfl .nil))))
    · try simp only [decide_eq_true_eq, decide_eq_false_iff_not, beq_iff_eq, beq_eq_false_iff_ne, bne_iff_ne, bne_eq_false_iff_eq, Bool.and_eq_true, Bool.and_eq_false_iff, Bool.or_eq_true, Bool.or_eq_false_iff, Bool.not_eq_true', Bool.not_eq_false', gt_iff_lt, ge_iff_le, Int.not_lt, Int.not_le, ne_eq, Int.natCast_nonneg, true_and, and_true, Decidable.not_not, not_true_eq_false, not_false_eq_true] at hb0
      have hi := ix_none (p := p) (rows := xs) (fun y hy => hI.2 y (by rw [List.take_of_length_le (by omega)]; exact hy))
      have hgI : goneI p xs gone = gone := by unfold goneI; rw [if_neg (by omega)]
      refine Tr.exit ?_
      refine Fin.thenExit ?_
      refine Fin.thenExit ?_
      refine Fin.blockOut ?_
      refine Fin.next ?_
      refine Tr.seq ?_
      refine Tr.region ?_
      refine TrL.stepS 4 (.plain rfl (.assign rfl (.of rfl))) rfl rfl ?_
      refine TrL.nil ?_
      refine Fin.keepG (Γ' := [(4, _)]) (.same rfl .nil) ?_
      refine Fin.next ?_
      refine Tr.ret ?_
      refine Fin.retGI 5 rfl (v') [5, 6] (rs := [_]) rfl (.cons (.tmp rfl) .nil) (.cons (L.iv ?_) .nil) rfl (.same rfl (.cons rfl (fun F L w h => by rw [hgI]; exact h) .nil)) rfl
      · rw [hi, if_neg (by omega)]

/- slices.DeleteFunc[[]tidepool/lease.Lease,tidepool/lease.Lease] -/
set_option maxRecDepth 100000 in
theorem F169 (p : Ls → Bool) (fh : FuncId) (u : Value) (ρ : RP) (hh : ∀ x, FnR Try.prog fh [is (.agg #[.int .u64 x.1, .int .i64 x.2.1, .int .u64 x.2.2.1, .int .u64 x.2.2.2.1, .bool x.2.2.2.2]), is u] [ρ] (is (.bool (p x)))) (bh bg : Nat) (vg : Value) (gone : List Ls) (hgl : gone.length ≤ 1000) (v : Value) (xs : List Ls) (hl : xs.length ≤ 500) (hg2 : gone.length ≤ 500) : FnG Try.prog 169 [is v, is (.func (.func 170) #[] #[.pointer (some ⟨bh, 0, none⟩), .pointer (some ⟨bg, 0, none⟩)])] [Blk bh [.func (.func fh) #[] #[u]] 107, ρ] [Own leaseR 97 v xs, BlkR bg [is vg] 103, Own leaseR 97 vg gone] (γ := Value × Value) (fun g => is g.1) (fun g => [Own leaseR 97 g.1 (xs.filter fun x => !p x), BlkR bg [is g.2] 103, Own leaseR 97 g.2 (gone ++ xs.filter p)]) := by
  refine FnG.mk' Try.func169 T.nm169 rfl (N := 42) rfl rfl (t := 4) rfl fun B => ?_
  refine Tr.seq ?_
  refine Tr.region ?_
  refine TrL.stepS 4 (.plain rfl (.assign rfl (.of rfl))) rfl rfl ?_
  refine TrL.nil ?_
  refine Fin.keepG (Γ' := [(0, _), (1, _)]) (.same rfl (.same rfl .nil)) ?_
  refine Fin.next ?_
  refine Tr.seq ?_
  refine Tr.region ?_
  refine TrL.stepS 8 (.plain rfl (.move rfl (.of rfl))) rfl rfl ?_
  refine TrL.stepS 9 (.plain rfl (.move rfl (.of rfl))) rfl rfl ?_
  refine TrL.callG [4, 2, 3] [5, 6] [5, 6] rfl rfl 10 rfl rfl (F167b p fh u ρ hh bh bg vg gone hgl v xs hl hg2) (.cons (.of rfl) (.cons (.of rfl) .nil)) (.cons rfl L.Own.view (.same rfl (.same rfl (.same rfl (.same rfl .nil))))) rfl rfl (fun _ => rfl) fun v1 => ?_
  refine TrL.stepS 5 (.plain rfl (.assign rfl (.of rfl))) rfl rfl ?_
  refine TrL.nil ?_
  refine Fin.keepG (Γ' := [(0, _), (1, _), (5, _)]) (.same rfl (.same rfl (.same rfl .nil))) ?_
  refine Fin.next ?_
  refine Tr.seq ?_
  refine Tr.seq ?_
  refine Tr.region ?_
  refine TrL.stepS 11 (.plain rfl (.move rfl (.of rfl))) rfl rfl ?_
  refine TrL.stepS 12 (.plain rfl (.eql rfl (.of rfl) (.of rfl))) rfl rfl ?_
  refine TrL.nil ?_
  refine Fin.keepG (Γ' := [(0, _), (1, _), (5, _), (12, _)]) (.same rfl (.same rfl (.same rfl (.same rfl .nil)))) ?_
  refine Fin.next ?_
  refine Tr.cond rfl (fun hb0 => ?_) (fun hb0 => ?_)
  · try simp only [decide_eq_true_eq, decide_eq_false_iff_not, beq_iff_eq, beq_eq_false_iff_ne, bne_iff_ne, bne_eq_false_iff_eq, Bool.and_eq_true, Bool.and_eq_false_iff, Bool.or_eq_true, Bool.or_eq_false_iff, Bool.not_eq_true', Bool.not_eq_false', gt_iff_lt, ge_iff_le, Int.not_lt, Int.not_le, ne_eq, Int.natCast_nonneg, true_and, and_true, Decidable.not_not, not_true_eq_false, not_false_eq_true] at hb0
    have hi : ix p xs = xs.length := by
      have := ix_le p xs
      by_cases h : ix p xs < xs.length
      · rw [if_pos h] at hb0; omega
      · omega
    have hff := filter_none hi
    have hgI : goneI p xs gone = gone := by unfold goneI; rw [if_neg (by omega)]
    refine Tr.seq ?_
    refine Tr.region ?_
    refine TrL.stepS 13 (.plain rfl (.move rfl (.of rfl))) rfl rfl ?_
    refine TrL.stepS 4 (.plain rfl (.assign rfl (.of rfl))) rfl rfl ?_
    refine TrL.nil ?_
    refine Fin.keepG (Γ' := [(4, _)]) (.same rfl .nil) ?_
    refine Fin.next ?_
    refine Tr.ret ?_
    refine Fin.thenRet ?_
    exact Fin.retGI 4 rfl ((v, v1)) [4, 5, 6] (rs := [_]) rfl (.cons (.tmp rfl) .nil) (.cons (L.iv rfl) .nil) rfl (.cons rfl (fun F L w h => by rw [hff.2]; exact h) (.same rfl (.cons rfl (fun F L w h => by rw [hff.1, List.append_nil]; rw [hgI] at h; exact h) .nil))) rfl
  · try simp only [decide_eq_true_eq, decide_eq_false_iff_not, beq_iff_eq, beq_eq_false_iff_ne, bne_iff_ne, bne_eq_false_iff_eq, Bool.and_eq_true, Bool.and_eq_false_iff, Bool.or_eq_true, Bool.or_eq_false_iff, Bool.not_eq_true', Bool.not_eq_false', gt_iff_lt, ge_iff_le, Int.not_lt, Int.not_le, ne_eq, Int.natCast_nonneg, true_and, and_true, Decidable.not_not, not_true_eq_false, not_false_eq_true] at hb0
    have hlt : ix p xs < xs.length := by
      by_cases h : ix p xs < xs.length
      · exact h
      · rw [if_neg h] at hb0; omega
    obtain ⟨y, hy, hpy⟩ := ix_get hlt
    have hff := filter_first hy hpy
    have hgI : goneI p xs gone = gone ++ [y] := by unfold goneI; rw [if_pos hlt, getD_of hy]
    rw [if_pos hlt]
    refine Tr.skip ?_
    refine Fin.next ?_
    refine Tr.seq ?_
    refine Tr.seq ?_
    refine Tr.region ?_
    refine TrL.stepS 14 (.plain rfl (.move rfl (.of rfl))) rfl rfl ?_
    refine TrL.stepS 15 (.plain rfl (.addI L.bd_i64 rfl (.of rfl) (.of rfl) (by omega) (by omega))) rfl rfl ?_
    refine TrL.stepS 6 (.plain rfl (.assign rfl (.of rfl))) rfl rfl ?_
    refine TrL.nil ?_
    refine Fin.keepG (Γ' := [(0, _), (1, _), (5, _), (6, _)]) (.same rfl (.same rfl (.same rfl (.same rfl .nil)))) ?_
    refine Fin.next ?_
    refine Tr.block ?_
    refine Tr.loopK (γ := Nat × Nat × List Ls × Value) (Γk := [(0, _), (1, _)]) (Mk := [(2, _), (3, _)]) (.same rfl (.same rfl .nil)) (.same rfl (.same rfl .nil)) (fun gp => (gp.2.1 < gp.1 ∧ gp.1 ≤ xs.length) ∧ gp.2.1 = ((xs.take gp.1).filter fun x => !p x).length ∧ gp.2.2.1.length = xs.length ∧ gp.2.2.1.take gp.2.1 = ((xs.take gp.1).filter fun x => !p x) ∧ gp.2.2.1.drop gp.1 = xs.drop gp.1) (fun gp => fun r => (4, Own leaseR 97 v gp.2.2.1) :: (5, BlkR bg [is gp.2.2.2] 103) :: (6, Own leaseR 97 gp.2.2.2 (gone ++ (xs.take gp.1).filter p)) :: r) (fun gp => fun r => (5, is (.int .i64 gp.2.1)) :: (6, is (.int .i64 gp.1)) :: r) (fun gp => xs.length - gp.1) ((ix p xs + 1, ix p xs, xs, v1)) ?h0_0 ?hM_0 ?hG_0 ?hl_0
    case h0_0 => exact ⟨⟨Nat.lt_succ_self _, by dsimp only; omega⟩, by dsimp only; rw [hff.2, List.length_take]; omega, rfl, by dsimp only; rw [hff.2], rfl⟩
    case hM_0 => exact (.same rfl (.same rfl (.cons rfl (fun F L w h => by dsimp only; rw [hff.1]; rw [hgI] at h; exact h) (.same rfl (.same rfl .nil)))))
    case hG_0 => exact (.eq rfl (by first | rfl | (congr 1; first | done | omega | (push_cast; omega) | (push_cast; rfl))) (.eq rfl (by first | rfl | (congr 1; first | done | omega | (push_cast; omega) | (push_cast; rfl))) (.same rfl (.same rfl .nil))))
    case hl_0 =>
      intro p hI
      obtain ⟨j, i, es, v2⟩ := p
      dsimp only at hI ⊢
      refine Tr.seq ?_
      refine Tr.seq ?_
      refine Tr.region ?_
      refine TrL.stepS 16 (.plain rfl (.move rfl (.of rfl))) rfl rfl ?_
      refine TrL.stepS 17 (.plain rfl (.move rfl (.of rfl))) rfl rfl ?_
      refine TrL.stepS 18 (.plain rfl (.lenV 4 rfl (.of rfl) rfl Own.view rfl Try.underlying103)) rfl rfl ?_
      refine TrL.stepS 19 (.plain rfl (.lss rfl (.of rfl) (.of rfl))) rfl rfl ?_
      refine TrL.nil ?_
      refine Fin.keepG (Γ' := [(0, _), (1, _), (5, _), (6, _), (19, _)]) (.same rfl (.same rfl (.same rfl (.same rfl (.same rfl .nil))))) ?_
      refine Fin.next ?_
      refine Tr.cond rfl (fun hb1 => ?_) (fun hb1 => ?_)
      · try simp only [decide_eq_true_eq, decide_eq_false_iff_not, beq_iff_eq, beq_eq_false_iff_ne, bne_iff_ne, bne_eq_false_iff_eq, Bool.and_eq_true, Bool.and_eq_false_iff, Bool.or_eq_true, Bool.or_eq_false_iff, Bool.not_eq_true', Bool.not_eq_false', gt_iff_lt, ge_iff_le, Int.not_lt, Int.not_le, ne_eq, Int.natCast_nonneg, true_and, and_true, Decidable.not_not, not_true_eq_false, not_false_eq_true] at hb1
        obtain ⟨x, hx⟩ := ex_get (xs := xs) (i := j) (by omega)
        have hex : es[j]? = some x := by have := drop_of_drop hI.2.2.2.2 (i := 0); simpa [hx] using this
        refine Tr.skip ?_
        refine Fin.next ?_
        refine Tr.seq ?_
        refine Tr.block ?_
        refine Tr.seq ?_
        refine Tr.region ?_
        refine TrL.stepS 22 (.plain rfl (.move rfl (.of rfl))) rfl rfl ?_
        refine TrL.stepS 23 (.plain rfl (.move rfl (.of rfl))) rfl rfl ?_
        refine TrL.stepS 24 (.plain rfl (.indexN 4 (j) rfl (.of rfl) (.of rfl) rfl Own.view rfl Try.underlying103 T.sz97 (by omega) (hex))) rfl rfl ?_
        refine TrL.stepS 25 (.plain rfl (.loadWV 4 (j) 0 5 (ds := [_, _, _, _, _]) rfl (.of rfl) rfl Own.view rfl (hex) rfl rfl T.ag97)) rfl rfl ?_
        refine TrL.allocS 20 (zs := [.int .u64 0, .int .i64 0, .int .u64 0, .int .u64 0, .bool false]) rfl rfl (by kernel_rfl) 7 rfl rfl rfl fun b20 => ?_
        refine TrL.storeW 20 (vs := [_, _, _, _, _]) rfl rfl rfl (.of rfl) (.of rfl) rfl rfl T.sz97 rfl rfl ?_
        refine TrL.nil ?_
        refine Fin.keepG (Γ' := [(0, _), (1, _), (5, _), (6, _), (7, _)]) (.same rfl (.same rfl (.same rfl (.same rfl (.same rfl .nil))))) ?_
        refine Fin.next ?_
        refine Tr.seq ?_
        refine Tr.region ?_
        refine TrL.stepS 26 (.plain rfl (.move rfl (.of rfl))) rfl rfl ?_
        refine TrL.stepS 27 (.plain rfl (.loadBN 20 (k := 5) (ds := [_, _, _, _, _]) rfl (.of rfl) rfl rfl rfl T.ag97 rfl)) rfl rfl ?_
        refine TrL.callGv (first := []) (caps := [_, _]) [2, 3] [5, 6] [5, 6] rfl rfl 28 rfl rfl (.of rfl) (F170 p fh u ρ hh bh bg v2 _ (by rw [List.length_append]; have := List.length_filter_le p (xs.take j); rw [List.length_take] at this; omega) x) (.cons (.of rfl) .nil) (.same rfl (.same rfl (.same rfl (.same rfl .nil)))) rfl rfl (fun _ => rfl) fun v3 => ?_
        refine TrL.stepS 29 (.plain rfl (.not rfl (.of rfl))) rfl rfl ?_
        refine TrL.nil ?_
        refine Fin.keepG (Γ' := [(0, _), (1, _), (5, _), (6, _), (7, _), (29, _)]) (.same rfl (.same rfl (.same rfl (.same rfl (.same rfl (.same rfl .nil)))))) ?_
        refine Fin.next ?_
        refine Tr.cond rfl (fun hb2 => ?_) (fun hb2 => ?_)
        · try simp only [decide_eq_true_eq, decide_eq_false_iff_not, beq_iff_eq, beq_eq_false_iff_ne, bne_iff_ne, bne_eq_false_iff_eq, Bool.and_eq_true, Bool.and_eq_false_iff, Bool.or_eq_true, Bool.or_eq_false_iff, Bool.not_eq_true', Bool.not_eq_false', gt_iff_lt, ge_iff_le, Int.not_lt, Int.not_le, ne_eq, Int.natCast_nonneg, true_and, and_true, Decidable.not_not, not_true_eq_false, not_false_eq_true] at hb2
          refine Tr.seq ?_
          refine Tr.region ?_
          refine TrL.stepS 30 (.plain rfl (.move rfl (.of rfl))) rfl rfl ?_
          refine TrL.stepS 31 (.plain rfl (.move rfl (.of rfl))) rfl rfl ?_
          refine TrL.stepS 32 (.plain rfl (.loadBN 20 (k := 5) (ds := [_, _, _, _, _]) rfl (.of rfl) rfl rfl rfl T.ag97 rfl)) rfl rfl ?_
          refine TrL.stepS 33 (.plain rfl (.indexN 4 (i) rfl (.of rfl) (.of rfl) rfl Own.view rfl Try.underlying103 T.sz97 (by omega) (List.getElem?_eq_getElem (show i < es.length by omega)))) rfl rfl ?_
          refine TrL.storeO 4 (i) 0 (z' := x) rfl rfl rfl (.of rfl) (.of rfl) (L.hRis (cs := [_, _, _, _, _]) rfl) rfl rfl (List.getElem?_eq_getElem (show i < es.length by omega)) rfl rfl T.sz97 ?_
          refine TrL.nil ?_
          refine Fin.keepG (Γ' := [(0, _), (1, _), (5, _), (6, _)]) (.same rfl (.same rfl (.same rfl (.same rfl .nil)))) ?_
          refine Fin.next ?_
          refine Tr.region ?_
          refine TrL.stepS 34 (.plain rfl (.move rfl (.of rfl))) rfl rfl ?_
          refine TrL.stepS 35 (.plain rfl (.addI L.bd_i64 rfl (.of rfl) (.of rfl) (by omega) (by omega))) rfl rfl ?_
          refine TrL.stepS 5 (.plain rfl (.assign rfl (.of rfl))) rfl rfl ?_
          refine TrL.nil ?_
          refine Fin.keepG (Γ' := [(0, _), (1, _), (5, _), (6, _)]) (.same rfl (.same rfl (.same rfl (.same rfl .nil)))) ?_
          refine Fin.blockNormal ?_
          refine Fin.next ?_
          refine Tr.region ?_
          refine TrL.stepS 20 (.plain rfl (.move rfl (.of rfl))) rfl rfl ?_
          refine TrL.stepS 21 (.plain rfl (.addI L.bd_i64 rfl (.of rfl) (.of rfl) (by omega) (by omega))) rfl rfl ?_
          refine TrL.stepS 6 (.plain rfl (.assign rfl (.of rfl))) rfl rfl ?_
          refine TrL.nil ?_
          refine Fin.keepG (Γ' := [(0, _), (1, _), (5, _), (6, _)]) (.same rfl (.same rfl (.same rfl (.same rfl .nil)))) ?_
          exact Fin.again ((j + 1, i + 1, es.set i x, v3)) (⟨by dsimp only; omega, by dsimp only; rw [filter_take hx, hb2]; simp; omega, by simpa using hI.2.2.1, by dsimp only; rw [take_set (by omega), filter_take hx, hb2, hI.2.2.2.1]; simp, by dsimp only; rw [drop_set (by omega)]; exact drop_step hI.2.2.2.2⟩) (by dsimp only; omega) (.same rfl (.same rfl (.cons rfl (fun F L w h => by dsimp only; rw [filter_take hx, hb2]; rw [if_neg (by simp [hb2])] at h; simpa using h) (.same rfl (.same rfl .nil))))) (.eq rfl (by first | rfl | (congr 1; first | done | omega | (push_cast; omega) | (push_cast; rfl))) (.eq rfl (by first | rfl | (congr 1; first | done | omega | (push_cast; omega) | (push_cast; rfl))) (.same rfl (.same rfl .nil))))
        · try simp only [decide_eq_true_eq, decide_eq_false_iff_not, beq_iff_eq, beq_eq_false_iff_ne, bne_iff_ne, bne_eq_false_iff_eq, Bool.and_eq_true, Bool.and_eq_false_iff, Bool.or_eq_true, Bool.or_eq_false_iff, Bool.not_eq_true', Bool.not_eq_false', gt_iff_lt, ge_iff_le, Int.not_lt, Int.not_le, ne_eq, Int.natCast_nonneg, true_and, and_true, Decidable.not_not, not_true_eq_false, not_false_eq_true] at hb2
          refine Tr.skip ?_
          refine Fin.blockNormal ?_
          refine Fin.next ?_
          refine Tr.region ?_
          refine TrL.stepS 20 (.plain rfl (.move rfl (.of rfl))) rfl rfl ?_
          refine TrL.stepS 21 (.plain rfl (.addI L.bd_i64 rfl (.of rfl) (.of rfl) (by omega) (by omega))) rfl rfl ?_
          refine TrL.stepS 6 (.plain rfl (.assign rfl (.of rfl))) rfl rfl ?_
          refine TrL.nil ?_
          refine Fin.keepG (Γ' := [(0, _), (1, _), (5, _), (6, _)]) (.same rfl (.same rfl (.same rfl (.same rfl .nil)))) ?_
          exact Fin.again ((j + 1, i, es, v3)) (⟨by dsimp only; omega, by dsimp only; rw [filter_take hx, hb2]; simp; omega, hI.2.2.1, by dsimp only; rw [filter_take hx, hb2, hI.2.2.2.1]; simp, drop_step hI.2.2.2.2⟩) (by dsimp only; omega) (.same rfl (.same rfl (.cons rfl (fun F L w h => by dsimp only; rw [filter_take hx, hb2]; rw [if_pos hb2] at h; simpa [List.append_assoc] using h) (.same rfl (.same rfl .nil))))) (.eq rfl (by first | rfl | (congr 1; first | done | omega | (push_cast; omega) | (push_cast; rfl))) (.eq rfl (by first | rfl | (congr 1; first | done | omega | (push_cast; omega) | (push_cast; rfl))) (.same rfl (.same rfl .nil))))
      · try simp only [decide_eq_true_eq, decide_eq_false_iff_not, beq_iff_eq, beq_eq_false_iff_ne, bne_iff_ne, bne_eq_false_iff_eq, Bool.and_eq_true, Bool.and_eq_false_iff, Bool.or_eq_true, Bool.or_eq_false_iff, Bool.not_eq_true', Bool.not_eq_false', gt_iff_lt, ge_iff_le, Int.not_lt, Int.not_le, ne_eq, Int.natCast_nonneg, true_and, and_true, Decidable.not_not, not_true_eq_false, not_false_eq_true] at hb1
        have hj : j = xs.length := by omega
        subst hj
        rw [List.take_length]
        have hes := hI.2.2.2.1
        rw [List.take_length] at hes
        refine Tr.memP 4 rfl rfl own_form fun hf => ?_
        rw [hI.2.2.1] at hf
        refine Tr.exit ?_
        refine Fin.thenExit ?_
        refine Fin.thenExit ?_
        refine Fin.blockOut ?_
        refine Fin.next ?_
        refine Tr.seq ?_
        refine Tr.region ?_
        refine TrL.stepS 36 (.plain rfl (.move rfl (.of rfl))) rfl rfl ?_
        refine TrL.stepS 37 (.plain rfl (.move rfl (.of rfl))) rfl rfl ?_
        refine TrL.stepS 38 (.plain rfl (OpM.eqV (v := partV v i es.length leaseR.n) (OpM.suffix (K := leaseR) i rfl (.of rfl) (.of rfl) Try.underlying103 T.sz97 rfl hf (by omega)) (by rw [hI.2.2.1]))) rfl rfl ?_
        refine TrL.clearP 4 (i) (bytes := 40) rfl rfl rfl (.of rfl) rfl rfl Try.underlying103 T.el97 (by kernel_rfl) (by omega) ?_
        refine TrL.nil ?_
        refine Fin.keepG (Γ' := [(0, _), (5, _)]) (.same rfl (.same rfl .nil)) ?_
        refine Fin.next ?_
        refine Tr.seq ?_
        refine Tr.region ?_
        refine TrL.stepS 39 (.plain rfl (.move rfl (.of rfl))) rfl rfl ?_
        refine TrL.stepS 40 (.plain rfl (.move rfl (.of rfl))) rfl rfl ?_
        refine TrL.stepS 41 (.plain rfl (OpM.prefR (K := leaseR) i rfl (.of rfl) (.of rfl) Try.underlying103 T.sz97 rfl hf (by omega))) rfl rfl ?_
        refine TrL.stepS 4 (.plain rfl (.assign rfl (.of rfl))) rfl rfl ?_
        refine TrL.nil ?_
        refine Fin.keepG (Γ' := [(4, _)]) (.same rfl .nil) ?_
        refine Fin.next ?_
        refine Tr.ret ?_
        exact Fin.retGI 4 rfl ((prefV v i, v2)) [4, 5, 6] (rs := [_]) rfl (.cons (.tmp rfl) .nil) (.cons (L.iv rfl) .nil) rfl (.cons rfl (fun F L w h => by rw [← hes]; exact h) (.same rfl (.same rfl .nil))) rfl

end Go.Proofs.Ytemkogoclljhpaa