import Derived.Test.YtemkogoclljhpaaLT
import Derived.Test.YtemkogoclljhpaaLV
namespace Go.Proofs.Ytemkogoclljhpaa
open Go Go.Proofs.Ytemkogoclljhpaa.L
set_option linter.unusedVariables false
set_option linter.unusedSimpArgs false

namespace T

end T


def handP : PRep (Int × Int) := ⟨2, fun x => [.int .i64 x.1, .int .i64 x.2], fun _ => rfl, fun _ => rfl, by decide, (0, 0)⟩
def handR : Rep (Int × Int) := handP.rep
theorem handR_elem (a b : Int) : ∀ v w, is (.agg #[.int .i64 a, .int .i64 b]) v w → ElemV handR (a, b) v w := by
  rintro v w rfl
  exact .cons rfl (.cons rfl .nil)
theorem ex_get {α : Type} {xs : List α} {i : Nat} (h : i < xs.length) : ∃ x, xs[i]? = some x := ⟨_, List.getElem?_eq_getElem h⟩
theorem take_snoc {α : Type} {xs : List α} {k : Nat} {x : α} (h : xs[k]? = some x) : xs.take (k + 1) = xs.take k ++ [x] := by
  have hk := getL_len h
  rw [List.take_succ_eq_append_getElem hk]
  rw [List.getElem?_eq_getElem hk] at h
  simp only [Option.some.injEq] at h
  rw [h]
theorem getD_of {α : Type} {xs : List α} {k : Nat} {x d : α} (h : xs[k]? = some x) : xs.getD k d = x := by rw [List.getD_eq_getElem?_getD, h]; rfl
abbrev Nd := Bool × List ByteArray × List (Int × Int) × List Int
def zN : Nd := (false, [], [], [])
def okN (x : Nd) : Prop := x.2.1.length ≤ 1000 ∧ x.2.2.1.length ≤ 1000 ∧ x.2.2.2.length ≤ 1000

/- slices.Equal[[]string,string] -/
set_option maxRecDepth 100000 in
theorem F122 (xs ys : List ByteArray) (hx0 : xs.length ≤ 1048576) (hy0 : ys.length ≤ 1048576) : FnP Try.prog 122 [Lst strR xs, Lst strR ys] (is (.bool (decide (xs = ys)))) := by
  refine FnP.mk' Try.func122 T.nm122 rfl (N := 26) rfl rfl fun B hB hκ => ?_
  refine Tr.seq ?_
  refine Tr.region ?_
  refine TrL.stepS 4 (.plain rfl (.assign rfl (.of rfl))) rfl rfl ?_
  refine TrL.nil ?_
  refine Fin.keepG (Γ' := [(0, _), (1, _)]) (.same rfl (.same rfl .nil)) ?_
  refine Fin.next ?_
  refine Tr.seq ?_
  refine Tr.seq ?_
  refine Tr.region ?_
  refine TrL.stepS 6 (.plain rfl (.move rfl (.of rfl))) rfl rfl ?_
  refine TrL.stepS 7 (.plain rfl (.len rfl (.of rfl) Try.underlying77)) rfl rfl ?_
  refine TrL.stepS 8 (.plain rfl (.move rfl (.of rfl))) rfl rfl ?_
  refine TrL.stepS 9 (.plain rfl (.len rfl (.of rfl) Try.underlying77)) rfl rfl ?_
  refine TrL.stepS 10 (.plain rfl (.neq rfl (.of rfl) (.of rfl))) rfl rfl ?_
  refine TrL.nil ?_
  refine Fin.keepG (Γ' := [(0, _), (1, _), (10, _)]) (.same rfl (.same rfl (.same rfl .nil))) ?_
  refine Fin.next ?_
  refine Tr.cond rfl (fun hb0 => ?_) (fun hb0 => ?_)
  · try simp only [decide_eq_true_eq, decide_eq_false_iff_not, beq_iff_eq, beq_eq_false_iff_ne, bne_iff_ne, bne_eq_false_iff_eq, Bool.and_eq_true, Bool.and_eq_false_iff, Bool.or_eq_true, Bool.or_eq_false_iff, Bool.not_eq_true', Bool.not_eq_false', gt_iff_lt, ge_iff_le, Int.not_lt, Int.not_le, ne_eq, Int.natCast_nonneg, true_and, and_true, Decidable.not_not, not_true_eq_false, not_false_eq_true] at hb0
    refine Tr.seq ?_
    refine Tr.region ?_
    refine TrL.stepS 4 (.plain rfl (.assign rfl (.of rfl))) rfl rfl ?_
    refine TrL.nil ?_
    refine Fin.keepG (Γ' := [(4, _)]) (.same rfl .nil) ?_
    refine Fin.next ?_
    refine Tr.ret ?_
    refine Fin.thenRet ?_
    refine Fin.retI (rs := [_]) (Rs' := [is (.bool (decide (xs = ys)))]) rfl (.cons (.tmp rfl) .nil) (.cons (L.iv ?_) .nil)
    · congr 1; symm; exact decide_eq_false (fun h => by rw [h] at hb0; exact hb0 rfl)
  · try simp only [decide_eq_true_eq, decide_eq_false_iff_not, beq_iff_eq, beq_eq_false_iff_ne, bne_iff_ne, bne_eq_false_iff_eq, Bool.and_eq_true, Bool.and_eq_false_iff, Bool.or_eq_true, Bool.or_eq_false_iff, Bool.not_eq_true', Bool.not_eq_false', gt_iff_lt, ge_iff_le, Int.not_lt, Int.not_le, ne_eq, Int.natCast_nonneg, true_and, and_true, Decidable.not_not, not_true_eq_false, not_false_eq_true] at hb0
    have hle : xs.length = ys.length := by omega
    refine Tr.skip ?_
    refine Fin.next ?_
    refine Tr.seq ?_
    refine Tr.seq ?_
    refine Tr.region ?_
    refine TrL.stepS 11 (.plain rfl (.move rfl (.of rfl))) rfl rfl ?_
    refine TrL.stepS 12 (.plain rfl (.len rfl (.of rfl) Try.underlying77)) rfl rfl ?_
    refine TrL.stepS 13 (.plain rfl (.move rfl (.of rfl))) rfl rfl ?_
    refine TrL.nil ?_
    refine Fin.keepG (Γ' := [(0, _), (1, _), (12, _), (13, _)]) (.same rfl (.same rfl (.same rfl (.same rfl .nil)))) ?_
    refine Fin.next ?_
    refine Tr.block ?_
    refine Tr.loopK (γ := Nat) (Γk := [(0, _), (1, _), (12, _)]) (Mk := []) (.same rfl (.same rfl (.same rfl .nil))) .nil (fun i => i ≤ xs.length ∧ xs.take i = ys.take i) (fun i => fun r => r) (fun i => fun r => (13, is (.int .i64 i)) :: r) (fun i => xs.length - i) (0) ?h0_0 ?hM_0 ?hG_0 ?hl_0
    case h0_0 => exact ⟨Nat.zero_le _, rfl⟩
    case hM_0 => exact .nil
    case hG_0 => exact (.eq rfl (by first | rfl | (congr 1; first | done | omega | (push_cast; omega) | (push_cast; rfl))) (.same rfl (.same rfl (.same rfl .nil))))
    case hl_0 =>
      intro i hI
      obtain ⟨hi, hI⟩ := hI
      refine Tr.seq ?_
      refine Tr.region ?_
      refine TrL.stepS 14 (.plain rfl (.lss rfl (.of rfl) (.of rfl))) rfl rfl ?_
      refine TrL.nil ?_
      refine Fin.next ?_
      refine Tr.seq ?_
      refine Tr.cond rfl (fun hb1 => ?_) (fun hb1 => ?_)
      · try simp only [decide_eq_true_eq, decide_eq_false_iff_not, beq_iff_eq, beq_eq_false_iff_ne, bne_iff_ne, bne_eq_false_iff_eq, Bool.and_eq_true, Bool.and_eq_false_iff, Bool.or_eq_true, Bool.or_eq_false_iff, Bool.not_eq_true', Bool.not_eq_false', gt_iff_lt, ge_iff_le, Int.not_lt, Int.not_le, ne_eq, Int.natCast_nonneg, true_and, and_true, Decidable.not_not, not_true_eq_false, not_false_eq_true] at hb1
        obtain ⟨x, hx⟩ := ex_get (xs := xs) (i := i) (by omega)
        obtain ⟨y, hy⟩ := ex_get (xs := ys) (i := i) (by omega)
        refine Tr.skip ?_
        refine Fin.next ?_
        refine Tr.seq ?_
        refine Tr.block ?_
        refine Tr.seq ?_
        refine Tr.region ?_
        refine TrL.stepS 15 (.plain rfl (.move rfl (.of rfl))) rfl rfl ?_
        refine TrL.stepS 5 (.plain rfl (.assign rfl (.of rfl))) rfl rfl ?_
        refine TrL.nil ?_
        refine Fin.keepG (Γ' := [(0, _), (1, _), (5, _), (12, _), (13, _)]) (.same rfl (.same rfl (.same rfl (.same rfl (.same rfl .nil))))) ?_
        refine Fin.next ?_
        refine Tr.seq ?_
        refine Tr.regionK T.mixed (by kernel_rfl) (by kernel_rfl) ?_
        refine ChainK.consS 16 (.plain rfl (.move rfl (.of rfl))) rfl ?_
        refine ChainK.consS 17 (.plain rfl (.move rfl (.of rfl))) rfl ?_
        refine ChainK.consS 18 (.plain rfl (.indexE rfl (.of rfl) (.of rfl) Try.underlying77 T.sz9 (by omega) hx)) rfl ?_
        refine ChainK.consS 19 (.plain rfl (.load1 rfl (.of rfl) T.sc9)) rfl ?_
        refine ChainK.consS 20 (.plain rfl (.move rfl (.of rfl))) rfl ?_
        refine ChainK.consS 21 (.plain rfl (.move rfl (.of rfl))) rfl ?_
        refine ChainK.consS 22 (.plain rfl (.indexE rfl (.of rfl) (.of rfl) Try.underlying77 T.sz9 (by omega) hy)) rfl ?_
        refine ChainK.consS 23 (.plain rfl (.load1 rfl (.of rfl) T.sc9)) rfl ?_
        refine ChainK.consS 24 (.plain rfl (.neqStr rfl (.of rfl) (.of rfl))) rfl ?_
        refine ChainK.nil ?_
        refine Fin.keepG (Γ' := [(0, _), (1, _), (12, _), (13, _), (24, _)]) (.same rfl (.same rfl (.same rfl (.same rfl (.same rfl .nil))))) ?_
        refine Fin.next ?_
        refine Tr.cond rfl (fun hb2 => ?_) (fun hb2 => ?_)
        · have hr2 := hb2; try simp only [decide_eq_true_eq, decide_eq_false_iff_not, beq_iff_eq, beq_eq_false_iff_ne, bne_iff_ne, bne_eq_false_iff_eq, Bool.and_eq_true, Bool.and_eq_false_iff, Bool.or_eq_true, Bool.or_eq_false_iff, Bool.not_eq_true', Bool.not_eq_false', gt_iff_lt, ge_iff_le, Int.not_lt, Int.not_le, ne_eq, Int.natCast_nonneg, true_and, and_true, Decidable.not_not, not_true_eq_false, not_false_eq_true] at hb2
          have hxy : x ≠ y := by rintro rfl; simp at hr2
          refine Tr.seq ?_
          refine Tr.region ?_
          refine TrL.stepS 4 (.plain rfl (.assign rfl (.of rfl))) rfl rfl ?_
          refine TrL.nil ?_
          refine Fin.keepG (Γ' := [(4, _)]) (.same rfl .nil) ?_
          refine Fin.next ?_
          refine Tr.ret ?_
          refine Fin.blockRet ?_
          refine Fin.thenRet ?_
          refine Fin.thenRet ?_
          refine Fin.blockRet ?_
          refine Fin.thenRet ?_
          refine Fin.retI (rs := [_]) (Rs' := [is (.bool (decide (xs = ys)))]) rfl (.cons (.tmp rfl) .nil) (.cons (L.iv ?_) .nil)
          · congr 1; symm; exact decide_eq_false (fun h => by subst h; rw [hx] at hy; cases hy; exact hxy rfl)
        · have hr2 := hb2; try simp only [decide_eq_true_eq, decide_eq_false_iff_not, beq_iff_eq, beq_eq_false_iff_ne, bne_iff_ne, bne_eq_false_iff_eq, Bool.and_eq_true, Bool.and_eq_false_iff, Bool.or_eq_true, Bool.or_eq_false_iff, Bool.not_eq_true', Bool.not_eq_false', gt_iff_lt, ge_iff_le, Int.not_lt, Int.not_le, ne_eq, Int.natCast_nonneg, true_and, and_true, Decidable.not_not, not_true_eq_false, not_false_eq_true] at hb2
          have hxy : x = y := by
            simpa using hr2
          refine Tr.skip ?_
          refine Fin.blockNormal ?_
          refine Fin.next ?_
          refine Tr.region ?_
          first | refine TrL.stepS 25 (.plain rfl (.addI L.bd_i64 rfl (.of rfl) (.of rfl) (by omega) (by omega))) rfl rfl ?_ | refine TrL.stepS 25 (.plain rfl (.add rfl (.of rfl) (.of rfl))) rfl rfl ?_
          refine TrL.stepS 13 (.plain rfl (.move rfl (.of rfl))) rfl rfl ?_
          refine TrL.nil ?_
          refine Fin.keepG (Γ' := [(0, _), (1, _), (12, _), (13, _)]) (.same rfl (.same rfl (.same rfl (.same rfl .nil)))) ?_
          exact Fin.again (i + 1) (⟨by omega, by rw [take_snoc hx, take_snoc hy, hI, hxy]⟩) (by omega) .nil (.eq rfl (by first | rfl | (congr 1; first | done | omega | (push_cast; omega) | (push_cast; rfl))) (.same rfl (.same rfl (.same rfl .nil))))
      · try simp only [decide_eq_true_eq, decide_eq_false_iff_not, beq_iff_eq, beq_eq_false_iff_ne, bne_iff_ne, bne_eq_false_iff_eq, Bool.and_eq_true, Bool.and_eq_false_iff, Bool.or_eq_true, Bool.or_eq_false_iff, Bool.not_eq_true', Bool.not_eq_false', gt_iff_lt, ge_iff_le, Int.not_lt, Int.not_le, ne_eq, Int.natCast_nonneg, true_and, and_true, Decidable.not_not, not_true_eq_false, not_false_eq_true] at hb1
        refine Tr.exit ?_
        refine Fin.thenExit ?_
        refine Fin.thenExit ?_
        refine Fin.blockOut ?_
        refine Fin.next ?_
        refine Tr.seq ?_
        refine Tr.region ?_
        refine TrL.stepS 4 (.plain rfl (.assign rfl (.of rfl))) rfl rfl ?_
        refine TrL.nil ?_
        refine Fin.keepG (Γ' := [(4, _)]) (.same rfl .nil) ?_
        refine Fin.next ?_
        refine Tr.ret ?_
        refine Fin.retI (rs := [_]) (Rs' := [is (.bool (decide (xs = ys)))]) rfl (.cons (.tmp rfl) .nil) (.cons (L.iv ?_) .nil)
        · congr 1; symm; exact decide_eq_true (by rwa [List.take_of_length_le (by omega), List.take_of_length_le (by omega)] at hI)

/- slices.Equal[[]tidepool/arena.Handle,tidepool/arena.Handle] -/
set_option maxRecDepth 100000 in
theorem F123 (xs ys : List (Int × Int)) (hx0 : xs.length ≤ 1048576) (hy0 : ys.length ≤ 1048576) : FnP Try.prog 123 [Lst handR xs, Lst handR ys] (is (.bool (decide (xs = ys)))) := by
  refine FnP.mk' Try.func123 T.nm123 rfl (N := 26) rfl rfl fun B hB hκ => ?_
  refine Tr.seq ?_
  refine Tr.region ?_
  refine TrL.stepS 4 (.plain rfl (.assign rfl (.of rfl))) rfl rfl ?_
  refine TrL.nil ?_
  refine Fin.keepG (Γ' := [(0, _), (1, _)]) (.same rfl (.same rfl .nil)) ?_
  refine Fin.next ?_
  refine Tr.seq ?_
  refine Tr.seq ?_
  refine Tr.region ?_
  refine TrL.stepS 6 (.plain rfl (.move rfl (.of rfl))) rfl rfl ?_
  refine TrL.stepS 7 (.plain rfl (.len rfl (.of rfl) Try.underlying78)) rfl rfl ?_
  refine TrL.stepS 8 (.plain rfl (.move rfl (.of rfl))) rfl rfl ?_
  refine TrL.stepS 9 (.plain rfl (.len rfl (.of rfl) Try.underlying78)) rfl rfl ?_
  refine TrL.stepS 10 (.plain rfl (.neq rfl (.of rfl) (.of rfl))) rfl rfl ?_
  refine TrL.nil ?_
  refine Fin.keepG (Γ' := [(0, _), (1, _), (10, _)]) (.same rfl (.same rfl (.same rfl .nil))) ?_
  refine Fin.next ?_
  refine Tr.cond rfl (fun hb0 => ?_) (fun hb0 => ?_)
  · try simp only [decide_eq_true_eq, decide_eq_false_iff_not, beq_iff_eq, beq_eq_false_iff_ne, bne_iff_ne, bne_eq_false_iff_eq, Bool.and_eq_true, Bool.and_eq_false_iff, Bool.or_eq_true, Bool.or_eq_false_iff, Bool.not_eq_true', Bool.not_eq_false', gt_iff_lt, ge_iff_le, Int.not_lt, Int.not_le, ne_eq, Int.natCast_nonneg, true_and, and_true, Decidable.not_not, not_true_eq_false, not_false_eq_true] at hb0
    refine Tr.seq ?_
    refine Tr.region ?_
    refine TrL.stepS 4 (.plain rfl (.assign rfl (.of rfl))) rfl rfl ?_
    refine TrL.nil ?_
    refine Fin.keepG (Γ' := [(4, _)]) (.same rfl .nil) ?_
    refine Fin.next ?_
    refine Tr.ret ?_
    refine Fin.thenRet ?_
    refine Fin.retI (rs := [_]) (Rs' := [is (.bool (decide (xs = ys)))]) rfl (.cons (.tmp rfl) .nil) (.cons (L.iv ?_) .nil)
    · congr 1; symm; exact decide_eq_false (fun h => by rw [h] at hb0; exact hb0 rfl)
  · try simp only [decide_eq_true_eq, decide_eq_false_iff_not, beq_iff_eq, beq_eq_false_iff_ne, bne_iff_ne, bne_eq_false_iff_eq, Bool.and_eq_true, Bool.and_eq_false_iff, Bool.or_eq_true, Bool.or_eq_false_iff, Bool.not_eq_true', Bool.not_eq_false', gt_iff_lt, ge_iff_le, Int.not_lt, Int.not_le, ne_eq, Int.natCast_nonneg, true_and, and_true, Decidable.not_not, not_true_eq_false, not_false_eq_true] at hb0
    have hle : xs.length = ys.length := by omega
    refine Tr.skip ?_
    refine Fin.next ?_
    refine Tr.seq ?_
    refine Tr.seq ?_
    refine Tr.region ?_
    refine TrL.stepS 11 (.plain rfl (.move rfl (.of rfl))) rfl rfl ?_
    refine TrL.stepS 12 (.plain rfl (.len rfl (.of rfl) Try.underlying78)) rfl rfl ?_
    refine TrL.stepS 13 (.plain rfl (.move rfl (.of rfl))) rfl rfl ?_
    refine TrL.nil ?_
    refine Fin.keepG (Γ' := [(0, _), (1, _), (12, _), (13, _)]) (.same rfl (.same rfl (.same rfl (.same rfl .nil)))) ?_
    refine Fin.next ?_
    refine Tr.block ?_
    refine Tr.loopK (γ := Nat) (Γk := [(0, _), (1, _), (12, _)]) (Mk := []) (.same rfl (.same rfl (.same rfl .nil))) .nil (fun i => i ≤ xs.length ∧ xs.take i = ys.take i) (fun i => fun r => r) (fun i => fun r => (13, is (.int .i64 i)) :: r) (fun i => xs.length - i) (0) ?h0_0 ?hM_0 ?hG_0 ?hl_0
    case h0_0 => exact ⟨Nat.zero_le _, rfl⟩
    case hM_0 => exact .nil
    case hG_0 => exact (.eq rfl (by first | rfl | (congr 1; first | done | omega | (push_cast; omega) | (push_cast; rfl))) (.same rfl (.same rfl (.same rfl .nil))))
    case hl_0 =>
      intro i hI
      obtain ⟨hi, hI⟩ := hI
      refine Tr.seq ?_
      refine Tr.region ?_
      refine TrL.stepS 14 (.plain rfl (.lss rfl (.of rfl) (.of rfl))) rfl rfl ?_
      refine TrL.nil ?_
      refine Fin.next ?_
      refine Tr.seq ?_
      refine Tr.cond rfl (fun hb1 => ?_) (fun hb1 => ?_)
      · try simp only [decide_eq_true_eq, decide_eq_false_iff_not, beq_iff_eq, beq_eq_false_iff_ne, bne_iff_ne, bne_eq_false_iff_eq, Bool.and_eq_true, Bool.and_eq_false_iff, Bool.or_eq_true, Bool.or_eq_false_iff, Bool.not_eq_true', Bool.not_eq_false', gt_iff_lt, ge_iff_le, Int.not_lt, Int.not_le, ne_eq, Int.natCast_nonneg, true_and, and_true, Decidable.not_not, not_true_eq_false, not_false_eq_true] at hb1
        obtain ⟨x, hx⟩ := ex_get (xs := xs) (i := i) (by omega)
        obtain ⟨y, hy⟩ := ex_get (xs := ys) (i := i) (by omega)
        refine Tr.skip ?_
        refine Fin.next ?_
        refine Tr.seq ?_
        refine Tr.block ?_
        refine Tr.seq ?_
        refine Tr.region ?_
        refine TrL.stepS 15 (.plain rfl (.move rfl (.of rfl))) rfl rfl ?_
        refine TrL.stepS 5 (.plain rfl (.assign rfl (.of rfl))) rfl rfl ?_
        refine TrL.nil ?_
        refine Fin.keepG (Γ' := [(0, _), (1, _), (5, _), (12, _), (13, _)]) (.same rfl (.same rfl (.same rfl (.same rfl (.same rfl .nil))))) ?_
        refine Fin.next ?_
        refine Tr.seq ?_
        refine Tr.regionK T.mixed (by kernel_rfl) (by kernel_rfl) ?_
        refine ChainK.consS 16 (.plain rfl (.move rfl (.of rfl))) rfl ?_
        refine ChainK.consS 17 (.plain rfl (.move rfl (.of rfl))) rfl ?_
        refine ChainK.consS 18 (.plain rfl (.indexE rfl (.of rfl) (.of rfl) Try.underlying78 T.sz75 (by omega) hx)) rfl ?_
        refine ChainK.consS 19 (.plain rfl (.load2 rfl (.of rfl) T.ag75)) rfl ?_
        refine ChainK.consS 20 (.plain rfl (.move rfl (.of rfl))) rfl ?_
        refine ChainK.consS 21 (.plain rfl (.move rfl (.of rfl))) rfl ?_
        refine ChainK.consS 22 (.plain rfl (.indexE rfl (.of rfl) (.of rfl) Try.underlying78 T.sz75 (by omega) hy)) rfl ?_
        refine ChainK.consS 23 (.plain rfl (.load2 rfl (.of rfl) T.ag75)) rfl ?_
        refine ChainK.consS 24 (.plain rfl (.neqS rfl (.of rfl) (.of rfl) (by kernel_rfl) (T.eq75 _ _ _ _))) rfl ?_
        refine ChainK.nil ?_
        refine Fin.keepG (Γ' := [(0, _), (1, _), (12, _), (13, _), (24, _)]) (.same rfl (.same rfl (.same rfl (.same rfl (.same rfl .nil))))) ?_
        refine Fin.next ?_
        refine Tr.cond rfl (fun hb2 => ?_) (fun hb2 => ?_)
        · have hr2 := hb2; try simp only [decide_eq_true_eq, decide_eq_false_iff_not, beq_iff_eq, beq_eq_false_iff_ne, bne_iff_ne, bne_eq_false_iff_eq, Bool.and_eq_true, Bool.and_eq_false_iff, Bool.or_eq_true, Bool.or_eq_false_iff, Bool.not_eq_true', Bool.not_eq_false', gt_iff_lt, ge_iff_le, Int.not_lt, Int.not_le, ne_eq, Int.natCast_nonneg, true_and, and_true, Decidable.not_not, not_true_eq_false, not_false_eq_true] at hb2
          have hxy : x ≠ y := by rintro rfl; simp at hr2
          refine Tr.seq ?_
          refine Tr.region ?_
          refine TrL.stepS 4 (.plain rfl (.assign rfl (.of rfl))) rfl rfl ?_
          refine TrL.nil ?_
          refine Fin.keepG (Γ' := [(4, _)]) (.same rfl .nil) ?_
          refine Fin.next ?_
          refine Tr.ret ?_
          refine Fin.blockRet ?_
          refine Fin.thenRet ?_
          refine Fin.thenRet ?_
          refine Fin.blockRet ?_
          refine Fin.thenRet ?_
          refine Fin.retI (rs := [_]) (Rs' := [is (.bool (decide (xs = ys)))]) rfl (.cons (.tmp rfl) .nil) (.cons (L.iv ?_) .nil)
          · congr 1; symm; exact decide_eq_false (fun h => by subst h; rw [hx] at hy; cases hy; exact hxy rfl)
        · have hr2 := hb2; try simp only [decide_eq_true_eq, decide_eq_false_iff_not, beq_iff_eq, beq_eq_false_iff_ne, bne_iff_ne, bne_eq_false_iff_eq, Bool.and_eq_true, Bool.and_eq_false_iff, Bool.or_eq_true, Bool.or_eq_false_iff, Bool.not_eq_true', Bool.not_eq_false', gt_iff_lt, ge_iff_le, Int.not_lt, Int.not_le, ne_eq, Int.natCast_nonneg, true_and, and_true, Decidable.not_not, not_true_eq_false, not_false_eq_true] at hb2
          have hxy : x = y := by
            obtain ⟨a, b⟩ := x; obtain ⟨c, d⟩ := y; simp at hr2; exact Prod.ext hr2.1 hr2.2
          refine Tr.skip ?_
          refine Fin.blockNormal ?_
          refine Fin.next ?_
          refine Tr.region ?_
          first | refine TrL.stepS 25 (.plain rfl (.addI L.bd_i64 rfl (.of rfl) (.of rfl) (by omega) (by omega))) rfl rfl ?_ | refine TrL.stepS 25 (.plain rfl (.add rfl (.of rfl) (.of rfl))) rfl rfl ?_
          refine TrL.stepS 13 (.plain rfl (.move rfl (.of rfl))) rfl rfl ?_
          refine TrL.nil ?_
          refine Fin.keepG (Γ' := [(0, _), (1, _), (12, _), (13, _)]) (.same rfl (.same rfl (.same rfl (.same rfl .nil)))) ?_
          exact Fin.again (i + 1) (⟨by omega, by rw [take_snoc hx, take_snoc hy, hI, hxy]⟩) (by omega) .nil (.eq rfl (by first | rfl | (congr 1; first | done | omega | (push_cast; omega) | (push_cast; rfl))) (.same rfl (.same rfl (.same rfl .nil))))
      · try simp only [decide_eq_true_eq, decide_eq_false_iff_not, beq_iff_eq, beq_eq_false_iff_ne, bne_iff_ne, bne_eq_false_iff_eq, Bool.and_eq_true, Bool.and_eq_false_iff, Bool.or_eq_true, Bool.or_eq_false_iff, Bool.not_eq_true', Bool.not_eq_false', gt_iff_lt, ge_iff_le, Int.not_lt, Int.not_le, ne_eq, Int.natCast_nonneg, true_and, and_true, Decidable.not_not, not_true_eq_false, not_false_eq_true] at hb1
        refine Tr.exit ?_
        refine Fin.thenExit ?_
        refine Fin.thenExit ?_
        refine Fin.blockOut ?_
        refine Fin.next ?_
        refine Tr.seq ?_
        refine Tr.region ?_
        refine TrL.stepS 4 (.plain rfl (.assign rfl (.of rfl))) rfl rfl ?_
        refine TrL.nil ?_
        refine Fin.keepG (Γ' := [(4, _)]) (.same rfl .nil) ?_
        refine Fin.next ?_
        refine Tr.ret ?_
        refine Fin.retI (rs := [_]) (Rs' := [is (.bool (decide (xs = ys)))]) rfl (.cons (.tmp rfl) .nil) (.cons (L.iv ?_) .nil)
        · congr 1; symm; exact decide_eq_true (by rwa [List.take_of_length_le (by omega), List.take_of_length_le (by omega)] at hI)

/- slices.Equal[[]int,int] -/
set_option maxRecDepth 100000 in
theorem F124 (xs ys : List Int) (hx0 : xs.length ≤ 1048576) (hy0 : ys.length ≤ 1048576) : FnP Try.prog 124 [Lst (intR .i64) xs, Lst (intR .i64) ys] (is (.bool (decide (xs = ys)))) := by
  refine FnP.mk' Try.func124 T.nm124 rfl (N := 26) rfl rfl fun B hB hκ => ?_
  refine Tr.seq ?_
  refine Tr.region ?_
  refine TrL.stepS 4 (.plain rfl (.assign rfl (.of rfl))) rfl rfl ?_
  refine TrL.nil ?_
  refine Fin.keepG (Γ' := [(0, _), (1, _)]) (.same rfl (.same rfl .nil)) ?_
  refine Fin.next ?_
  refine Tr.seq ?_
  refine Tr.seq ?_
  refine Tr.region ?_
  refine TrL.stepS 6 (.plain rfl (.move rfl (.of rfl))) rfl rfl ?_
  refine TrL.stepS 7 (.plain rfl (.len rfl (.of rfl) Try.underlying79)) rfl rfl ?_
  refine TrL.stepS 8 (.plain rfl (.move rfl (.of rfl))) rfl rfl ?_
  refine TrL.stepS 9 (.plain rfl (.len rfl (.of rfl) Try.underlying79)) rfl rfl ?_
  refine TrL.stepS 10 (.plain rfl (.neq rfl (.of rfl) (.of rfl))) rfl rfl ?_
  refine TrL.nil ?_
  refine Fin.keepG (Γ' := [(0, _), (1, _), (10, _)]) (.same rfl (.same rfl (.same rfl .nil))) ?_
  refine Fin.next ?_
  refine Tr.cond rfl (fun hb0 => ?_) (fun hb0 => ?_)
  · try simp only [decide_eq_true_eq, decide_eq_false_iff_not, beq_iff_eq, beq_eq_false_iff_ne, bne_iff_ne, bne_eq_false_iff_eq, Bool.and_eq_true, Bool.and_eq_false_iff, Bool.or_eq_true, Bool.or_eq_false_iff, Bool.not_eq_true', Bool.not_eq_false', gt_iff_lt, ge_iff_le, Int.not_lt, Int.not_le, ne_eq, Int.natCast_nonneg, true_and, and_true, Decidable.not_not, not_true_eq_false, not_false_eq_true] at hb0
    refine Tr.seq ?_
    refine Tr.region ?_
    refine TrL.stepS 4 (.plain rfl (.assign rfl (.of rfl))) rfl rfl ?_
    refine TrL.nil ?_
    refine Fin.keepG (Γ' := [(4, _)]) (.same rfl .nil) ?_
    refine Fin.next ?_
    refine Tr.ret ?_
    refine Fin.thenRet ?_
    refine Fin.retI (rs := [_]) (Rs' := [is (.bool (decide (xs = ys)))]) rfl (.cons (.tmp rfl) .nil) (.cons (L.iv ?_) .nil)
    · congr 1; symm; exact decide_eq_false (fun h => by rw [h] at hb0; exact hb0 rfl)
  · try simp only [decide_eq_true_eq, decide_eq_false_iff_not, beq_iff_eq, beq_eq_false_iff_ne, bne_iff_ne, bne_eq_false_iff_eq, Bool.and_eq_true, Bool.and_eq_false_iff, Bool.or_eq_true, Bool.or_eq_false_iff, Bool.not_eq_true', Bool.not_eq_false', gt_iff_lt, ge_iff_le, Int.not_lt, Int.not_le, ne_eq, Int.natCast_nonneg, true_and, and_true, Decidable.not_not, not_true_eq_false, not_false_eq_true] at hb0
    have hle : xs.length = ys.length := by omega
    refine Tr.skip ?_
    refine Fin.next ?_
    refine Tr.seq ?_
    refine Tr.seq ?_
    refine Tr.region ?_
    refine TrL.stepS 11 (.plain rfl (.move rfl (.of rfl))) rfl rfl ?_
    refine TrL.stepS 12 (.plain rfl (.len rfl (.of rfl) Try.underlying79)) rfl rfl ?_
    refine TrL.stepS 13 (.plain rfl (.move rfl (.of rfl))) rfl rfl ?_
    refine TrL.nil ?_
    refine Fin.keepG (Γ' := [(0, _), (1, _), (12, _), (13, _)]) (.same rfl (.same rfl (.same rfl (.same rfl .nil)))) ?_
    refine Fin.next ?_
    refine Tr.block ?_
    refine Tr.loopK (γ := Nat) (Γk := [(0, _), (1, _), (12, _)]) (Mk := []) (.same rfl (.same rfl (.same rfl .nil))) .nil (fun i => i ≤ xs.length ∧ xs.take i = ys.take i) (fun i => fun r => r) (fun i => fun r => (13, is (.int .i64 i)) :: r) (fun i => xs.length - i) (0) ?h0_0 ?hM_0 ?hG_0 ?hl_0
    case h0_0 => exact ⟨Nat.zero_le _, rfl⟩
    case hM_0 => exact .nil
    case hG_0 => exact (.eq rfl (by first | rfl | (congr 1; first | done | omega | (push_cast; omega) | (push_cast; rfl))) (.same rfl (.same rfl (.same rfl .nil))))
    case hl_0 =>
      intro i hI
      obtain ⟨hi, hI⟩ := hI
      refine Tr.seq ?_
      refine Tr.region ?_
      refine TrL.stepS 14 (.plain rfl (.lss rfl (.of rfl) (.of rfl))) rfl rfl ?_
      refine TrL.nil ?_
      refine Fin.next ?_
      refine Tr.seq ?_
      refine Tr.cond rfl (fun hb1 => ?_) (fun hb1 => ?_)
      · try simp only [decide_eq_true_eq, decide_eq_false_iff_not, beq_iff_eq, beq_eq_false_iff_ne, bne_iff_ne, bne_eq_false_iff_eq, Bool.and_eq_true, Bool.and_eq_false_iff, Bool.or_eq_true, Bool.or_eq_false_iff, Bool.not_eq_true', Bool.not_eq_false', gt_iff_lt, ge_iff_le, Int.not_lt, Int.not_le, ne_eq, Int.natCast_nonneg, true_and, and_true, Decidable.not_not, not_true_eq_false, not_false_eq_true] at hb1
        obtain ⟨x, hx⟩ := ex_get (xs := xs) (i := i) (by omega)
        obtain ⟨y, hy⟩ := ex_get (xs := ys) (i := i) (by omega)
        refine Tr.skip ?_
        refine Fin.next ?_
        refine Tr.seq ?_
        refine Tr.block ?_
        refine Tr.seq ?_
        refine Tr.region ?_
        refine TrL.stepS 15 (.plain rfl (.move rfl (.of rfl))) rfl rfl ?_
        refine TrL.stepS 5 (.plain rfl (.assign rfl (.of rfl))) rfl rfl ?_
        refine TrL.nil ?_
        refine Fin.keepG (Γ' := [(0, _), (1, _), (5, _), (12, _), (13, _)]) (.same rfl (.same rfl (.same rfl (.same rfl (.same rfl .nil))))) ?_
        refine Fin.next ?_
        refine Tr.seq ?_
        refine Tr.regionK T.mixed (by kernel_rfl) (by kernel_rfl) ?_
        refine ChainK.consS 16 (.plain rfl (.move rfl (.of rfl))) rfl ?_
        refine ChainK.consS 17 (.plain rfl (.move rfl (.of rfl))) rfl ?_
        refine ChainK.consS 18 (.plain rfl (.indexE rfl (.of rfl) (.of rfl) Try.underlying79 T.sz3 (by omega) hx)) rfl ?_
        refine ChainK.consS 19 (.plain rfl (.load1 rfl (.of rfl) T.sc3)) rfl ?_
        refine ChainK.consS 20 (.plain rfl (.move rfl (.of rfl))) rfl ?_
        refine ChainK.consS 21 (.plain rfl (.move rfl (.of rfl))) rfl ?_
        refine ChainK.consS 22 (.plain rfl (.indexE rfl (.of rfl) (.of rfl) Try.underlying79 T.sz3 (by omega) hy)) rfl ?_
        refine ChainK.consS 23 (.plain rfl (.load1 rfl (.of rfl) T.sc3)) rfl ?_
        refine ChainK.consS 24 (.plain rfl (.neq rfl (.of rfl) (.of rfl))) rfl ?_
        refine ChainK.nil ?_
        refine Fin.keepG (Γ' := [(0, _), (1, _), (12, _), (13, _), (24, _)]) (.same rfl (.same rfl (.same rfl (.same rfl (.same rfl .nil))))) ?_
        refine Fin.next ?_
        refine Tr.cond rfl (fun hb2 => ?_) (fun hb2 => ?_)
        · have hr2 := hb2; try simp only [decide_eq_true_eq, decide_eq_false_iff_not, beq_iff_eq, beq_eq_false_iff_ne, bne_iff_ne, bne_eq_false_iff_eq, Bool.and_eq_true, Bool.and_eq_false_iff, Bool.or_eq_true, Bool.or_eq_false_iff, Bool.not_eq_true', Bool.not_eq_false', gt_iff_lt, ge_iff_le, Int.not_lt, Int.not_le, ne_eq, Int.natCast_nonneg, true_and, and_true, Decidable.not_not, not_true_eq_false, not_false_eq_true] at hb2
          have hxy : x ≠ y := by rintro rfl; simp at hr2
          refine Tr.seq ?_
          refine Tr.region ?_
          refine TrL.stepS 4 (.plain rfl (.assign rfl (.of rfl))) rfl rfl ?_
          refine TrL.nil ?_
          refine Fin.keepG (Γ' := [(4, _)]) (.same rfl .nil) ?_
          refine Fin.next ?_
          refine Tr.ret ?_
          refine Fin.blockRet ?_
          refine Fin.thenRet ?_
          refine Fin.thenRet ?_
          refine Fin.blockRet ?_
          refine Fin.thenRet ?_
          refine Fin.retI (rs := [_]) (Rs' := [is (.bool (decide (xs = ys)))]) rfl (.cons (.tmp rfl) .nil) (.cons (L.iv ?_) .nil)
          · congr 1; symm; exact decide_eq_false (fun h => by subst h; rw [hx] at hy; cases hy; exact hxy rfl)
        · have hr2 := hb2; try simp only [decide_eq_true_eq, decide_eq_false_iff_not, beq_iff_eq, beq_eq_false_iff_ne, bne_iff_ne, bne_eq_false_iff_eq, Bool.and_eq_true, Bool.and_eq_false_iff, Bool.or_eq_true, Bool.or_eq_false_iff, Bool.not_eq_true', Bool.not_eq_false', gt_iff_lt, ge_iff_le, Int.not_lt, Int.not_le, ne_eq, Int.natCast_nonneg, true_and, and_true, Decidable.not_not, not_true_eq_false, not_false_eq_true] at hb2
          have hxy : x = y := by
            simpa using hr2
          refine Tr.skip ?_
          refine Fin.blockNormal ?_
          refine Fin.next ?_
          refine Tr.region ?_
          first | refine TrL.stepS 25 (.plain rfl (.addI L.bd_i64 rfl (.of rfl) (.of rfl) (by omega) (by omega))) rfl rfl ?_ | refine TrL.stepS 25 (.plain rfl (.add rfl (.of rfl) (.of rfl))) rfl rfl ?_
          refine TrL.stepS 13 (.plain rfl (.move rfl (.of rfl))) rfl rfl ?_
          refine TrL.nil ?_
          refine Fin.keepG (Γ' := [(0, _), (1, _), (12, _), (13, _)]) (.same rfl (.same rfl (.same rfl (.same rfl .nil)))) ?_
          exact Fin.again (i + 1) (⟨by omega, by rw [take_snoc hx, take_snoc hy, hI, hxy]⟩) (by omega) .nil (.eq rfl (by first | rfl | (congr 1; first | done | omega | (push_cast; omega) | (push_cast; rfl))) (.same rfl (.same rfl (.same rfl .nil))))
      · try simp only [decide_eq_true_eq, decide_eq_false_iff_not, beq_iff_eq, beq_eq_false_iff_ne, bne_iff_ne, bne_eq_false_iff_eq, Bool.and_eq_true, Bool.and_eq_false_iff, Bool.or_eq_true, Bool.or_eq_false_iff, Bool.not_eq_true', Bool.not_eq_false', gt_iff_lt, ge_iff_le, Int.not_lt, Int.not_le, ne_eq, Int.natCast_nonneg, true_and, and_true, Decidable.not_not, not_true_eq_false, not_false_eq_true] at hb1
        refine Tr.exit ?_
        refine Fin.thenExit ?_
        refine Fin.thenExit ?_
        refine Fin.blockOut ?_
        refine Fin.next ?_
        refine Tr.seq ?_
        refine Tr.region ?_
        refine TrL.stepS 4 (.plain rfl (.assign rfl (.of rfl))) rfl rfl ?_
        refine TrL.nil ?_
        refine Fin.keepG (Γ' := [(4, _)]) (.same rfl .nil) ?_
        refine Fin.next ?_
        refine Tr.ret ?_
        refine Fin.retI (rs := [_]) (Rs' := [is (.bool (decide (xs = ys)))]) rfl (.cons (.tmp rfl) .nil) (.cons (L.iv ?_) .nil)
        · congr 1; symm; exact decide_eq_true (by rwa [List.take_of_length_le (by omega), List.take_of_length_le (by omega)] at hI)

/- slices.Index[[]tidepool/arena.Handle,tidepool/arena.Handle] -/
set_option maxRecDepth 100000 in
theorem F165 (xs : List (Int × Int)) (a b : Int) (hx0 : xs.length ≤ 1048576) : FnP Try.prog 165 [Lst handR xs, is (.agg #[.int .i64 a, .int .i64 b])] (ExP (.int .i64) (fun n => 0 ≤ n ↔ (a, b) ∈ xs)) := by
  refine FnP.mk' Try.func165 T.nm165 rfl (N := 19) rfl rfl fun B hB hκ => ?_
  refine Tr.seq ?_
  refine Tr.region ?_
  refine TrL.stepS 3 (.plain rfl (.boxR rfl (.of rfl))) rfl rfl ?_
  refine TrL.stepS 4 (.plain rfl (.assign rfl (.of rfl))) rfl rfl ?_
  refine TrL.nil ?_
  refine Fin.keepG (Γ' := [(0, _), (3, _)]) (.same rfl (.same rfl .nil)) ?_
  refine Fin.next ?_
  refine Tr.seq ?_
  refine Tr.seq ?_
  refine Tr.region ?_
  refine TrL.stepS 6 (.plain rfl (.move rfl (.of rfl))) rfl rfl ?_
  refine TrL.stepS 7 (.plain rfl (.len rfl (.of rfl) Try.underlying78)) rfl rfl ?_
  refine TrL.stepS 8 (.plain rfl (.move rfl (.of rfl))) rfl rfl ?_
  refine TrL.nil ?_
  refine Fin.keepG (Γ' := [(0, _), (3, _), (7, _), (8, _)]) (.same rfl (.same rfl (.same rfl (.same rfl .nil)))) ?_
  refine Fin.next ?_
  refine Tr.block ?_
  refine Tr.loopK (γ := Nat) (Γk := [(0, _), (3, _), (7, _)]) (Mk := []) (.same rfl (.same rfl (.same rfl .nil))) .nil (fun i => i ≤ xs.length ∧ (a, b) ∉ xs.take i) (fun i => fun r => r) (fun i => fun r => (8, is (.int .i64 i)) :: r) (fun i => xs.length - i) (0) ?h0_0 ?hM_0 ?hG_0 ?hl_0
  case h0_0 => exact ⟨Nat.zero_le _, by simp⟩
  case hM_0 => exact .nil
  case hG_0 => exact (.eq rfl (by first | rfl | (congr 1; first | done | omega | (push_cast; omega) | (push_cast; rfl))) (.same rfl (.same rfl (.same rfl .nil))))
  case hl_0 =>
    intro i hI
    obtain ⟨hi, hI⟩ := hI
    refine Tr.seq ?_
    refine Tr.region ?_
    refine TrL.stepS 9 (.plain rfl (.lss rfl (.of rfl) (.of rfl))) rfl rfl ?_
    refine TrL.nil ?_
    refine Fin.next ?_
    refine Tr.seq ?_
    refine Tr.cond rfl (fun hb0 => ?_) (fun hb0 => ?_)
    · try simp only [decide_eq_true_eq, decide_eq_false_iff_not, beq_iff_eq, beq_eq_false_iff_ne, bne_iff_ne, bne_eq_false_iff_eq, Bool.and_eq_true, Bool.and_eq_false_iff, Bool.or_eq_true, Bool.or_eq_false_iff, Bool.not_eq_true', Bool.not_eq_false', gt_iff_lt, ge_iff_le, Int.not_lt, Int.not_le, ne_eq, Int.natCast_nonneg, true_and, and_true, Decidable.not_not, not_true_eq_false, not_false_eq_true] at hb0
      obtain ⟨x, hx⟩ := ex_get (xs := xs) (i := i) (by omega)
      refine Tr.skip ?_
      refine Fin.next ?_
      refine Tr.seq ?_
      refine Tr.block ?_
      refine Tr.seq ?_
      refine Tr.region ?_
      refine TrL.stepS 10 (.plain rfl (.move rfl (.of rfl))) rfl rfl ?_
      refine TrL.stepS 5 (.plain rfl (.assign rfl (.of rfl))) rfl rfl ?_
      refine TrL.nil ?_
      refine Fin.keepG (Γ' := [(0, _), (3, _), (5, _), (7, _), (8, _)]) (.same rfl (.same rfl (.same rfl (.same rfl (.same rfl .nil))))) ?_
      refine Fin.next ?_
      refine Tr.seq ?_
      refine Tr.regionK T.mixed (by kernel_rfl) (by kernel_rfl) ?_
      refine ChainK.consS 11 (.plain rfl (.load2 rfl (.of rfl) T.ag75)) rfl ?_
      refine ChainK.consS 12 (.plain rfl (.move rfl (.of rfl))) rfl ?_
      refine ChainK.consS 13 (.plain rfl (.move rfl (.of rfl))) rfl ?_
      refine ChainK.consS 14 (.plain rfl (.indexE rfl (.of rfl) (.of rfl) Try.underlying78 T.sz75 (by omega) hx)) rfl ?_
      refine ChainK.consS 15 (.plain rfl (.load2 rfl (.of rfl) T.ag75)) rfl ?_
      refine ChainK.consS 16 (.plain rfl (.eqlS rfl (.of rfl) (.of rfl) (by kernel_rfl) (T.eq75 _ _ _ _))) rfl ?_
      refine ChainK.nil ?_
      refine Fin.keepG (Γ' := [(0, _), (3, _), (5, _), (7, _), (8, _), (16, _)]) (.same rfl (.same rfl (.same rfl (.same rfl (.same rfl (.same rfl .nil)))))) ?_
      refine Fin.next ?_
      refine Tr.cond rfl (fun hb1 => ?_) (fun hb1 => ?_)
      · have hr1 := hb1; try simp only [decide_eq_true_eq, decide_eq_false_iff_not, beq_iff_eq, beq_eq_false_iff_ne, bne_iff_ne, bne_eq_false_iff_eq, Bool.and_eq_true, Bool.and_eq_false_iff, Bool.or_eq_true, Bool.or_eq_false_iff, Bool.not_eq_true', Bool.not_eq_false', gt_iff_lt, ge_iff_le, Int.not_lt, Int.not_le, ne_eq, Int.natCast_nonneg, true_and, and_true, Decidable.not_not, not_true_eq_false, not_false_eq_true] at hb1
        have hxe : x = (a, b) := by
          obtain ⟨c, d⟩ := x; simp at hr1; exact Prod.ext hr1.1.symm hr1.2.symm
        refine Tr.seq ?_
        refine Tr.region ?_
        refine TrL.stepS 17 (.plain rfl (.move rfl (.of rfl))) rfl rfl ?_
        refine TrL.stepS 4 (.plain rfl (.assign rfl (.of rfl))) rfl rfl ?_
        refine TrL.nil ?_
        refine Fin.keepG (Γ' := [(4, _)]) (.same rfl .nil) ?_
        refine Fin.next ?_
        refine Tr.ret ?_
        refine Fin.blockRet ?_
        refine Fin.thenRet ?_
        refine Fin.thenRet ?_
        refine Fin.blockRet ?_
        refine Fin.thenRet ?_
        exact Fin.retI (rs := [_]) (Rs' := [ExP (.int .i64) (fun n => 0 ≤ n ↔ (a, b) ∈ xs)]) rfl (.cons (.tmp rfl) .nil) (.cons ((fun v w h => ⟨(i : Int), h, ⟨fun _ => by have := List.mem_of_getElem? hx; rwa [hxe] at this, fun _ => by omega⟩⟩)) .nil)
      · have hr1 := hb1; try simp only [decide_eq_true_eq, decide_eq_false_iff_not, beq_iff_eq, beq_eq_false_iff_ne, bne_iff_ne, bne_eq_false_iff_eq, Bool.and_eq_true, Bool.and_eq_false_iff, Bool.or_eq_true, Bool.or_eq_false_iff, Bool.not_eq_true', Bool.not_eq_false', gt_iff_lt, ge_iff_le, Int.not_lt, Int.not_le, ne_eq, Int.natCast_nonneg, true_and, and_true, Decidable.not_not, not_true_eq_false, not_false_eq_true] at hb1
        have hxe : x ≠ (a, b) := by
          rintro rfl; simp at hr1
        refine Tr.skip ?_
        refine Fin.blockNormal ?_
        refine Fin.next ?_
        refine Tr.region ?_
        first | refine TrL.stepS 18 (.plain rfl (.addI L.bd_i64 rfl (.of rfl) (.of rfl) (by omega) (by omega))) rfl rfl ?_ | refine TrL.stepS 18 (.plain rfl (.add rfl (.of rfl) (.of rfl))) rfl rfl ?_
        refine TrL.stepS 8 (.plain rfl (.move rfl (.of rfl))) rfl rfl ?_
        refine TrL.nil ?_
        refine Fin.keepG (Γ' := [(0, _), (3, _), (7, _), (8, _)]) (.same rfl (.same rfl (.same rfl (.same rfl .nil)))) ?_
        exact Fin.again (i + 1) (⟨by omega, by rw [take_snoc hx, List.mem_append, not_or]; refine ⟨hI, ?_⟩; simp only [List.mem_singleton]; exact fun h => hxe h.symm⟩) (by omega) .nil (.eq rfl (by first | rfl | (congr 1; first | done | omega | (push_cast; omega) | (push_cast; rfl))) (.same rfl (.same rfl (.same rfl .nil))))
    · try simp only [decide_eq_true_eq, decide_eq_false_iff_not, beq_iff_eq, beq_eq_false_iff_ne, bne_iff_ne, bne_eq_false_iff_eq, Bool.and_eq_true, Bool.and_eq_false_iff, Bool.or_eq_true, Bool.or_eq_false_iff, Bool.not_eq_true', Bool.not_eq_false', gt_iff_lt, ge_iff_le, Int.not_lt, Int.not_le, ne_eq, Int.natCast_nonneg, true_and, and_true, Decidable.not_not, not_true_eq_false, not_false_eq_true] at hb0
      refine Tr.exit ?_
      refine Fin.thenExit ?_
      refine Fin.thenExit ?_
      refine Fin.blockOut ?_
      refine Fin.next ?_
      refine Tr.seq ?_
      refine Tr.region ?_
      refine TrL.stepS 4 (.plain rfl (.assign rfl (.of rfl))) rfl rfl ?_
      refine TrL.nil ?_
      refine Fin.keepG (Γ' := [(4, _)]) (.same rfl .nil) ?_
      refine Fin.next ?_
      refine Tr.ret ?_
      exact Fin.retI (rs := [_]) (Rs' := [ExP (.int .i64) (fun n => 0 ≤ n ↔ (a, b) ∈ xs)]) rfl (.cons (.tmp rfl) .nil) (.cons ((fun v w h => ⟨-1, h, ⟨fun h => by omega, fun h => absurd h (by rwa [List.take_of_length_le (by omega)] at hI)⟩⟩)) .nil)

/- slices.Contains[[]tidepool/arena.Handle,tidepool/arena.Handle] -/
set_option maxRecDepth 100000 in
theorem F120 (xs : List (Int × Int)) (a b : Int) (hx0 : xs.length ≤ 1048576) : FnP Try.prog 120 [Lst handR xs, is (.agg #[.int .i64 a, .int .i64 b])] (is (.bool (decide ((a, b) ∈ xs)))) := by
  refine FnP.mk' Try.func120 T.nm120 rfl (N := 9) rfl rfl fun B hB hκ => ?_
  refine Tr.seq ?_
  refine Tr.region ?_
  refine TrL.stepS 3 (.plain rfl (.boxR rfl (.of rfl))) rfl rfl ?_
  refine TrL.stepS 4 (.plain rfl (.assign rfl (.of rfl))) rfl rfl ?_
  refine TrL.nil ?_
  refine Fin.keepG (Γ' := [(0, _), (3, _)]) (.same rfl (.same rfl .nil)) ?_
  refine Fin.next ?_
  refine Tr.seq ?_
  refine Tr.region ?_
  refine TrL.stepS 5 (.plain rfl (.move rfl (.of rfl))) rfl rfl ?_
  refine TrL.stepS 6 (.plain rfl (.load2 rfl (.of rfl) T.ag75)) rfl rfl ?_
  refine TrL.stepS 7 (.plain rfl (.call rfl (F165 xs a b hx0) (.cons (.of rfl) (.cons (.of rfl) .nil)))) rfl rfl ?_
  refine TrL.exP 7 rfl fun n hn => ?_
  refine TrL.stepS 8 (.plain rfl (.geq rfl (.of rfl) (.of rfl))) rfl rfl ?_
  refine TrL.stepS 4 (.plain rfl (.assign rfl (.of rfl))) rfl rfl ?_
  refine TrL.nil ?_
  refine Fin.keepG (Γ' := [(4, _)]) (.same rfl .nil) ?_
  refine Fin.next ?_
  refine Tr.ret ?_
  refine Fin.retI (rs := [_]) (Rs' := [is (.bool (decide ((a, b) ∈ xs)))]) rfl (.cons (.tmp rfl) .nil) (.cons (L.iv ?_) .nil)
  · congr 1; rw [Bool.eq_iff_iff]; simp [← hn]

/- slices.Clone[[]string,string] -/
set_option maxRecDepth 100000 in
theorem F162 (xs : List ByteArray) (hx0 : xs.length ≤ 1000) : FnP Try.prog 162 [Lst strR xs] (Lst strR xs) := by
  refine FnP.mk' Try.func162 T.nm162 rfl (N := 8) rfl rfl fun B hB hκ => ?_
  refine Tr.seq ?_
  refine Tr.region ?_
  refine TrL.stepS 2 (.plain rfl (.assign rfl (.of rfl))) rfl rfl ?_
  refine TrL.nil ?_
  refine Fin.keepG (Γ' := [(0, _)]) (.same rfl .nil) ?_
  refine Fin.next ?_
  refine Tr.seq ?_
  refine Tr.seq ?_
  refine Tr.region ?_
  refine TrL.stepS 3 (.plain rfl (.move rfl (.of rfl))) rfl rfl ?_
  refine TrL.stepS 4 (.plain rfl (.eqlLN rfl (.of rfl) (.of rfl) Try.underlying77)) rfl rfl ?_
  refine TrL.nil ?_
  refine Fin.keepG (Γ' := [(0, _), (4, _)]) (.same rfl (.same rfl .nil)) ?_
  refine Fin.exP 4 rfl fun b hb => ?_
  refine Fin.next ?_
  refine Tr.cond rfl (fun hb0 => ?_) (fun hb0 => ?_)
  · try simp only [decide_eq_true_eq, decide_eq_false_iff_not, beq_iff_eq, beq_eq_false_iff_ne, bne_iff_ne, bne_eq_false_iff_eq, Bool.and_eq_true, Bool.and_eq_false_iff, Bool.or_eq_true, Bool.or_eq_false_iff, Bool.not_eq_true', Bool.not_eq_false', gt_iff_lt, ge_iff_le, Int.not_lt, Int.not_le, ne_eq, Int.natCast_nonneg, true_and, and_true, Decidable.not_not, not_true_eq_false, not_false_eq_true] at hb0
    refine Tr.seq ?_
    refine Tr.region ?_
    refine TrL.stepS 2 (.plain rfl (.assign rfl (.of rfl))) rfl rfl ?_
    refine TrL.nil ?_
    refine Fin.keepG (Γ' := [(2, _)]) (.same rfl .nil) ?_
    refine Fin.next ?_
    refine Tr.ret ?_
    refine Fin.thenRet ?_
    exact Fin.retI (rs := [_]) (Rs' := [Lst strR xs]) rfl (.cons (.tmp rfl) .nil) (.cons ((fun v w h => by rw [hb hb0]; exact L.lst_nil' h)) .nil)
  · try simp only [decide_eq_true_eq, decide_eq_false_iff_not, beq_iff_eq, beq_eq_false_iff_ne, bne_iff_ne, bne_eq_false_iff_eq, Bool.and_eq_true, Bool.and_eq_false_iff, Bool.or_eq_true, Bool.or_eq_false_iff, Bool.not_eq_true', Bool.not_eq_false', gt_iff_lt, ge_iff_le, Int.not_lt, Int.not_le, ne_eq, Int.natCast_nonneg, true_and, and_true, Decidable.not_not, not_true_eq_false, not_false_eq_true] at hb0
    refine Tr.skip ?_
    refine Fin.next ?_
    refine Tr.seq ?_
    refine Tr.region ?_
    refine TrL.sliceOwn 20 (K := strR) (xs := []) rfl rfl 5 rfl rfl .nil Try.underlying77 T.sz9 T.zb9 rfl (by decide) rfl fun v5 hv5 => ?_
    refine TrL.stepS 6 (.plain rfl (.move rfl (.of rfl))) rfl rfl ?_
    refine TrL.appendG 20 (bytes := 16) rfl rfl 7 rfl rfl (.of rfl) rfl rfl (.of rfl) Try.underlying77 T.sz9 T.el9 (by simp; omega) (by simp only [maxLen, List.length_append, List.length_cons, List.length_nil, List.length_map, List.length_take]; omega) fun v7 => ?_
    refine TrL.stepS 2 (.plain rfl (.assign rfl (.of rfl))) rfl rfl ?_
    refine TrL.nil ?_
    refine Fin.keepG (Γ' := [(2, _)]) (.same rfl .nil) ?_
    refine Fin.next ?_
    refine Tr.ret ?_
    refine Fin.freeze 20 2 rfl rfl rfl ?_
    exact Fin.retI (rs := [_]) (Rs' := [Lst strR xs]) rfl (.cons (.tmp rfl) .nil) (.cons ((fun v w h => by rw [List.nil_append] at h; exact h)) .nil)

/- slices.Clone[[]tidepool/arena.Handle,tidepool/arena.Handle] -/
set_option maxRecDepth 100000 in
theorem F163 (xs : List (Int × Int)) (hx0 : xs.length ≤ 1000) : FnP Try.prog 163 [Lst handR xs] (Lst handR xs) := by
  refine FnP.mk' Try.func163 T.nm163 rfl (N := 8) rfl rfl fun B hB hκ => ?_
  refine Tr.seq ?_
  refine Tr.region ?_
  refine TrL.stepS 2 (.plain rfl (.assign rfl (.of rfl))) rfl rfl ?_
  refine TrL.nil ?_
  refine Fin.keepG (Γ' := [(0, _)]) (.same rfl .nil) ?_
  refine Fin.next ?_
  refine Tr.seq ?_
  refine Tr.seq ?_
  refine Tr.region ?_
  refine TrL.stepS 3 (.plain rfl (.move rfl (.of rfl))) rfl rfl ?_
  refine TrL.stepS 4 (.plain rfl (.eqlLN rfl (.of rfl) (.of rfl) Try.underlying78)) rfl rfl ?_
  refine TrL.nil ?_
  refine Fin.keepG (Γ' := [(0, _), (4, _)]) (.same rfl (.same rfl .nil)) ?_
  refine Fin.exP 4 rfl fun b hb => ?_
  refine Fin.next ?_
  refine Tr.cond rfl (fun hb0 => ?_) (fun hb0 => ?_)
  · try simp only [decide_eq_true_eq, decide_eq_false_iff_not, beq_iff_eq, beq_eq_false_iff_ne, bne_iff_ne, bne_eq_false_iff_eq, Bool.and_eq_true, Bool.and_eq_false_iff, Bool.or_eq_true, Bool.or_eq_false_iff, Bool.not_eq_true', Bool.not_eq_false', gt_iff_lt, ge_iff_le, Int.not_lt, Int.not_le, ne_eq, Int.natCast_nonneg, true_and, and_true, Decidable.not_not, not_true_eq_false, not_false_eq_true] at hb0
    refine Tr.seq ?_
    refine Tr.region ?_
    refine TrL.stepS 2 (.plain rfl (.assign rfl (.of rfl))) rfl rfl ?_
    refine TrL.nil ?_
    refine Fin.keepG (Γ' := [(2, _)]) (.same rfl .nil) ?_
    refine Fin.next ?_
    refine Tr.ret ?_
    refine Fin.thenRet ?_
    exact Fin.retI (rs := [_]) (Rs' := [Lst handR xs]) rfl (.cons (.tmp rfl) .nil) (.cons ((fun v w h => by rw [hb hb0]; exact L.lst_nil' h)) .nil)
  · try simp only [decide_eq_true_eq, decide_eq_false_iff_not, beq_iff_eq, beq_eq_false_iff_ne, bne_iff_ne, bne_eq_false_iff_eq, Bool.and_eq_true, Bool.and_eq_false_iff, Bool.or_eq_true, Bool.or_eq_false_iff, Bool.not_eq_true', Bool.not_eq_false', gt_iff_lt, ge_iff_le, Int.not_lt, Int.not_le, ne_eq, Int.natCast_nonneg, true_and, and_true, Decidable.not_not, not_true_eq_false, not_false_eq_true] at hb0
    refine Tr.skip ?_
    refine Fin.next ?_
    refine Tr.seq ?_
    refine Tr.region ?_
    refine TrL.sliceOwn 20 (K := handR) (xs := []) rfl rfl 5 rfl rfl .nil Try.underlying78 T.sz75 T.zb75 rfl (by decide) rfl fun v5 hv5 => ?_
    refine TrL.stepS 6 (.plain rfl (.move rfl (.of rfl))) rfl rfl ?_
    refine TrL.appendG 20 (bytes := 16) rfl rfl 7 rfl rfl (.of rfl) rfl rfl (.of rfl) Try.underlying78 T.sz75 T.el75 (by simp; omega) (by simp only [maxLen, List.length_append, List.length_cons, List.length_nil, List.length_map, List.length_take]; omega) fun v7 => ?_
    refine TrL.stepS 2 (.plain rfl (.assign rfl (.of rfl))) rfl rfl ?_
    refine TrL.nil ?_
    refine Fin.keepG (Γ' := [(2, _)]) (.same rfl .nil) ?_
    refine Fin.next ?_
    refine Tr.ret ?_
    refine Fin.freeze 20 2 rfl rfl rfl ?_
    exact Fin.retI (rs := [_]) (Rs' := [Lst handR xs]) rfl (.cons (.tmp rfl) .nil) (.cons ((fun v w h => by rw [List.nil_append] at h; exact h)) .nil)

/- slices.Clone[[]int,int] -/
set_option maxRecDepth 100000 in
theorem F164 (xs : List Int) (hx0 : xs.length ≤ 1000) : FnP Try.prog 164 [Lst (intR .i64) xs] (Lst (intR .i64) xs) := by
  refine FnP.mk' Try.func164 T.nm164 rfl (N := 8) rfl rfl fun B hB hκ => ?_
  refine Tr.seq ?_
  refine Tr.region ?_
  refine TrL.stepS 2 (.plain rfl (.assign rfl (.of rfl))) rfl rfl ?_
  refine TrL.nil ?_
  refine Fin.keepG (Γ' := [(0, _)]) (.same rfl .nil) ?_
  refine Fin.next ?_
  refine Tr.seq ?_
  refine Tr.seq ?_
  refine Tr.region ?_
  refine TrL.stepS 3 (.plain rfl (.move rfl (.of rfl))) rfl rfl ?_
  refine TrL.stepS 4 (.plain rfl (.eqlLN rfl (.of rfl) (.of rfl) Try.underlying79)) rfl rfl ?_
  refine TrL.nil ?_
  refine Fin.keepG (Γ' := [(0, _), (4, _)]) (.same rfl (.same rfl .nil)) ?_
  refine Fin.exP 4 rfl fun b hb => ?_
  refine Fin.next ?_
  refine Tr.cond rfl (fun hb0 => ?_) (fun hb0 => ?_)
  · try simp only [decide_eq_true_eq, decide_eq_false_iff_not, beq_iff_eq, beq_eq_false_iff_ne, bne_iff_ne, bne_eq_false_iff_eq, Bool.and_eq_true, Bool.and_eq_false_iff, Bool.or_eq_true, Bool.or_eq_false_iff, Bool.not_eq_true', Bool.not_eq_false', gt_iff_lt, ge_iff_le, Int.not_lt, Int.not_le, ne_eq, Int.natCast_nonneg, true_and, and_true, Decidable.not_not, not_true_eq_false, not_false_eq_true] at hb0
    refine Tr.seq ?_
    refine Tr.region ?_
    refine TrL.stepS 2 (.plain rfl (.assign rfl (.of rfl))) rfl rfl ?_
    refine TrL.nil ?_
    refine Fin.keepG (Γ' := [(2, _)]) (.same rfl .nil) ?_
    refine Fin.next ?_
    refine Tr.ret ?_
    refine Fin.thenRet ?_
    exact Fin.retI (rs := [_]) (Rs' := [Lst (intR .i64) xs]) rfl (.cons (.tmp rfl) .nil) (.cons ((fun v w h => by rw [hb hb0]; exact L.lst_nil' h)) .nil)
  · try simp only [decide_eq_true_eq, decide_eq_false_iff_not, beq_iff_eq, beq_eq_false_iff_ne, bne_iff_ne, bne_eq_false_iff_eq, Bool.and_eq_true, Bool.and_eq_false_iff, Bool.or_eq_true, Bool.or_eq_false_iff, Bool.not_eq_true', Bool.not_eq_false', gt_iff_lt, ge_iff_le, Int.not_lt, Int.not_le, ne_eq, Int.natCast_nonneg, true_and, and_true, Decidable.not_not, not_true_eq_false, not_false_eq_true] at hb0
    refine Tr.skip ?_
    refine Fin.next ?_
    refine Tr.seq ?_
    refine Tr.region ?_
    refine TrL.sliceOwn 20 (K := (intR .i64)) (xs := []) rfl rfl 5 rfl rfl .nil Try.underlying79 T.sz3 T.zb3 rfl (by decide) rfl fun v5 hv5 => ?_
    refine TrL.stepS 6 (.plain rfl (.move rfl (.of rfl))) rfl rfl ?_
    refine TrL.appendG 20 (bytes := 8) rfl rfl 7 rfl rfl (.of rfl) rfl rfl (.of rfl) Try.underlying79 T.sz3 T.el3 (by simp; omega) (by simp only [maxLen, List.length_append, List.length_cons, List.length_nil, List.length_map, List.length_take]; omega) fun v7 => ?_
    refine TrL.stepS 2 (.plain rfl (.assign rfl (.of rfl))) rfl rfl ?_
    refine TrL.nil ?_
    refine Fin.keepG (Γ' := [(2, _)]) (.same rfl .nil) ?_
    refine Fin.next ?_
    refine Tr.ret ?_
    refine Fin.freeze 20 2 rfl rfl rfl ?_
    exact Fin.retI (rs := [_]) (Rs' := [Lst (intR .i64) xs]) rfl (.cons (.tmp rfl) .nil) (.cons ((fun v w h => by rw [List.nil_append] at h; exact h)) .nil)

/- slices.Clone[[]int,int] -/
set_option maxRecDepth 100000 in
theorem F164b (v : Value) (xs : List Int) (hx0 : xs.length ≤ 1000) : FnG Try.prog 164 [is v] [View (intR .i64) v xs] [] (γ := Unit) (fun _ => Lst (intR .i64) xs) (fun _ => []) := by
  refine FnG.mk' Try.func164 T.nm164 rfl (N := 8) rfl rfl (t := 3) rfl fun B => ?_
  refine Tr.seq ?_
  refine Tr.memP 2 rfl rfl view_form2 fun hf => ?_
  obtain ⟨A, c, rfl, hc, hnil⟩ := hf
  refine Tr.region ?_
  refine TrL.stepS 2 (.plain rfl (.assign rfl (.of rfl))) rfl rfl ?_
  refine TrL.nil ?_
  refine Fin.keepG (Γ' := [(0, _)]) (.same rfl .nil) ?_
  refine Fin.next ?_
  refine Tr.seq ?_
  refine Tr.seq ?_
  refine Tr.region ?_
  refine TrL.stepS 3 (.plain rfl (.move rfl (.of rfl))) rfl rfl ?_
  refine TrL.stepS 4 (.plain rfl (.eqlSN rfl (.of rfl) (.of rfl) Try.underlying79)) rfl rfl ?_
  refine TrL.nil ?_
  refine Fin.keepG (Γ' := [(0, _), (4, _)]) (.same rfl (.same rfl .nil)) ?_
  refine Fin.next ?_
  refine Tr.cond rfl (fun hb0 => ?_) (fun hb0 => ?_)
  · try simp only [decide_eq_true_eq, decide_eq_false_iff_not, beq_iff_eq, beq_eq_false_iff_ne, bne_iff_ne, bne_eq_false_iff_eq, Bool.and_eq_true, Bool.and_eq_false_iff, Bool.or_eq_true, Bool.or_eq_false_iff, Bool.not_eq_true', Bool.not_eq_false', gt_iff_lt, ge_iff_le, Int.not_lt, Int.not_le, ne_eq, Int.natCast_nonneg, true_and, and_true, Decidable.not_not, not_true_eq_false, not_false_eq_true] at hb0
    refine Tr.seq ?_
    refine Tr.region ?_
    refine TrL.stepS 2 (.plain rfl (.assign rfl (.of rfl))) rfl rfl ?_
    refine TrL.nil ?_
    refine Fin.keepG (Γ' := [(2, _)]) (.same rfl .nil) ?_
    refine Fin.next ?_
    refine Tr.ret ?_
    refine Fin.thenRet ?_
    exact Fin.retGI 3 rfl (()) [] (rs := [_]) rfl (.cons (.tmp rfl) .nil) (.cons ((fun v w h => by rw [hnil (by simpa using hb0)]; exact L.lst_nil' h)) .nil) rfl (.nil) rfl
  · try simp only [decide_eq_true_eq, decide_eq_false_iff_not, beq_iff_eq, beq_eq_false_iff_ne, bne_iff_ne, bne_eq_false_iff_eq, Bool.and_eq_true, Bool.and_eq_false_iff, Bool.or_eq_true, Bool.or_eq_false_iff, Bool.not_eq_true', Bool.not_eq_false', gt_iff_lt, ge_iff_le, Int.not_lt, Int.not_le, ne_eq, Int.natCast_nonneg, true_and, and_true, Decidable.not_not, not_true_eq_false, not_false_eq_true] at hb0
    refine Tr.skip ?_
    refine Fin.next ?_
    refine Tr.seq ?_
    refine Tr.region ?_
    refine TrL.sliceOwn 20 (K := (intR .i64)) (xs := []) rfl rfl 5 rfl rfl .nil Try.underlying79 T.sz3 T.zb3 rfl (by decide) rfl fun v5 hv5 => ?_
    refine TrL.stepS 6 (.plain rfl (.move rfl (.of rfl))) rfl rfl ?_
    refine TrL.appendV 20 2 (bytes := 8) rfl rfl 7 rfl rfl (.of rfl) rfl rfl (.of rfl) rfl View.refl rfl Try.underlying79 T.sz3 T.el3 (by simp; omega) (by simp only [maxLen, List.length_append, List.length_cons, List.length_nil, List.length_map, List.length_take]; omega) fun v7 => ?_
    refine TrL.stepS 2 (.plain rfl (.assign rfl (.of rfl))) rfl rfl ?_
    refine TrL.nil ?_
    refine Fin.keepG (Γ' := [(2, _)]) (.same rfl .nil) ?_
    refine Fin.next ?_
    refine Tr.ret ?_
    refine Fin.freeze 20 2 rfl rfl rfl ?_
    exact Fin.retGI 3 rfl (()) [] (rs := [_]) rfl (.cons (.tmp rfl) .nil) (.cons ((fun v w h => by rw [List.nil_append] at h; exact h)) .nil) rfl (.nil) rfl

end Go.Proofs.Ytemkogoclljhpaa