import Derived.Test.YtemkogoclljhpaaS4
namespace Go.Proofs.Ytemkogoclljhpaa
open Go Go.Proofs.Ytemkogoclljhpaa.L
set_option linter.unusedVariables false
set_option linter.unusedSimpArgs false

namespace T

end T


theorem sum2 (a b : Int) : [a, b].sum = a + b := by simp
theorem clamp_if (a b d : Int) : (if a < b ∨ d < b then b else if d < a then d else a) = max b (min a d) := by
  split
  · omega
  · split <;> omega

/- tidepool/tidepooltop.numbers33 -/
set_option maxRecDepth 100000 in
theorem F21 (a b d : Int) (xs : List Int) (ha : -9223372036854775808 ≤ a ∧ a ≤ 9223372036854775807) (hb : -9223372036854775808 ≤ b ∧ b ≤ 9223372036854775807) (hd : -9223372036854775808 ≤ d ∧ d ≤ 9223372036854775807) (hl : xs.length ≤ 1000) (hx0 : ∀ x ∈ xs, -9223372036854775808 ≤ x ∧ x ≤ 9223372036854775807) : FnP Try.prog 21 [is (.int .i64 a), is (.int .i64 b), is (.int .i64 d), Lst (intR .i64) xs] (is (.bool true)) := by
  refine FnP.mk' Try.func21 T.nm21 rfl (N := 268) rfl rfl fun B hB hκ => ?_
  refine Tr.seq ?_
  refine Tr.region ?_
  refine TrL.stepS 8 (.plain rfl (.assign rfl (.of rfl))) rfl rfl ?_
  refine TrL.nil ?_
  refine Fin.keepG (Γ' := [(0, _), (1, _), (2, _), (3, _)]) (.same rfl (.same rfl (.same rfl (.same rfl .nil)))) ?_
  refine Fin.next ?_
  refine Tr.seq ?_
  refine Tr.region ?_
  refine TrL.stepS 37 (.plain rfl (.move rfl (.of rfl))) rfl rfl ?_
  refine TrL.stepS 38 (.plain rfl (.move rfl (.of rfl))) rfl rfl ?_
  refine TrL.stepS 39 (.plain rfl (.slice (K := intR .i64) (xs := [_, _]) rfl (.cons (.map (.of rfl) (intR_elem _)) (.cons (.map (.of rfl) (intR_elem _)) .nil)) Try.underlying24 T.sz2 T.zb2 rfl (by decide))) rfl rfl ?_
  refine TrL.stepS 40 (.plain rfl (.call rfl (F82 [a, b] (by simp) (by simp; omega)) (.cons (.of rfl) .nil))) rfl rfl ?_
  refine TrL.stepS 36 (.plain rfl (.move rfl (.of rfl))) rfl rfl ?_
  refine TrL.stepS 41 (.plain rfl (.extract rfl (.of rfl) rfl)) rfl rfl ?_
  refine TrL.stepS 42 (.plain rfl (.extract rfl (.of rfl) rfl)) rfl rfl ?_
  refine TrL.stepS 9 (.plain rfl (.assign rfl (.of rfl))) rfl rfl ?_
  refine TrL.stepS 10 (.plain rfl (.assign rfl (.of rfl))) rfl rfl ?_
  refine TrL.nil ?_
  refine Fin.keepG (Γ' := [(0, _), (1, _), (2, _), (3, _), (9, _), (10, _)]) (.same rfl (.same rfl (.same rfl (.same rfl (.same rfl (.same rfl .nil)))))) ?_
  refine Fin.next ?_
  refine Tr.seq ?_
  refine Tr.seq ?_
  refine Tr.region ?_
  refine TrL.stepS 44 (.plain rfl (.move rfl (.of rfl))) rfl rfl ?_
  refine TrL.stepS 45 (.plain rfl (.move rfl (.of rfl))) rfl rfl ?_
  refine TrL.stepS 46 (.plain rfl (.call rfl (F70 a b ha hb) (.cons (.of rfl) (.cons (.of rfl) .nil)))) rfl rfl ?_
  refine TrL.stepS 43 (.plain rfl (.move rfl (.of rfl))) rfl rfl ?_
  refine TrL.stepS 47 (.plain rfl (.extract rfl (.of rfl) rfl)) rfl rfl ?_
  refine TrL.stepS 48 (.plain rfl (.extract rfl (.of rfl) rfl)) rfl rfl ?_
  refine TrL.stepS 11 (.plain rfl (.assign rfl (.of rfl))) rfl rfl ?_
  refine TrL.stepS 12 (.plain rfl (.assign rfl (.of rfl))) rfl rfl ?_
  refine TrL.nil ?_
  refine Fin.keepG (Γ' := [(0, _), (1, _), (2, _), (3, _), (9, _), (10, _), (11, _), (12, _)]) (.same rfl (.same rfl (.same rfl (.same rfl (.same rfl (.same rfl (.same rfl (.same rfl .nil)))))))) ?_
  refine Fin.next ?_
  refine Tr.seq ?_
  refine Tr.region ?_
  refine TrL.stepS 49 (.plain rfl (.move rfl (.of rfl))) rfl rfl ?_
  refine TrL.stepS 50 (.plain rfl (.move rfl (.of rfl))) rfl rfl ?_
  refine TrL.stepS 51 (.plain rfl (.neq rfl (.of rfl) (.of rfl))) rfl rfl ?_
  refine TrL.stepS 52 (.plain rfl (.move rfl (.of rfl))) rfl rfl ?_
  refine TrL.stepS 53 (.guarded rfl rfl rfl fun hg => .move rfl (.of rfl)) rfl rfl ?_
  refine TrL.stepS 54 (.guarded rfl rfl rfl fun hg => .move rfl (.of rfl)) rfl rfl ?_
  refine TrL.stepS 55 (.guarded rfl rfl rfl fun hg => .neqB rfl (.cond rfl hg) (.cond rfl hg) Try.underlying4) rfl rfl ?_
  refine TrL.stepS 56 (.plain rfl (.or rfl (.of rfl) (.cond rfl fun h => h))) rfl rfl ?_
  refine TrL.nil ?_
  refine Fin.keepG (Γ' := [(0, _), (1, _), (2, _), (3, _), (56, _)]) (.same rfl (.same rfl (.same rfl (.same rfl (.same rfl .nil))))) ?_
  refine Fin.next ?_
  refine Tr.cond rfl (fun hb0 => ?_) (fun hb0 => ?_)
  · try simp only [decide_eq_true_eq, decide_eq_false_iff_not, beq_iff_eq, beq_eq_false_iff_ne, bne_iff_ne, bne_eq_false_iff_eq, Bool.and_eq_true, Bool.and_eq_false_iff, Bool.or_eq_true, Bool.or_eq_false_iff, Bool.not_eq_true', Bool.not_eq_false', gt_iff_lt, ge_iff_le, Int.not_lt, Int.not_le, ne_eq, Int.natCast_nonneg, true_and, and_true, Decidable.not_not, not_true_eq_false, not_false_eq_true] at hb0
    simp [sum2] at hb0
  · try simp only [decide_eq_true_eq, decide_eq_false_iff_not, beq_iff_eq, beq_eq_false_iff_ne, bne_iff_ne, bne_eq_false_iff_eq, Bool.and_eq_true, Bool.and_eq_false_iff, Bool.or_eq_true, Bool.or_eq_false_iff, Bool.not_eq_true', Bool.not_eq_false', gt_iff_lt, ge_iff_le, Int.not_lt, Int.not_le, ne_eq, Int.natCast_nonneg, true_and, and_true, Decidable.not_not, not_true_eq_false, not_false_eq_true] at hb0
    refine Tr.skip ?_
    refine Fin.next ?_
    refine Tr.seq ?_
    refine Tr.region ?_
    refine TrL.allocS 20 (zs := [.int .i64 0, .int .u64 0]) rfl rfl (by kernel_rfl) 13 rfl rfl rfl fun b20 => ?_
    refine TrL.nil ?_
    refine Fin.keepG (Γ' := [(0, _), (1, _), (2, _), (3, _), (13, _)]) (.same rfl (.same rfl (.same rfl (.same rfl (.same rfl .nil))))) ?_
    refine Fin.next ?_
    refine Tr.seq ?_
    refine Tr.region ?_
    refine TrL.stepS 57 (.plain rfl (.move rfl (.of rfl))) rfl rfl ?_
    refine TrL.callG [] [20] [20] rfl rfl 58 rfl rfl (F83 b20 0 a (by omega) ha) (.cons (.of rfl) (.cons (.of rfl) .nil)) (.same rfl .nil) rfl rfl (fun _ => rfl) fun _ => ?_
    refine TrL.nil ?_
    refine Fin.keepG (Γ' := [(0, _), (1, _), (2, _), (3, _), (13, _)]) (.same rfl (.same rfl (.same rfl (.same rfl (.same rfl .nil))))) ?_
    refine Fin.next ?_
    refine Tr.seqJK (γ := Unit) (Γk := [(0, _), (1, _), (2, _), (3, _), (13, _)]) (Mk := []) (.same rfl (.same rfl (.same rfl (.same rfl (.same rfl .nil))))) .nil (fun _ => True) (fun _ => fun r => (20, Blk b20 [.int .i64 ((a - b) / 18446744073709551616), .int .u64 ((a - b) % 18446744073709551616)] 130) :: r) (fun _ => fun r => r) ?jx11 ?jk11
    case jx11 =>
      refine Tr.seq ?_
      refine Tr.region ?_
      refine TrL.stepS 59 (.plain rfl (.move rfl (.of rfl))) rfl rfl ?_
      refine TrL.stepS 60 (.plain rfl (.eql rfl (.of rfl) (.of rfl))) rfl rfl ?_
      refine TrL.nil ?_
      refine Fin.keepG (Γ' := [(0, _), (1, _), (2, _), (3, _), (13, _), (60, _)]) (.same rfl (.same rfl (.same rfl (.same rfl (.same rfl (.same rfl .nil)))))) ?_
      refine Fin.next ?_
      refine Tr.cond rfl (fun hb1 => ?_) (fun hb1 => ?_)
      · try simp only [decide_eq_true_eq, decide_eq_false_iff_not, beq_iff_eq, beq_eq_false_iff_ne, bne_iff_ne, bne_eq_false_iff_eq, Bool.and_eq_true, Bool.and_eq_false_iff, Bool.or_eq_true, Bool.or_eq_false_iff, Bool.not_eq_true', Bool.not_eq_false', gt_iff_lt, ge_iff_le, Int.not_lt, Int.not_le, ne_eq, Int.natCast_nonneg, true_and, and_true, Decidable.not_not, not_true_eq_false, not_false_eq_true] at hb1
        refine Tr.seq ?_
        refine Tr.region ?_
        refine TrL.callG [] [20] [20] rfl rfl 61 rfl rfl (F83 b20 (0 + a) 9223372036854775807 (by omega) (by omega)) (.cons (.of rfl) (.cons (.of rfl) .nil)) (.same rfl .nil) rfl rfl (fun _ => rfl) fun _ => ?_
        refine TrL.nil ?_
        refine Fin.keepG (Γ' := [(0, _), (1, _), (2, _), (3, _), (13, _)]) (.same rfl (.same rfl (.same rfl (.same rfl (.same rfl .nil))))) ?_
        refine Fin.next ?_
        refine Tr.region ?_
        refine TrL.callG [] [20] [20] rfl rfl 62 rfl rfl (F83 b20 (0 + a + 9223372036854775807) 1 (by omega) (by omega)) (.cons (.of rfl) (.cons (.of rfl) .nil)) (.same rfl .nil) rfl rfl (fun _ => rfl) fun _ => ?_
        refine TrL.nil ?_
        refine Fin.keepG (Γ' := [(0, _), (1, _), (2, _), (3, _), (13, _)]) (.same rfl (.same rfl (.same rfl (.same rfl (.same rfl .nil))))) ?_
        exact Fin.reach (()) (trivial) (.cons rfl (fun F L w h => by rw [show a - b = 0 + a + 9223372036854775807 + 1 by omega]; exact h) .nil) (.same rfl (.same rfl (.same rfl (.same rfl (.same rfl .nil)))))
      · try simp only [decide_eq_true_eq, decide_eq_false_iff_not, beq_iff_eq, beq_eq_false_iff_ne, bne_iff_ne, bne_eq_false_iff_eq, Bool.and_eq_true, Bool.and_eq_false_iff, Bool.or_eq_true, Bool.or_eq_false_iff, Bool.not_eq_true', Bool.not_eq_false', gt_iff_lt, ge_iff_le, Int.not_lt, Int.not_le, ne_eq, Int.natCast_nonneg, true_and, and_true, Decidable.not_not, not_true_eq_false, not_false_eq_true] at hb1
        refine Tr.region ?_
        refine TrL.stepS 63 (.plain rfl (.move rfl (.of rfl))) rfl rfl ?_
        refine TrL.stepS 64 (.plain rfl (OpM.eqI (n := -b) (.neg rfl (.of rfl)) (by rw [wrap_i64]; omega))) rfl rfl ?_
        refine TrL.callG [] [20] [20] rfl rfl 65 rfl rfl (F83 b20 (0 + a) (-b) (by omega) (by omega)) (.cons (.of rfl) (.cons (.of rfl) .nil)) (.same rfl .nil) rfl rfl (fun _ => rfl) fun _ => ?_
        refine TrL.nil ?_
        refine Fin.keepG (Γ' := [(0, _), (1, _), (2, _), (3, _), (13, _)]) (.same rfl (.same rfl (.same rfl (.same rfl (.same rfl .nil))))) ?_
        exact Fin.reach (()) (trivial) (.cons rfl (fun F L w h => by rw [show a - b = 0 + a + -b by omega]; exact h) .nil) (.same rfl (.same rfl (.same rfl (.same rfl (.same rfl .nil)))))
    case jk11 =>
      intro _ hI
      refine Tr.seq ?_
      refine Tr.region ?_
      refine TrL.stepS 67 (.plain rfl (.callR [20] rfl (F84 b20 (a - b) (by omega)) (.cons (.of rfl) .nil) (.same rfl .nil) rfl)) rfl rfl ?_
      refine TrL.stepS 66 (.plain rfl (.move rfl (.of rfl))) rfl rfl ?_
      refine TrL.stepS 68 (.plain rfl (.extract rfl (.of rfl) rfl)) rfl rfl ?_
      refine TrL.stepS 69 (.plain rfl (.extract rfl (.of rfl) rfl)) rfl rfl ?_
      refine TrL.stepS 14 (.plain rfl (.assign rfl (.of rfl))) rfl rfl ?_
      refine TrL.stepS 10 (.plain rfl (.assign rfl (.of rfl))) rfl rfl ?_
      refine TrL.nil ?_
      refine Fin.keepG (Γ' := [(0, _), (1, _), (2, _), (3, _), (10, _), (14, _)]) (.same rfl (.same rfl (.same rfl (.same rfl (.same rfl (.same rfl .nil)))))) ?_
      refine Fin.next ?_
      refine Tr.seq ?_
      refine Tr.seq ?_
      refine Tr.region ?_
      refine TrL.stepS 71 (.plain rfl (.move rfl (.of rfl))) rfl rfl ?_
      refine TrL.stepS 72 (.plain rfl (.move rfl (.of rfl))) rfl rfl ?_
      refine TrL.stepS 73 (.plain rfl (.call rfl (F71 a b ha hb) (.cons (.of rfl) (.cons (.of rfl) .nil)))) rfl rfl ?_
      refine TrL.stepS 70 (.plain rfl (.move rfl (.of rfl))) rfl rfl ?_
      refine TrL.stepS 74 (.plain rfl (.extract rfl (.of rfl) rfl)) rfl rfl ?_
      refine TrL.stepS 75 (.plain rfl (.extract rfl (.of rfl) rfl)) rfl rfl ?_
      refine TrL.stepS 15 (.plain rfl (.assign rfl (.of rfl))) rfl rfl ?_
      refine TrL.stepS 16 (.plain rfl (.assign rfl (.of rfl))) rfl rfl ?_
      refine TrL.nil ?_
      refine Fin.keepG (Γ' := [(0, _), (1, _), (2, _), (3, _), (10, _), (14, _), (15, _), (16, _)]) (.same rfl (.same rfl (.same rfl (.same rfl (.same rfl (.same rfl (.same rfl (.same rfl .nil)))))))) ?_
      refine Fin.next ?_
      refine Tr.seq ?_
      refine Tr.region ?_
      refine TrL.stepS 76 (.plain rfl (.move rfl (.of rfl))) rfl rfl ?_
      refine TrL.stepS 77 (.plain rfl (.move rfl (.of rfl))) rfl rfl ?_
      refine TrL.stepS 78 (.plain rfl (.neq rfl (.of rfl) (.of rfl))) rfl rfl ?_
      refine TrL.stepS 79 (.plain rfl (.move rfl (.of rfl))) rfl rfl ?_
      refine TrL.stepS 80 (.guarded rfl rfl rfl fun hg => .move rfl (.of rfl)) rfl rfl ?_
      refine TrL.stepS 81 (.guarded rfl rfl rfl fun hg => .move rfl (.of rfl)) rfl rfl ?_
      refine TrL.stepS 82 (.guarded rfl rfl rfl fun hg => .neqB rfl (.cond rfl hg) (.cond rfl hg) Try.underlying4) rfl rfl ?_
      refine TrL.stepS 83 (.plain rfl (.or rfl (.of rfl) (.cond rfl fun h => h))) rfl rfl ?_
      refine TrL.nil ?_
      refine Fin.keepG (Γ' := [(0, _), (1, _), (2, _), (3, _), (83, _)]) (.same rfl (.same rfl (.same rfl (.same rfl (.same rfl .nil))))) ?_
      refine Fin.next ?_
      refine Tr.cond rfl (fun hb2 => ?_) (fun hb2 => ?_)
      · try simp only [decide_eq_true_eq, decide_eq_false_iff_not, beq_iff_eq, beq_eq_false_iff_ne, bne_iff_ne, bne_eq_false_iff_eq, Bool.and_eq_true, Bool.and_eq_false_iff, Bool.or_eq_true, Bool.or_eq_false_iff, Bool.not_eq_true', Bool.not_eq_false', gt_iff_lt, ge_iff_le, Int.not_lt, Int.not_le, ne_eq, Int.natCast_nonneg, true_and, and_true, Decidable.not_not, not_true_eq_false, not_false_eq_true] at hb2
        simp at hb2
      · try simp only [decide_eq_true_eq, decide_eq_false_iff_not, beq_iff_eq, beq_eq_false_iff_ne, bne_iff_ne, bne_eq_false_iff_eq, Bool.and_eq_true, Bool.and_eq_false_iff, Bool.or_eq_true, Bool.or_eq_false_iff, Bool.not_eq_true', Bool.not_eq_false', gt_iff_lt, ge_iff_le, Int.not_lt, Int.not_le, ne_eq, Int.natCast_nonneg, true_and, and_true, Decidable.not_not, not_true_eq_false, not_false_eq_true] at hb2
        refine Tr.skip ?_
        refine Fin.next ?_
        refine Tr.seq ?_
        refine Tr.region ?_
        refine TrL.stepS 85 (.plain rfl (.move rfl (.of rfl))) rfl rfl ?_
        refine TrL.stepS 86 (.plain rfl (.move rfl (.of rfl))) rfl rfl ?_
        refine TrL.stepS 87 (.plain rfl (.call rfl (F85 a b ha hb) (.cons (.of rfl) (.cons (.of rfl) .nil)))) rfl rfl ?_
        refine TrL.stepS 84 (.plain rfl (.move rfl (.of rfl))) rfl rfl ?_
        refine TrL.stepS 88 (.plain rfl (.extract rfl (.of rfl) rfl)) rfl rfl ?_
        refine TrL.stepS 89 (.plain rfl (.extract rfl (.of rfl) rfl)) rfl rfl ?_
        refine TrL.stepS 17 (.plain rfl (.assign rfl (.of rfl))) rfl rfl ?_
        refine TrL.stepS 10 (.plain rfl (.assign rfl (.of rfl))) rfl rfl ?_
        refine TrL.nil ?_
        refine Fin.keepG (Γ' := [(0, _), (1, _), (2, _), (3, _), (10, _), (17, _)]) (.same rfl (.same rfl (.same rfl (.same rfl (.same rfl (.same rfl .nil)))))) ?_
        refine Fin.next ?_
        refine Tr.seq ?_
        refine Tr.seq ?_
        refine Tr.region ?_
        refine TrL.stepS 91 (.plain rfl (.move rfl (.of rfl))) rfl rfl ?_
        refine TrL.stepS 92 (.plain rfl (.move rfl (.of rfl))) rfl rfl ?_
        refine TrL.stepS 93 (.plain rfl (.call rfl (F72 a b ha hb) (.cons (.of rfl) (.cons (.of rfl) .nil)))) rfl rfl ?_
        refine TrL.stepS 90 (.plain rfl (.move rfl (.of rfl))) rfl rfl ?_
        refine TrL.stepS 94 (.plain rfl (.extract rfl (.of rfl) rfl)) rfl rfl ?_
        refine TrL.stepS 95 (.plain rfl (.extract rfl (.of rfl) rfl)) rfl rfl ?_
        refine TrL.stepS 18 (.plain rfl (.assign rfl (.of rfl))) rfl rfl ?_
        refine TrL.stepS 19 (.plain rfl (.assign rfl (.of rfl))) rfl rfl ?_
        refine TrL.nil ?_
        refine Fin.keepG (Γ' := [(0, _), (1, _), (2, _), (3, _), (10, _), (17, _), (18, _), (19, _)]) (.same rfl (.same rfl (.same rfl (.same rfl (.same rfl (.same rfl (.same rfl (.same rfl .nil)))))))) ?_
        refine Fin.next ?_
        refine Tr.seq ?_
        refine Tr.region ?_
        refine TrL.stepS 96 (.plain rfl (.move rfl (.of rfl))) rfl rfl ?_
        refine TrL.stepS 97 (.plain rfl (.move rfl (.of rfl))) rfl rfl ?_
        refine TrL.stepS 98 (.plain rfl (.neq rfl (.of rfl) (.of rfl))) rfl rfl ?_
        refine TrL.stepS 99 (.plain rfl (.move rfl (.of rfl))) rfl rfl ?_
        refine TrL.stepS 100 (.guarded rfl rfl rfl fun hg => .move rfl (.of rfl)) rfl rfl ?_
        refine TrL.stepS 101 (.guarded rfl rfl rfl fun hg => .move rfl (.of rfl)) rfl rfl ?_
        refine TrL.stepS 102 (.guarded rfl rfl rfl fun hg => .neqB rfl (.cond rfl hg) (.cond rfl hg) Try.underlying4) rfl rfl ?_
        refine TrL.stepS 103 (.plain rfl (.or rfl (.of rfl) (.cond rfl fun h => h))) rfl rfl ?_
        refine TrL.nil ?_
        refine Fin.keepG (Γ' := [(0, _), (1, _), (2, _), (3, _), (103, _)]) (.same rfl (.same rfl (.same rfl (.same rfl (.same rfl .nil))))) ?_
        refine Fin.next ?_
        refine Tr.cond rfl (fun hb3 => ?_) (fun hb3 => ?_)
        · try simp only [decide_eq_true_eq, decide_eq_false_iff_not, beq_iff_eq, beq_eq_false_iff_ne, bne_iff_ne, bne_eq_false_iff_eq, Bool.and_eq_true, Bool.and_eq_false_iff, Bool.or_eq_true, Bool.or_eq_false_iff, Bool.not_eq_true', Bool.not_eq_false', gt_iff_lt, ge_iff_le, Int.not_lt, Int.not_le, ne_eq, Int.natCast_nonneg, true_and, and_true, Decidable.not_not, not_true_eq_false, not_false_eq_true] at hb3
          simp at hb3
        · try simp only [decide_eq_true_eq, decide_eq_false_iff_not, beq_iff_eq, beq_eq_false_iff_ne, bne_iff_ne, bne_eq_false_iff_eq, Bool.and_eq_true, Bool.and_eq_false_iff, Bool.or_eq_true, Bool.or_eq_false_iff, Bool.not_eq_true', Bool.not_eq_false', gt_iff_lt, ge_iff_le, Int.not_lt, Int.not_le, ne_eq, Int.natCast_nonneg, true_and, and_true, Decidable.not_not, not_true_eq_false, not_false_eq_true] at hb3
          refine Tr.skip ?_
          refine Fin.next ?_
          refine Tr.seq ?_
          refine Tr.region ?_
          refine TrL.stepS 104 (.plain rfl (.move rfl (.of rfl))) rfl rfl ?_
          refine TrL.stepS 105 (.plain rfl (.move rfl (.of rfl))) rfl rfl ?_
          refine TrL.stepS 106 (.plain rfl (OpM.neq rfl (.of rfl) (.of rfl))) rfl rfl ?_
          refine TrL.stepS 20 (.plain rfl (.assign rfl (.of rfl))) rfl rfl ?_
          refine TrL.stepS 10 (.plain rfl (.assign rfl (.of rfl))) rfl rfl ?_
          refine TrL.nil ?_
          refine Fin.keepG (Γ' := [(0, _), (1, _), (2, _), (3, _), (10, _), (20, _)]) (.same rfl (.same rfl (.same rfl (.same rfl (.same rfl (.same rfl .nil)))))) ?_
          refine Fin.next ?_
          refine Tr.seqJK (γ := Unit) (Γk := [(0, _), (1, _), (2, _), (3, _), (10, _)]) (Mk := [(20, _)]) (.same rfl (.same rfl (.same rfl (.same rfl (.same rfl .nil))))) (.same rfl .nil) (fun _ => True) (fun _ => fun r => r) (fun _ => fun r => (20, is (.int .i64 (if a < 0 then IntKind.i64.wrap (0 - a) else a))) :: r) ?jx22 ?jk22
          case jx22 =>
            refine Tr.seq ?_
            refine Tr.region ?_
            refine TrL.stepS 107 (.plain rfl (.move rfl (.of rfl))) rfl rfl ?_
            refine TrL.stepS 108 (.plain rfl (.lss rfl (.of rfl) (.of rfl))) rfl rfl ?_
            refine TrL.nil ?_
            refine Fin.keepG (Γ' := [(0, _), (1, _), (2, _), (3, _), (10, _), (20, _), (108, _)]) (.same rfl (.same rfl (.same rfl (.same rfl (.same rfl (.same rfl (.same rfl .nil))))))) ?_
            refine Fin.next ?_
            refine Tr.cond rfl (fun hb4 => ?_) (fun hb4 => ?_)
            · try simp only [decide_eq_true_eq, decide_eq_false_iff_not, beq_iff_eq, beq_eq_false_iff_ne, bne_iff_ne, bne_eq_false_iff_eq, Bool.and_eq_true, Bool.and_eq_false_iff, Bool.or_eq_true, Bool.or_eq_false_iff, Bool.not_eq_true', Bool.not_eq_false', gt_iff_lt, ge_iff_le, Int.not_lt, Int.not_le, ne_eq, Int.natCast_nonneg, true_and, and_true, Decidable.not_not, not_true_eq_false, not_false_eq_true] at hb4
              refine Tr.region ?_
              refine TrL.stepS 109 (.plain rfl (.move rfl (.of rfl))) rfl rfl ?_
              refine TrL.stepS 110 (.plain rfl (OpM.neg rfl (.of rfl))) rfl rfl ?_
              refine TrL.stepS 20 (.plain rfl (.assign rfl (.of rfl))) rfl rfl ?_
              refine TrL.nil ?_
              refine Fin.keepG (Γ' := [(0, _), (1, _), (2, _), (3, _), (10, _), (20, _)]) (.same rfl (.same rfl (.same rfl (.same rfl (.same rfl (.same rfl .nil)))))) ?_
              exact Fin.reach (()) (trivial) (.same rfl .nil) (.eq rfl (by rw [if_pos hb4]) (.same rfl (.same rfl (.same rfl (.same rfl (.same rfl .nil))))))
            · try simp only [decide_eq_true_eq, decide_eq_false_iff_not, beq_iff_eq, beq_eq_false_iff_ne, bne_iff_ne, bne_eq_false_iff_eq, Bool.and_eq_true, Bool.and_eq_false_iff, Bool.or_eq_true, Bool.or_eq_false_iff, Bool.not_eq_true', Bool.not_eq_false', gt_iff_lt, ge_iff_le, Int.not_lt, Int.not_le, ne_eq, Int.natCast_nonneg, true_and, and_true, Decidable.not_not, not_true_eq_false, not_false_eq_true] at hb4
              refine Tr.skip ?_
              exact Fin.reach (()) (trivial) (.same rfl .nil) (.eq rfl (by rw [if_neg (by omega)]) (.same rfl (.same rfl (.same rfl (.same rfl (.same rfl .nil))))))
          case jk22 =>
            intro _ hI
            refine Tr.seqJK (γ := Unit) (Γk := [(0, _), (1, _), (2, _), (3, _), (10, _)]) (Mk := [(20, _)]) (.same rfl (.same rfl (.same rfl (.same rfl (.same rfl .nil))))) (.same rfl .nil) (fun _ => True) (fun _ => fun r => r) (fun _ => fun r => (20, is (.int .i64 (if a = -9223372036854775808 then 0 else if a < 0 then -a else a))) :: r) ?jx24 ?jk24
            case jx24 =>
              refine Tr.seq ?_
              refine Tr.region ?_
              refine TrL.stepS 111 (.plain rfl (.move rfl (.of rfl))) rfl rfl ?_
              refine TrL.stepS 112 (.plain rfl (.not rfl (.of rfl))) rfl rfl ?_
              refine TrL.nil ?_
              refine Fin.keepG (Γ' := [(0, _), (1, _), (2, _), (3, _), (10, _), (20, _), (112, _)]) (.same rfl (.same rfl (.same rfl (.same rfl (.same rfl (.same rfl (.same rfl .nil))))))) ?_
              refine Fin.next ?_
              refine Tr.cond rfl (fun hb5 => ?_) (fun hb5 => ?_)
              · try simp only [decide_eq_true_eq, decide_eq_false_iff_not, beq_iff_eq, beq_eq_false_iff_ne, bne_iff_ne, bne_eq_false_iff_eq, Bool.and_eq_true, Bool.and_eq_false_iff, Bool.or_eq_true, Bool.or_eq_false_iff, Bool.not_eq_true', Bool.not_eq_false', gt_iff_lt, ge_iff_le, Int.not_lt, Int.not_le, ne_eq, Int.natCast_nonneg, true_and, and_true, Decidable.not_not, not_true_eq_false, not_false_eq_true] at hb5
                refine Tr.region ?_
                refine TrL.stepS 20 (.plain rfl (.assign rfl (.of rfl))) rfl rfl ?_
                refine TrL.nil ?_
                refine Fin.keepG (Γ' := [(0, _), (1, _), (2, _), (3, _), (10, _), (20, _)]) (.same rfl (.same rfl (.same rfl (.same rfl (.same rfl (.same rfl .nil)))))) ?_
                exact Fin.reach (()) (trivial) (.same rfl .nil) (.eq rfl (by congr 1; (try simp only [wrap_i64]); (repeat' split) <;> omega) (.same rfl (.same rfl (.same rfl (.same rfl (.same rfl .nil))))))
              · try simp only [decide_eq_true_eq, decide_eq_false_iff_not, beq_iff_eq, beq_eq_false_iff_ne, bne_iff_ne, bne_eq_false_iff_eq, Bool.and_eq_true, Bool.and_eq_false_iff, Bool.or_eq_true, Bool.or_eq_false_iff, Bool.not_eq_true', Bool.not_eq_false', gt_iff_lt, ge_iff_le, Int.not_lt, Int.not_le, ne_eq, Int.natCast_nonneg, true_and, and_true, Decidable.not_not, not_true_eq_false, not_false_eq_true] at hb5
                refine Tr.skip ?_
                exact Fin.reach (()) (trivial) (.same rfl .nil) (.eq rfl (by congr 1; (try simp only [wrap_i64]); (repeat' split) <;> omega) (.same rfl (.same rfl (.same rfl (.same rfl (.same rfl .nil))))))
            case jk24 =>
              intro _ hI
              refine Tr.seq ?_
              refine Tr.seq ?_
              refine Tr.region ?_
              refine TrL.stepS 114 (.plain rfl (.move rfl (.of rfl))) rfl rfl ?_
              refine TrL.stepS 115 (.plain rfl (.call rfl (F86 a ha) (.cons (.of rfl) .nil))) rfl rfl ?_
              refine TrL.stepS 113 (.plain rfl (.move rfl (.of rfl))) rfl rfl ?_
              refine TrL.stepS 116 (.plain rfl (.extract rfl (.of rfl) rfl)) rfl rfl ?_
              refine TrL.stepS 117 (.plain rfl (.extract rfl (.of rfl) rfl)) rfl rfl ?_
              refine TrL.stepS 21 (.plain rfl (.assign rfl (.of rfl))) rfl rfl ?_
              refine TrL.stepS 22 (.plain rfl (.assign rfl (.of rfl))) rfl rfl ?_
              refine TrL.nil ?_
              refine Fin.keepG (Γ' := [(0, _), (1, _), (2, _), (3, _), (10, _), (20, _), (21, _), (22, _)]) (.same rfl (.same rfl (.same rfl (.same rfl (.same rfl (.same rfl (.same rfl (.same rfl .nil)))))))) ?_
              refine Fin.next ?_
              refine Tr.seq ?_
              refine Tr.region ?_
              refine TrL.stepS 118 (.plain rfl (.move rfl (.of rfl))) rfl rfl ?_
              refine TrL.stepS 119 (.plain rfl (.move rfl (.of rfl))) rfl rfl ?_
              refine TrL.stepS 120 (.plain rfl (.neq rfl (.of rfl) (.of rfl))) rfl rfl ?_
              refine TrL.stepS 121 (.plain rfl (.move rfl (.of rfl))) rfl rfl ?_
              refine TrL.stepS 122 (.guarded rfl rfl rfl fun hg => .move rfl (.of rfl)) rfl rfl ?_
              refine TrL.stepS 123 (.guarded rfl rfl rfl fun hg => .move rfl (.of rfl)) rfl rfl ?_
              refine TrL.stepS 124 (.guarded rfl rfl rfl fun hg => .neqB rfl (.cond rfl hg) (.cond rfl hg) Try.underlying4) rfl rfl ?_
              refine TrL.stepS 125 (.plain rfl (.or rfl (.of rfl) (.cond rfl fun h => h))) rfl rfl ?_
              refine TrL.nil ?_
              refine Fin.keepG (Γ' := [(0, _), (1, _), (2, _), (3, _), (125, _)]) (.same rfl (.same rfl (.same rfl (.same rfl (.same rfl .nil))))) ?_
              refine Fin.next ?_
              refine Tr.cond rfl (fun hb6 => ?_) (fun hb6 => ?_)
              · try simp only [decide_eq_true_eq, decide_eq_false_iff_not, beq_iff_eq, beq_eq_false_iff_ne, bne_iff_ne, bne_eq_false_iff_eq, Bool.and_eq_true, Bool.and_eq_false_iff, Bool.or_eq_true, Bool.or_eq_false_iff, Bool.not_eq_true', Bool.not_eq_false', gt_iff_lt, ge_iff_le, Int.not_lt, Int.not_le, ne_eq, Int.natCast_nonneg, true_and, and_true, Decidable.not_not, not_true_eq_false, not_false_eq_true] at hb6
                exfalso; by_cases h : a = -9223372036854775808 <;> simp [h] at hb6
              · try simp only [decide_eq_true_eq, decide_eq_false_iff_not, beq_iff_eq, beq_eq_false_iff_ne, bne_iff_ne, bne_eq_false_iff_eq, Bool.and_eq_true, Bool.and_eq_false_iff, Bool.or_eq_true, Bool.or_eq_false_iff, Bool.not_eq_true', Bool.not_eq_false', gt_iff_lt, ge_iff_le, Int.not_lt, Int.not_le, ne_eq, Int.natCast_nonneg, true_and, and_true, Decidable.not_not, not_true_eq_false, not_false_eq_true] at hb6
                refine Tr.skip ?_
                refine Fin.next ?_
                refine Tr.seq ?_
                refine Tr.region ?_
                refine TrL.stepS 127 (.plain rfl (.move rfl (.of rfl))) rfl rfl ?_
                refine TrL.stepS 128 (.plain rfl (.call rfl (F82 xs hl hx0) (.cons (.of rfl) .nil))) rfl rfl ?_
                refine TrL.stepS 126 (.plain rfl (.move rfl (.of rfl))) rfl rfl ?_
                refine TrL.stepS 129 (.plain rfl (.extract rfl (.of rfl) rfl)) rfl rfl ?_
                refine TrL.stepS 130 (.plain rfl (.extract rfl (.of rfl) rfl)) rfl rfl ?_
                refine TrL.stepS 23 (.plain rfl (.assign rfl (.of rfl))) rfl rfl ?_
                refine TrL.stepS 10 (.plain rfl (.assign rfl (.of rfl))) rfl rfl ?_
                refine TrL.nil ?_
                refine Fin.keepG (Γ' := [(0, _), (1, _), (2, _), (3, _), (10, _), (23, _)]) (.same rfl (.same rfl (.same rfl (.same rfl (.same rfl (.same rfl .nil)))))) ?_
                refine Fin.next ?_
                refine Tr.seq ?_
                refine Tr.region ?_
                refine TrL.stepS 132 (.plain rfl (.move rfl (.of rfl))) rfl rfl ?_
                refine TrL.stepS 133 (.plain rfl (.call rfl (F73 xs hl hx0) (.cons (.of rfl) .nil))) rfl rfl ?_
                refine TrL.stepS 131 (.plain rfl (.move rfl (.of rfl))) rfl rfl ?_
                refine TrL.stepS 134 (.plain rfl (.extract rfl (.of rfl) rfl)) rfl rfl ?_
                refine TrL.stepS 135 (.plain rfl (.extract rfl (.of rfl) rfl)) rfl rfl ?_
                refine TrL.stepS 24 (.plain rfl (.assign rfl (.of rfl))) rfl rfl ?_
                refine TrL.stepS 25 (.plain rfl (.assign rfl (.of rfl))) rfl rfl ?_
                refine TrL.nil ?_
                refine Fin.keepG (Γ' := [(0, _), (1, _), (2, _), (10, _), (23, _), (24, _), (25, _)]) (.same rfl (.same rfl (.same rfl (.same rfl (.same rfl (.same rfl (.same rfl .nil))))))) ?_
                refine Fin.next ?_
                refine Tr.seq ?_
                refine Tr.seq ?_
                refine Tr.region ?_
                refine TrL.stepS 136 (.plain rfl (.move rfl (.of rfl))) rfl rfl ?_
                refine TrL.stepS 137 (.plain rfl (.move rfl (.of rfl))) rfl rfl ?_
                refine TrL.stepS 138 (.plain rfl (.neq rfl (.of rfl) (.of rfl))) rfl rfl ?_
                refine TrL.stepS 139 (.plain rfl (.move rfl (.of rfl))) rfl rfl ?_
                refine TrL.stepS 140 (.guarded rfl rfl rfl fun hg => .move rfl (.of rfl)) rfl rfl ?_
                refine TrL.stepS 141 (.guarded rfl rfl rfl fun hg => .move rfl (.of rfl)) rfl rfl ?_
                refine TrL.stepS 142 (.guarded rfl rfl rfl fun hg => .eql rfl (.cond rfl hg) (.of rfl)) rfl rfl ?_
                refine TrL.stepS 143 (.guarded rfl rfl rfl fun hg => .neqB rfl (.cond rfl hg) (.cond rfl hg) Try.underlying4) rfl rfl ?_
                refine TrL.stepS 144 (.plain rfl (.or rfl (.of rfl) (.cond rfl fun h => h))) rfl rfl ?_
                refine TrL.stepS 145 (.plain rfl (.move rfl (.of rfl))) rfl rfl ?_
                refine TrL.stepS 146 (.guarded rfl rfl rfl fun hg => .move rfl (.of rfl)) rfl rfl ?_
                refine TrL.stepS 147 (.guarded rfl rfl rfl fun hg => .not rfl (.cond rfl hg)) rfl rfl ?_
                refine TrL.stepS 148 (.guarded rfl rfl rfl fun hg => .move rfl (.cond rfl hg)) rfl rfl ?_
                refine TrL.stepS 149 (.guarded2 rfl rfl rfl fun hp hg => .move rfl (.of rfl)) rfl rfl ?_
                refine TrL.stepS 150 (.guarded2 rfl rfl rfl fun hp hg => .neq rfl (.cond rfl ⟨hp, hg⟩) (.of rfl)) rfl rfl ?_
                refine TrL.stepS 151 (.guarded rfl rfl rfl fun hg => .and rfl (.cond rfl hg) (.cond rfl fun h => ⟨hg, h⟩)) rfl rfl ?_
                refine TrL.stepS 152 (.plain rfl (.or rfl (.of rfl) (.cond rfl fun h => h))) rfl rfl ?_
                refine TrL.nil ?_
                refine Fin.keepG (Γ' := [(0, _), (1, _), (2, _), (152, _)]) (.same rfl (.same rfl (.same rfl (.same rfl .nil)))) ?_
                refine Fin.next ?_
                refine Tr.cond rfl (fun hb7 => ?_) (fun hb7 => ?_)
                · try simp only [decide_eq_true_eq, decide_eq_false_iff_not, beq_iff_eq, beq_eq_false_iff_ne, bne_iff_ne, bne_eq_false_iff_eq, Bool.and_eq_true, Bool.and_eq_false_iff, Bool.or_eq_true, Bool.or_eq_false_iff, Bool.not_eq_true', Bool.not_eq_false', gt_iff_lt, ge_iff_le, Int.not_lt, Int.not_le, ne_eq, Int.natCast_nonneg, true_and, and_true, Decidable.not_not, not_true_eq_false, not_false_eq_true] at hb7
                  cases hf : fit xs.sum <;> simp [hf] at hb7
                · try simp only [decide_eq_true_eq, decide_eq_false_iff_not, beq_iff_eq, beq_eq_false_iff_ne, bne_iff_ne, bne_eq_false_iff_eq, Bool.and_eq_true, Bool.and_eq_false_iff, Bool.or_eq_true, Bool.or_eq_false_iff, Bool.not_eq_true', Bool.not_eq_false', gt_iff_lt, ge_iff_le, Int.not_lt, Int.not_le, ne_eq, Int.natCast_nonneg, true_and, and_true, Decidable.not_not, not_true_eq_false, not_false_eq_true] at hb7
                  refine Tr.skip ?_
                  refine Fin.next ?_
                  refine Tr.seq ?_
                  refine Tr.region ?_
                  refine TrL.stepS 153 (.plain rfl (.move rfl (.of rfl))) rfl rfl ?_
                  refine TrL.stepS 26 (.plain rfl (.assign rfl (.of rfl))) rfl rfl ?_
                  refine TrL.nil ?_
                  refine Fin.keepG (Γ' := [(0, _), (1, _), (2, _), (26, _)]) (.same rfl (.same rfl (.same rfl (.same rfl .nil)))) ?_
                  refine Fin.next ?_
                  refine Tr.seqJK (γ := Unit) (Γk := [(0, _), (1, _), (2, _)]) (Mk := [(20, _)]) (.same rfl (.same rfl (.same rfl .nil))) (.same rfl .nil) (fun _ => True) (fun _ => fun r => r) (fun _ => fun r => (26, is (.int .i64 (if d < a then d else a))) :: r) ?jx34 ?jk34
                  case jx34 =>
                    refine Tr.seq ?_
                    refine Tr.region ?_
                    refine TrL.stepS 154 (.plain rfl (.move rfl (.of rfl))) rfl rfl ?_
                    refine TrL.stepS 155 (.plain rfl (.move rfl (.of rfl))) rfl rfl ?_
                    refine TrL.stepS 156 (.plain rfl (.gtr rfl (.of rfl) (.of rfl))) rfl rfl ?_
                    refine TrL.nil ?_
                    refine Fin.keepG (Γ' := [(0, _), (1, _), (2, _), (26, _), (156, _)]) (.same rfl (.same rfl (.same rfl (.same rfl (.same rfl .nil))))) ?_
                    refine Fin.next ?_
                    refine Tr.cond rfl (fun hb8 => ?_) (fun hb8 => ?_)
                    · try simp only [decide_eq_true_eq, decide_eq_false_iff_not, beq_iff_eq, beq_eq_false_iff_ne, bne_iff_ne, bne_eq_false_iff_eq, Bool.and_eq_true, Bool.and_eq_false_iff, Bool.or_eq_true, Bool.or_eq_false_iff, Bool.not_eq_true', Bool.not_eq_false', gt_iff_lt, ge_iff_le, Int.not_lt, Int.not_le, ne_eq, Int.natCast_nonneg, true_and, and_true, Decidable.not_not, not_true_eq_false, not_false_eq_true] at hb8
                      refine Tr.region ?_
                      refine TrL.stepS 157 (.plain rfl (.move rfl (.of rfl))) rfl rfl ?_
                      refine TrL.stepS 26 (.plain rfl (.assign rfl (.of rfl))) rfl rfl ?_
                      refine TrL.nil ?_
                      refine Fin.keepG (Γ' := [(0, _), (1, _), (2, _), (26, _)]) (.same rfl (.same rfl (.same rfl (.same rfl .nil)))) ?_
                      exact Fin.reach (()) (trivial) (.same rfl .nil) (.eq rfl (by congr 1; (try simp only [wrap_i64]); (repeat' split) <;> omega) (.same rfl (.same rfl (.same rfl .nil))))
                    · try simp only [decide_eq_true_eq, decide_eq_false_iff_not, beq_iff_eq, beq_eq_false_iff_ne, bne_iff_ne, bne_eq_false_iff_eq, Bool.and_eq_true, Bool.and_eq_false_iff, Bool.or_eq_true, Bool.or_eq_false_iff, Bool.not_eq_true', Bool.not_eq_false', gt_iff_lt, ge_iff_le, Int.not_lt, Int.not_le, ne_eq, Int.natCast_nonneg, true_and, and_true, Decidable.not_not, not_true_eq_false, not_false_eq_true] at hb8
                      refine Tr.skip ?_
                      exact Fin.reach (()) (trivial) (.same rfl .nil) (.eq rfl (by congr 1; (try simp only [wrap_i64]); (repeat' split) <;> omega) (.same rfl (.same rfl (.same rfl .nil))))
                  case jk34 =>
                    intro _ hI
                    refine Tr.seqJK (γ := Unit) (Γk := [(0, _), (1, _), (2, _)]) (Mk := [(20, _)]) (.same rfl (.same rfl (.same rfl .nil))) (.same rfl .nil) (fun _ => True) (fun _ => fun r => r) (fun _ => fun r => (26, is (.int .i64 (if a < b ∨ d < b then b else if d < a then d else a))) :: r) ?jx36 ?jk36
                    case jx36 =>
                      refine Tr.seq ?_
                      refine Tr.region ?_
                      refine TrL.stepS 158 (.plain rfl (.move rfl (.of rfl))) rfl rfl ?_
                      refine TrL.stepS 159 (.plain rfl (.move rfl (.of rfl))) rfl rfl ?_
                      refine TrL.stepS 160 (.plain rfl (.lss rfl (.of rfl) (.of rfl))) rfl rfl ?_
                      refine TrL.stepS 161 (.plain rfl (.move rfl (.of rfl))) rfl rfl ?_
                      refine TrL.stepS 162 (.guarded rfl rfl rfl fun hg => .move rfl (.of rfl)) rfl rfl ?_
                      refine TrL.stepS 163 (.guarded rfl rfl rfl fun hg => .move rfl (.of rfl)) rfl rfl ?_
                      refine TrL.stepS 164 (.guarded rfl rfl rfl fun hg => .gtr rfl (.cond rfl hg) (.cond rfl hg)) rfl rfl ?_
                      refine TrL.stepS 165 (.plain rfl (.or rfl (.of rfl) (.cond rfl fun h => h))) rfl rfl ?_
                      refine TrL.nil ?_
                      refine Fin.keepG (Γ' := [(0, _), (1, _), (2, _), (26, _), (165, _)]) (.same rfl (.same rfl (.same rfl (.same rfl (.same rfl .nil))))) ?_
                      refine Fin.next ?_
                      refine Tr.cond rfl (fun hb9 => ?_) (fun hb9 => ?_)
                      · try simp only [decide_eq_true_eq, decide_eq_false_iff_not, beq_iff_eq, beq_eq_false_iff_ne, bne_iff_ne, bne_eq_false_iff_eq, Bool.and_eq_true, Bool.and_eq_false_iff, Bool.or_eq_true, Bool.or_eq_false_iff, Bool.not_eq_true', Bool.not_eq_false', gt_iff_lt, ge_iff_le, Int.not_lt, Int.not_le, ne_eq, Int.natCast_nonneg, true_and, and_true, Decidable.not_not, not_true_eq_false, not_false_eq_true] at hb9
                        refine Tr.region ?_
                        refine TrL.stepS 166 (.plain rfl (.move rfl (.of rfl))) rfl rfl ?_
                        refine TrL.stepS 26 (.plain rfl (.assign rfl (.of rfl))) rfl rfl ?_
                        refine TrL.nil ?_
                        refine Fin.keepG (Γ' := [(0, _), (1, _), (2, _), (26, _)]) (.same rfl (.same rfl (.same rfl (.same rfl .nil)))) ?_
                        exact Fin.reach (()) (trivial) (.same rfl .nil) (.eq rfl (by congr 1; (try simp only [wrap_i64]); (repeat' split) <;> omega) (.same rfl (.same rfl (.same rfl .nil))))
                      · try simp only [decide_eq_true_eq, decide_eq_false_iff_not, beq_iff_eq, beq_eq_false_iff_ne, bne_iff_ne, bne_eq_false_iff_eq, Bool.and_eq_true, Bool.and_eq_false_iff, Bool.or_eq_true, Bool.or_eq_false_iff, Bool.not_eq_true', Bool.not_eq_false', gt_iff_lt, ge_iff_le, Int.not_lt, Int.not_le, ne_eq, Int.natCast_nonneg, true_and, and_true, Decidable.not_not, not_true_eq_false, not_false_eq_true] at hb9
                        refine Tr.skip ?_
                        exact Fin.reach (()) (trivial) (.same rfl .nil) (.eq rfl (by congr 1; (try simp only [wrap_i64]); (repeat' split) <;> omega) (.same rfl (.same rfl (.same rfl .nil))))
                    case jk36 =>
                      intro _ hI
                      refine Tr.seq ?_
                      refine Tr.seq ?_
                      refine Tr.region ?_
                      refine TrL.stepS 167 (.plain rfl (.move rfl (.of rfl))) rfl rfl ?_
                      refine TrL.stepS 168 (.plain rfl (.move rfl (.of rfl))) rfl rfl ?_
                      refine TrL.stepS 169 (.plain rfl (.move rfl (.of rfl))) rfl rfl ?_
                      refine TrL.stepS 170 (.plain rfl (.call rfl (F77 a b d) (.cons (.of rfl) (.cons (.of rfl) (.cons (.of rfl) .nil))))) rfl rfl ?_
                      refine TrL.stepS 171 (.plain rfl (.move rfl (.of rfl))) rfl rfl ?_
                      refine TrL.stepS 172 (.plain rfl (.neq rfl (.of rfl) (.of rfl))) rfl rfl ?_
                      refine TrL.nil ?_
                      refine Fin.keepG (Γ' := [(0, _), (2, _), (172, _)]) (.same rfl (.same rfl (.same rfl .nil))) ?_
                      refine Fin.next ?_
                      refine Tr.cond rfl (fun hb10 => ?_) (fun hb10 => ?_)
                      · try simp only [decide_eq_true_eq, decide_eq_false_iff_not, beq_iff_eq, beq_eq_false_iff_ne, bne_iff_ne, bne_eq_false_iff_eq, Bool.and_eq_true, Bool.and_eq_false_iff, Bool.or_eq_true, Bool.or_eq_false_iff, Bool.not_eq_true', Bool.not_eq_false', gt_iff_lt, ge_iff_le, Int.not_lt, Int.not_le, ne_eq, Int.natCast_nonneg, true_and, and_true, Decidable.not_not, not_true_eq_false, not_false_eq_true] at hb10
                        rw [clamp_if] at hb10; exact absurd rfl hb10
                      · try simp only [decide_eq_true_eq, decide_eq_false_iff_not, beq_iff_eq, beq_eq_false_iff_ne, bne_iff_ne, bne_eq_false_iff_eq, Bool.and_eq_true, Bool.and_eq_false_iff, Bool.or_eq_true, Bool.or_eq_false_iff, Bool.not_eq_true', Bool.not_eq_false', gt_iff_lt, ge_iff_le, Int.not_lt, Int.not_le, ne_eq, Int.natCast_nonneg, true_and, and_true, Decidable.not_not, not_true_eq_false, not_false_eq_true] at hb10
                        refine Tr.skip ?_
                        refine Fin.next ?_
                        refine Tr.seq ?_
                        refine Tr.region ?_
                        refine TrL.stepS 174 (.plain rfl (.move rfl (.of rfl))) rfl rfl ?_
                        refine TrL.stepS 175 (.plain rfl (.move rfl (.of rfl))) rfl rfl ?_
                        refine TrL.stepS 176 (.plain rfl (.call rfl (F74 a d ha hd.2) (.cons (.of rfl) (.cons (.of rfl) .nil)))) rfl rfl ?_
                        refine TrL.stepS 173 (.plain rfl (.move rfl (.of rfl))) rfl rfl ?_
                        refine TrL.stepS 177 (.plain rfl (.extract rfl (.of rfl) rfl)) rfl rfl ?_
                        refine TrL.stepS 178 (.plain rfl (.extract rfl (.of rfl) rfl)) rfl rfl ?_
                        refine TrL.stepS 27 (.plain rfl (.assign rfl (.of rfl))) rfl rfl ?_
                        refine TrL.stepS 28 (.plain rfl (.assign rfl (.of rfl))) rfl rfl ?_
                        refine TrL.nil ?_
                        refine Fin.keepG (Γ' := [(0, _), (2, _), (27, _), (28, _)]) (.same rfl (.same rfl (.same rfl (.same rfl .nil)))) ?_
                        refine Fin.next ?_
                        refine Tr.seq ?_
                        refine Tr.region ?_
                        refine TrL.stepS 180 (.plain rfl (.move rfl (.of rfl))) rfl rfl ?_
                        refine TrL.stepS 181 (.plain rfl (.move rfl (.of rfl))) rfl rfl ?_
                        refine TrL.stepS 182 (.plain rfl (.call rfl (F75 a d hd.2) (.cons (.of rfl) (.cons (.of rfl) .nil)))) rfl rfl ?_
                        refine TrL.stepS 179 (.plain rfl (.move rfl (.of rfl))) rfl rfl ?_
                        refine TrL.stepS 183 (.plain rfl (.extract rfl (.of rfl) rfl)) rfl rfl ?_
                        refine TrL.stepS 184 (.plain rfl (.extract rfl (.of rfl) rfl)) rfl rfl ?_
                        refine TrL.stepS 29 (.plain rfl (.assign rfl (.of rfl))) rfl rfl ?_
                        refine TrL.stepS 30 (.plain rfl (.assign rfl (.of rfl))) rfl rfl ?_
                        refine TrL.nil ?_
                        refine Fin.keepG (Γ' := [(0, _), (2, _), (27, _), (28, _), (29, _), (30, _)]) (.same rfl (.same rfl (.same rfl (.same rfl (.same rfl (.same rfl .nil)))))) ?_
                        refine Fin.next ?_
                        refine Tr.seq ?_
                        refine Tr.region ?_
                        refine TrL.stepS 186 (.plain rfl (.move rfl (.of rfl))) rfl rfl ?_
                        refine TrL.stepS 187 (.plain rfl (.move rfl (.of rfl))) rfl rfl ?_
                        refine TrL.stepS 188 (.plain rfl (.call rfl (F76 a d ha hd.2) (.cons (.of rfl) (.cons (.of rfl) .nil)))) rfl rfl ?_
                        refine TrL.stepS 185 (.plain rfl (.move rfl (.of rfl))) rfl rfl ?_
                        refine TrL.stepS 189 (.plain rfl (.extract rfl (.of rfl) rfl)) rfl rfl ?_
                        refine TrL.stepS 190 (.plain rfl (.extract rfl (.of rfl) rfl)) rfl rfl ?_
                        refine TrL.stepS 31 (.plain rfl (.assign rfl (.of rfl))) rfl rfl ?_
                        refine TrL.stepS 32 (.plain rfl (.assign rfl (.of rfl))) rfl rfl ?_
                        refine TrL.nil ?_
                        refine Fin.keepG (Γ' := [(0, _), (2, _), (27, _), (28, _), (29, _), (30, _), (31, _), (32, _)]) (.same rfl (.same rfl (.same rfl (.same rfl (.same rfl (.same rfl (.same rfl (.same rfl .nil)))))))) ?_
                        refine Fin.next ?_
                        refine Tr.seq ?_
                        refine Tr.seq ?_
                        refine Tr.region ?_
                        refine TrL.stepS 191 (.plain rfl (.move rfl (.of rfl))) rfl rfl ?_
                        refine TrL.stepS 192 (.plain rfl (.leq rfl (.of rfl) (.of rfl))) rfl rfl ?_
                        refine TrL.nil ?_
                        refine Fin.keepG (Γ' := [(0, _), (2, _), (27, _), (28, _), (29, _), (30, _), (31, _), (32, _), (192, _)]) (.same rfl (.same rfl (.same rfl (.same rfl (.same rfl (.same rfl (.same rfl (.same rfl (.same rfl .nil))))))))) ?_
                        refine Fin.next ?_
                        refine Tr.cond rfl (fun hb11 => ?_) (fun hb11 => ?_)
                        · try simp only [decide_eq_true_eq, decide_eq_false_iff_not, beq_iff_eq, beq_eq_false_iff_ne, bne_iff_ne, bne_eq_false_iff_eq, Bool.and_eq_true, Bool.and_eq_false_iff, Bool.or_eq_true, Bool.or_eq_false_iff, Bool.not_eq_true', Bool.not_eq_false', gt_iff_lt, ge_iff_le, Int.not_lt, Int.not_le, ne_eq, Int.natCast_nonneg, true_and, and_true, Decidable.not_not, not_true_eq_false, not_false_eq_true] at hb11
                          refine Tr.seq ?_
                          refine Tr.region ?_
                          refine TrL.stepS 193 (.plain rfl (.move rfl (.of rfl))) rfl rfl ?_
                          refine TrL.stepS 194 (.plain rfl (.eql rfl (.of rfl) (.of rfl))) rfl rfl ?_
                          refine TrL.stepS 195 (.plain rfl (.move rfl (.of rfl))) rfl rfl ?_
                          refine TrL.stepS 196 (.guarded rfl rfl rfl fun hg => .move rfl (.of rfl)) rfl rfl ?_
                          refine TrL.stepS 197 (.guarded rfl rfl rfl fun hg => .eql rfl (.cond rfl hg) (.of rfl)) rfl rfl ?_
                          refine TrL.stepS 198 (.plain rfl (.and rfl (.of rfl) (.cond rfl fun h => h))) rfl rfl ?_
                          refine TrL.stepS 199 (.plain rfl (.move rfl (.of rfl))) rfl rfl ?_
                          refine TrL.stepS 200 (.guarded rfl rfl rfl fun hg => .move rfl (.of rfl)) rfl rfl ?_
                          refine TrL.stepS 201 (.guarded rfl rfl rfl fun hg => .eql rfl (.cond rfl hg) (.of rfl)) rfl rfl ?_
                          refine TrL.stepS 202 (.plain rfl (.and rfl (.of rfl) (.cond rfl fun h => h))) rfl rfl ?_
                          refine TrL.stepS 203 (.plain rfl (.move rfl (.of rfl))) rfl rfl ?_
                          refine TrL.stepS 204 (.guarded rfl rfl rfl fun hg => .move rfl (.of rfl)) rfl rfl ?_
                          refine TrL.stepS 205 (.guarded rfl rfl rfl fun hg => .eql rfl (.cond rfl hg) (.of rfl)) rfl rfl ?_
                          refine TrL.stepS 206 (.plain rfl (.and rfl (.of rfl) (.cond rfl fun h => h))) rfl rfl ?_
                          refine TrL.stepS 207 (.plain rfl (.move rfl (.of rfl))) rfl rfl ?_
                          refine TrL.stepS 208 (.guarded rfl rfl rfl fun hg => .move rfl (.of rfl)) rfl rfl ?_
                          refine TrL.stepS 209 (.guarded rfl rfl rfl fun hg => .eql rfl (.cond rfl hg) (.of rfl)) rfl rfl ?_
                          refine TrL.stepS 210 (.plain rfl (.and rfl (.of rfl) (.cond rfl fun h => h))) rfl rfl ?_
                          refine TrL.stepS 211 (.plain rfl (.move rfl (.of rfl))) rfl rfl ?_
                          refine TrL.stepS 212 (.guarded rfl rfl rfl fun hg => .move rfl (.of rfl)) rfl rfl ?_
                          refine TrL.stepS 213 (.guarded rfl rfl rfl fun hg => .eql rfl (.cond rfl hg) (.of rfl)) rfl rfl ?_
                          refine TrL.stepS 214 (.plain rfl (.and rfl (.of rfl) (.cond rfl fun h => h))) rfl rfl ?_
                          refine TrL.stepS 8 (.plain rfl (.assign rfl (.of rfl))) rfl rfl ?_
                          refine TrL.nil ?_
                          refine Fin.keepG (Γ' := [(8, _)]) (.same rfl .nil) ?_
                          refine Fin.next ?_
                          refine Tr.ret ?_
                          refine Fin.thenRet ?_
                          refine Fin.retI (rs := [_]) (Rs' := [is (.bool true)]) rfl (.cons (.tmp rfl) .nil) (.cons (L.iv ?_) .nil)
                          · simp [hb11]
                        · try simp only [decide_eq_true_eq, decide_eq_false_iff_not, beq_iff_eq, beq_eq_false_iff_ne, bne_iff_ne, bne_eq_false_iff_eq, Bool.and_eq_true, Bool.and_eq_false_iff, Bool.or_eq_true, Bool.or_eq_false_iff, Bool.not_eq_true', Bool.not_eq_false', gt_iff_lt, ge_iff_le, Int.not_lt, Int.not_le, ne_eq, Int.natCast_nonneg, true_and, and_true, Decidable.not_not, not_true_eq_false, not_false_eq_true] at hb11
                          have hd0 : 0 < d := by omega
                          have hq := tdiv_bd a d hd0 ha
                          have hr := tmod_bd a d hd0
                          have hf := tdiv_floor a d hd0
                          have hm1 := Int.emod_nonneg a (show d ≠ 0 by omega)
                          have hm2 := Int.emod_lt_of_pos a hd0
                          have hfb := floor_bd a d hd0 ha
                          refine Tr.skip ?_
                          refine Fin.next ?_
                          refine Tr.seq ?_
                          refine Tr.regionK T.mixed (by kernel_rfl) (by kernel_rfl) ?_
                          refine ChainK.consS 215 (.plain rfl (.move rfl (.of rfl))) rfl ?_
                          refine ChainK.consS 216 (.plain rfl (.move rfl (.of rfl))) rfl ?_
                          first | refine ChainK.consS 217 (.plain rfl (.quoI L.bd_i64 rfl (.of rfl) (.of rfl) (by omega) (by decide) (by omega) (by omega))) rfl ?_ | refine ChainK.consS 217 (.plain rfl (.quo rfl (.of rfl) (.of rfl) (by omega))) rfl ?_
                          refine ChainK.consS 218 (.plain rfl (.move rfl (.of rfl))) rfl ?_
                          refine ChainK.consS 219 (.plain rfl (.move rfl (.of rfl))) rfl ?_
                          refine ChainK.consS 220 (.plain rfl (.rem rfl (.of rfl) (.of rfl) (by omega))) rfl ?_
                          refine ChainK.consS 33 (.plain rfl (.assign rfl (.of rfl))) rfl ?_
                          refine ChainK.consS 34 (.plain rfl (.assign rfl (.of rfl))) rfl ?_
                          refine ChainK.nil ?_
                          refine Fin.keepG (Γ' := [(0, _), (2, _), (27, _), (28, _), (29, _), (30, _), (31, _), (32, _), (33, _), (34, _)]) (.same rfl (.same rfl (.same rfl (.same rfl (.same rfl (.same rfl (.same rfl (.same rfl (.same rfl (.same rfl .nil)))))))))) ?_
                          refine Fin.next ?_
                          refine Tr.seqJK (γ := Unit) (Γk := [(0, _), (27, _), (28, _), (29, _), (30, _), (31, _), (32, _)]) (Mk := [(20, _)]) (.same rfl (.same rfl (.same rfl (.same rfl (.same rfl (.same rfl (.same rfl .nil))))))) (.same rfl .nil) (fun _ => True) (fun _ => fun r => r) (fun _ => fun r => (33, is (.int .i64 (a / d))) :: (34, is (.int .i64 (a % d))) :: r) ?jx46 ?jk46
                          case jx46 =>
                            refine Tr.seq ?_
                            refine Tr.region ?_
                            refine TrL.stepS 221 (.plain rfl (.move rfl (.of rfl))) rfl rfl ?_
                            refine TrL.stepS 222 (.plain rfl (.lss rfl (.of rfl) (.of rfl))) rfl rfl ?_
                            refine TrL.nil ?_
                            refine Fin.keepG (Γ' := [(0, _), (2, _), (27, _), (28, _), (29, _), (30, _), (31, _), (32, _), (33, _), (34, _), (222, _)]) (.same rfl (.same rfl (.same rfl (.same rfl (.same rfl (.same rfl (.same rfl (.same rfl (.same rfl (.same rfl (.same rfl .nil))))))))))) ?_
                            refine Fin.next ?_
                            refine Tr.cond rfl (fun hb12 => ?_) (fun hb12 => ?_)
                            · try simp only [decide_eq_true_eq, decide_eq_false_iff_not, beq_iff_eq, beq_eq_false_iff_ne, bne_iff_ne, bne_eq_false_iff_eq, Bool.and_eq_true, Bool.and_eq_false_iff, Bool.or_eq_true, Bool.or_eq_false_iff, Bool.not_eq_true', Bool.not_eq_false', gt_iff_lt, ge_iff_le, Int.not_lt, Int.not_le, ne_eq, Int.natCast_nonneg, true_and, and_true, Decidable.not_not, not_true_eq_false, not_false_eq_true] at hb12
                              have htm := tmod_neg a d hd0 hb12
                              have ha0 : a < 0 := by
                                by_cases h : a < 0
                                · exact h
                                · have := Int.tmod_nonneg d (show 0 ≤ a by omega); omega
                              have hq2 : a / d = a.tdiv d - 1 := by rw [hf, if_pos ⟨by omega, ha0⟩]
                              refine Tr.region ?_
                              refine TrL.stepS 223 (.plain rfl (.move rfl (.of rfl))) rfl rfl ?_
                              refine TrL.stepS 224 (.plain rfl (.subI L.bd_i64 rfl (.of rfl) (.of rfl) (by omega) (by omega))) rfl rfl ?_
                              refine TrL.stepS 225 (.plain rfl (.move rfl (.of rfl))) rfl rfl ?_
                              refine TrL.stepS 226 (.plain rfl (.move rfl (.of rfl))) rfl rfl ?_
                              refine TrL.stepS 227 (.plain rfl (.addI L.bd_i64 rfl (.of rfl) (.of rfl) (by omega) (by omega))) rfl rfl ?_
                              refine TrL.stepS 33 (.plain rfl (.assign rfl (.of rfl))) rfl rfl ?_
                              refine TrL.stepS 34 (.plain rfl (.assign rfl (.of rfl))) rfl rfl ?_
                              refine TrL.nil ?_
                              refine Fin.keepG (Γ' := [(0, _), (27, _), (28, _), (29, _), (30, _), (31, _), (32, _), (33, _), (34, _)]) (.same rfl (.same rfl (.same rfl (.same rfl (.same rfl (.same rfl (.same rfl (.same rfl (.same rfl .nil))))))))) ?_
                              exact Fin.reach (()) (trivial) (.same rfl .nil) (.eq rfl (by rw [hq2]) (.eq rfl (by congr 1) (.same rfl (.same rfl (.same rfl (.same rfl (.same rfl (.same rfl (.same rfl .nil)))))))))
                            · try simp only [decide_eq_true_eq, decide_eq_false_iff_not, beq_iff_eq, beq_eq_false_iff_ne, bne_iff_ne, bne_eq_false_iff_eq, Bool.and_eq_true, Bool.and_eq_false_iff, Bool.or_eq_true, Bool.or_eq_false_iff, Bool.not_eq_true', Bool.not_eq_false', gt_iff_lt, ge_iff_le, Int.not_lt, Int.not_le, ne_eq, Int.natCast_nonneg, true_and, and_true, Decidable.not_not, not_true_eq_false, not_false_eq_true] at hb12
                              have htm := tmod_pos a d hd0 (by omega)
                              have hq2 : a / d = a.tdiv d := by
                                rw [hf, if_neg]
                                rintro ⟨h1, h2⟩
                                have h3 := Int.tmod_nonneg d (show 0 ≤ -a by omega)
                                rw [Int.neg_tmod] at h3
                                omega
                              refine Tr.skip ?_
                              exact Fin.reach (()) (trivial) (.same rfl .nil) (.eq rfl (by rw [hq2]) (.eq rfl (by congr 1) (.same rfl (.same rfl (.same rfl (.same rfl (.same rfl (.same rfl (.same rfl .nil)))))))))
                          case jk46 =>
                            intro _ hI
                            refine Tr.seq ?_
                            refine Tr.seq ?_
                            refine Tr.region ?_
                            refine TrL.stepS 228 (.plain rfl (.move rfl (.of rfl))) rfl rfl ?_
                            refine TrL.stepS 229 (.plain rfl (.neq rfl (.of rfl) (.of rfl))) rfl rfl ?_
                            refine TrL.stepS 230 (.plain rfl (.move rfl (.of rfl))) rfl rfl ?_
                            refine TrL.stepS 231 (.guarded rfl rfl rfl fun hg => .move rfl (.of rfl)) rfl rfl ?_
                            refine TrL.stepS 232 (.guarded rfl rfl rfl fun hg => .neq rfl (.cond rfl hg) (.of rfl)) rfl rfl ?_
                            refine TrL.stepS 233 (.plain rfl (.or rfl (.of rfl) (.cond rfl fun h => h))) rfl rfl ?_
                            refine TrL.stepS 234 (.plain rfl (.move rfl (.of rfl))) rfl rfl ?_
                            refine TrL.stepS 235 (.guarded rfl rfl rfl fun hg => .move rfl (.of rfl)) rfl rfl ?_
                            refine TrL.stepS 236 (.guarded rfl rfl rfl fun hg => .move rfl (.of rfl)) rfl rfl ?_
                            refine TrL.stepS 237 (.guarded rfl rfl rfl fun hg => .neq rfl (.cond rfl hg) (.cond rfl hg)) rfl rfl ?_
                            refine TrL.stepS 238 (.plain rfl (.or rfl (.of rfl) (.cond rfl fun h => h))) rfl rfl ?_
                            refine TrL.stepS 239 (.plain rfl (.move rfl (.of rfl))) rfl rfl ?_
                            refine TrL.stepS 240 (.guarded rfl rfl rfl fun hg => .move rfl (.of rfl)) rfl rfl ?_
                            refine TrL.stepS 241 (.guarded rfl rfl rfl fun hg => .move rfl (.of rfl)) rfl rfl ?_
                            refine TrL.stepS 242 (.guarded rfl rfl rfl fun hg => .neq rfl (.cond rfl hg) (.cond rfl hg)) rfl rfl ?_
                            refine TrL.stepS 243 (.plain rfl (.or rfl (.of rfl) (.cond rfl fun h => h))) rfl rfl ?_
                            refine TrL.nil ?_
                            refine Fin.keepG (Γ' := [(0, _), (31, _), (32, _), (34, _), (243, _)]) (.same rfl (.same rfl (.same rfl (.same rfl (.same rfl .nil))))) ?_
                            refine Fin.next ?_
                            refine Tr.cond rfl (fun hb13 => ?_) (fun hb13 => ?_)
                            · try simp only [decide_eq_true_eq, decide_eq_false_iff_not, beq_iff_eq, beq_eq_false_iff_ne, bne_iff_ne, bne_eq_false_iff_eq, Bool.and_eq_true, Bool.and_eq_false_iff, Bool.or_eq_true, Bool.or_eq_false_iff, Bool.not_eq_true', Bool.not_eq_false', gt_iff_lt, ge_iff_le, Int.not_lt, Int.not_le, ne_eq, Int.natCast_nonneg, true_and, and_true, Decidable.not_not, not_true_eq_false, not_false_eq_true] at hb13
                              simp at hb13; omega
                            · try simp only [decide_eq_true_eq, decide_eq_false_iff_not, beq_iff_eq, beq_eq_false_iff_ne, bne_iff_ne, bne_eq_false_iff_eq, Bool.and_eq_true, Bool.and_eq_false_iff, Bool.or_eq_true, Bool.or_eq_false_iff, Bool.not_eq_true', Bool.not_eq_false', gt_iff_lt, ge_iff_le, Int.not_lt, Int.not_le, ne_eq, Int.natCast_nonneg, true_and, and_true, Decidable.not_not, not_true_eq_false, not_false_eq_true] at hb13
                              refine Tr.skip ?_
                              refine Fin.next ?_
                              refine Tr.seq ?_
                              refine Tr.region ?_
                              refine TrL.stepS 245 (.plain rfl (.move rfl (.of rfl))) rfl rfl ?_
                              refine TrL.stepS 246 (.plain rfl (.move rfl (.of rfl))) rfl rfl ?_
                              refine TrL.stepS 247 (.plain rfl (OpM.eqI (n := -(a % d)) (.neg rfl (.of rfl)) (by rw [wrap_i64]; omega))) rfl rfl ?_
                              refine TrL.stepS 248 (.plain rfl (.slice (K := intR .i64) (xs := [_, _]) rfl (.cons (.map (.of rfl) (intR_elem _)) (.cons (.map (.of rfl) (intR_elem _)) .nil)) Try.underlying24 T.sz2 T.zb2 rfl (by decide))) rfl rfl ?_
                              refine TrL.stepS 249 (.plain rfl (.call rfl (F82 [a, -(a % d)] (by simp) (by simp; omega)) (.cons (.of rfl) .nil))) rfl rfl ?_
                              refine TrL.stepS 244 (.plain rfl (.move rfl (.of rfl))) rfl rfl ?_
                              refine TrL.stepS 250 (.plain rfl (.extract rfl (.of rfl) rfl)) rfl rfl ?_
                              refine TrL.stepS 251 (.plain rfl (.extract rfl (.of rfl) rfl)) rfl rfl ?_
                              refine TrL.stepS 35 (.plain rfl (.assign rfl (.of rfl))) rfl rfl ?_
                              refine TrL.stepS 10 (.plain rfl (.assign rfl (.of rfl))) rfl rfl ?_
                              refine TrL.nil ?_
                              refine Fin.keepG (Γ' := [(10, _), (31, _), (32, _), (35, _)]) (.same rfl (.same rfl (.same rfl (.same rfl .nil)))) ?_
                              refine Fin.next ?_
                              refine Tr.seq ?_
                              refine Tr.region ?_
                              refine TrL.stepS 252 (.plain rfl (.move rfl (.of rfl))) rfl rfl ?_
                              refine TrL.stepS 253 (.plain rfl (.move rfl (.of rfl))) rfl rfl ?_
                              refine TrL.stepS 254 (.plain rfl (.eql rfl (.of rfl) (.of rfl))) rfl rfl ?_
                              refine TrL.stepS 255 (.plain rfl (.move rfl (.of rfl))) rfl rfl ?_
                              refine TrL.stepS 256 (.guarded rfl rfl rfl fun hg => .move rfl (.of rfl)) rfl rfl ?_
                              refine TrL.stepS 257 (.guarded rfl rfl rfl fun hg => .move rfl (.of rfl)) rfl rfl ?_
                              refine TrL.stepS 258 (.guarded rfl rfl rfl fun hg => .eql rfl (.cond rfl hg) (.of rfl)) rfl rfl ?_
                              refine TrL.stepS 259 (.guarded rfl rfl rfl fun hg => .eqlB rfl (.cond rfl hg) (.cond rfl hg) Try.underlying4) rfl rfl ?_
                              refine TrL.stepS 260 (.plain rfl (.and rfl (.of rfl) (.cond rfl fun h => h))) rfl rfl ?_
                              refine TrL.stepS 261 (.plain rfl (.move rfl (.of rfl))) rfl rfl ?_
                              refine TrL.stepS 262 (.guarded rfl rfl rfl fun hg => .move rfl (.of rfl)) rfl rfl ?_
                              refine TrL.stepS 263 (.guarded rfl rfl rfl fun hg => .move rfl (.cond rfl hg)) rfl rfl ?_
                              refine TrL.stepS 264 (.guarded2 rfl rfl rfl fun hp hg => .move rfl (.of rfl)) rfl rfl ?_
                              refine TrL.stepS 265 (.guarded2 rfl rfl rfl fun hp hg => .eql rfl (.cond rfl ⟨hp, hg⟩) (.of rfl)) rfl rfl ?_
                              refine TrL.stepS 266 (.guarded rfl rfl rfl fun hg => .or rfl (.cond rfl hg) (.cond rfl fun h => ⟨hg, h⟩)) rfl rfl ?_
                              refine TrL.stepS 267 (.plain rfl (.and rfl (.of rfl) (.cond rfl fun h => h))) rfl rfl ?_
                              refine TrL.stepS 8 (.plain rfl (.assign rfl (.of rfl))) rfl rfl ?_
                              refine TrL.nil ?_
                              refine Fin.keepG (Γ' := [(8, _)]) (.same rfl .nil) ?_
                              refine Fin.next ?_
                              refine Tr.ret ?_
                              refine Fin.retI (rs := [_]) (Rs' := [is (.bool true)]) rfl (.cons (.tmp rfl) .nil) (.cons (L.iv ?_) .nil)
                              · simp [sum2, show ¬ d ≤ 0 by omega, show a + -(a % d) = a - a % d by omega]; cases fit (a - a % d) <;> simp

end Go.Proofs.Ytemkogoclljhpaa