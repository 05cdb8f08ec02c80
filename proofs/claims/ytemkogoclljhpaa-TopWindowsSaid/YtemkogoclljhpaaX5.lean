import Derived.Test.YtemkogoclljhpaaX4
namespace Go.Proofs.Ytemkogoclljhpaa
open Go Go.Proofs.Ytemkogoclljhpaa.L
set_option linter.unusedVariables false
set_option linter.unusedSimpArgs false

namespace T

end T


theorem wins_len {k s l g t : Int} (hr : rightW k s l g = true) : (winsOf k s l g t).length ≤ 1048576 := by
  by_cases hk : k = 3
  · simp [winsOf, hk]
  · obtain ⟨hs1, hs2, hs3, hs4, hs5⟩ := right_step hr hk
    have := w_count hs1 hs5
    rw [winAt_len _ _ _ _ _ hk]; omega
theorem ofW_not {k s l g t : Int} (h : (rightW k s l g = false ∨ t < -1099511627776) ∨ 1099511627776 < t) : ofW k s l g t = [] := by
  unfold ofW timely; rw [if_neg]; rintro ⟨h1, h2⟩
  rcases h with (h | h) | h
  · rw [h1] at h; cases h
  · omega
  · omega
theorem ofW_is {k s l g t : Int} (h1 : rightW k s l g = true) (h2 : timely t) : ofW k s l g t = winsOf k s l g t := if_pos ⟨h1, h2⟩
theorem ex_get {α : Type} {xs : List α} {i : Nat} (h : i < xs.length) : ∃ x, xs[i]? = some x := ⟨_, List.getElem?_eq_getElem h⟩

/- tidepool/tidepooltop.sized34 -/
set_option maxRecDepth 100000 in
theorem F14 (k s l g : Int) (t a b : Int) (ha : -1073741824 ≤ a ∧ a ≤ 1073741824) (hb : -1073741824 ≤ b ∧ b ≤ 1073741824) : FnP Try.prog 14 [is (.agg #[.int .u8 k, .int .i64 s, .int .i64 l, .int .i64 g]), is (.int .i64 t), is (.agg #[.int .i64 a, .int .i64 b])] (is (.bool true)) := by
  refine FnP.mk' Try.func14 T.nm14 rfl (N := 178) rfl rfl fun B hB hκ => ?_
  refine Tr.seq ?_
  refine Tr.region ?_
  refine TrL.stepS 3 (.plain rfl (.boxR rfl (.of rfl))) rfl rfl ?_
  refine TrL.stepS 5 (.plain rfl (.boxR rfl (.of rfl))) rfl rfl ?_
  refine TrL.stepS 6 (.plain rfl (.assign rfl (.of rfl))) rfl rfl ?_
  refine TrL.nil ?_
  refine Fin.next ?_
  refine Tr.seq ?_
  refine Tr.region ?_
  refine TrL.stepS 7 (.plain rfl (.assign rfl (.of rfl))) rfl rfl ?_
  refine TrL.nil ?_
  refine Fin.next ?_
  refine Tr.seq ?_
  refine Tr.region ?_
  refine TrL.stepS 8 (.plain rfl (.assign rfl (.of rfl))) rfl rfl ?_
  refine TrL.nil ?_
  refine Fin.next ?_
  refine Tr.seqJ (γ := Unit) (fun _ => True) (fun _ => []) (fun _ => [(1, is (.int .i64 t)), (3, Cells (List.map is [.int .u8 k, .int .i64 s, .int .i64 l, .int .i64 g])), (5, Cells (List.map is [.int .i64 a, .int .i64 b])), (8, is (.bool (rightW k s l g)))]) ?jx10 ?jk10
  case jx10 =>
    refine Tr.seq ?_
    refine Tr.region ?_
    refine TrL.stepS 16 (.plain rfl (.fieldC rfl (.of rfl) T.fl30_0)) rfl rfl ?_
    refine TrL.stepS 17 (.plain rfl (.load1 rfl (.of rfl) T.sc5)) rfl rfl ?_
    refine TrL.nil ?_
    refine Fin.keepG (Γ' := [(0, _), (1, _), (2, _), (3, _), (5, _), (6, _), (7, _), (8, _), (17, _)]) (.same rfl (.same rfl (.same rfl (.same rfl (.same rfl (.same rfl (.same rfl (.same rfl (.same rfl .nil))))))))) ?_
    refine Fin.next ?_
    refine Tr.block ?_
    refine Tr.seq ?_
    refine Tr.region ?_
    refine TrL.stepS 19 (.plain rfl (.eql rfl (.of rfl) (.of rfl))) rfl rfl ?_
    refine TrL.stepS 18 (.plain rfl (.assign rfl (.of rfl))) rfl rfl ?_
    refine TrL.nil ?_
    refine Fin.keepG (Γ' := [(0, _), (1, _), (2, _), (3, _), (5, _), (6, _), (7, _), (8, _), (17, _), (18, _)]) (.same rfl (.same rfl (.same rfl (.same rfl (.same rfl (.same rfl (.same rfl (.same rfl (.same rfl (.same rfl .nil)))))))))) ?_
    refine Fin.next ?_
    refine Tr.cond rfl (fun hb0 => ?_) (fun hb0 => ?_)
    · try simp only [decide_eq_true_eq, decide_eq_false_iff_not, beq_iff_eq, beq_eq_false_iff_ne, bne_iff_ne, bne_eq_false_iff_eq, Bool.and_eq_true, Bool.and_eq_false_iff, Bool.or_eq_true, Bool.or_eq_false_iff, Bool.not_eq_true', Bool.not_eq_false', gt_iff_lt, ge_iff_le, Int.not_lt, Int.not_le, ne_eq, Int.natCast_nonneg, true_and, and_true, Decidable.not_not, not_true_eq_false, not_false_eq_true] at hb0
      refine Tr.region ?_
      refine TrL.stepS 20 (.plain rfl (.move rfl (.of rfl))) rfl rfl ?_
      refine TrL.stepS 21 (.plain rfl (.fieldC rfl (.of rfl) T.fl30_1)) rfl rfl ?_
      refine TrL.stepS 22 (.plain rfl (.load1 rfl (.of rfl) T.sc2)) rfl rfl ?_
      refine TrL.stepS 23 (.plain rfl (.callV (first := []) (caps := []) rfl (.of rfl) (F37 ..) (.cons (.of rfl) .nil))) rfl rfl ?_
      refine TrL.stepS 24 (.plain rfl (.move rfl (.of rfl))) rfl rfl ?_
      refine TrL.stepS 25 (.guarded rfl rfl rfl fun hg => .fieldC rfl (.of rfl) T.fl30_2) rfl rfl ?_
      refine TrL.stepS 26 (.guarded rfl rfl rfl fun hg => .load1 rfl (.cond rfl hg) T.sc2) rfl rfl ?_
      refine TrL.stepS 27 (.guarded rfl rfl rfl fun hg => .eql rfl (.cond rfl hg) (.of rfl)) rfl rfl ?_
      refine TrL.stepS 28 (.plain rfl (.and rfl (.of rfl) (.cond rfl fun h => h))) rfl rfl ?_
      refine TrL.stepS 29 (.plain rfl (.move rfl (.of rfl))) rfl rfl ?_
      refine TrL.stepS 30 (.guarded rfl rfl rfl fun hg => .fieldC rfl (.of rfl) T.fl30_3) rfl rfl ?_
      refine TrL.stepS 31 (.guarded rfl rfl rfl fun hg => .load1 rfl (.cond rfl hg) T.sc2) rfl rfl ?_
      refine TrL.stepS 32 (.guarded rfl rfl rfl fun hg => .eql rfl (.cond rfl hg) (.of rfl)) rfl rfl ?_
      refine TrL.stepS 33 (.plain rfl (.and rfl (.of rfl) (.cond rfl fun h => h))) rfl rfl ?_
      refine TrL.stepS 8 (.plain rfl (.assign rfl (.of rfl))) rfl rfl ?_
      refine TrL.nil ?_
      refine Fin.keepG (Γ' := [(0, _), (1, _), (2, _), (3, _), (5, _), (6, _), (7, _), (8, _), (17, _), (18, _)]) (.same rfl (.same rfl (.same rfl (.same rfl (.same rfl (.same rfl (.same rfl (.same rfl (.same rfl (.same rfl .nil)))))))))) ?_
      refine Fin.blockNormal ?_
      exact Fin.reach (()) (trivial) (.nil) (.same rfl (.same rfl (.same rfl (.eq rfl (by congr 1; rw [Bool.eq_iff_iff]; simp [rightW]; omega) .nil))))
    · try simp only [decide_eq_true_eq, decide_eq_false_iff_not, beq_iff_eq, beq_eq_false_iff_ne, bne_iff_ne, bne_eq_false_iff_eq, Bool.and_eq_true, Bool.and_eq_false_iff, Bool.or_eq_true, Bool.or_eq_false_iff, Bool.not_eq_true', Bool.not_eq_false', gt_iff_lt, ge_iff_le, Int.not_lt, Int.not_le, ne_eq, Int.natCast_nonneg, true_and, and_true, Decidable.not_not, not_true_eq_false, not_false_eq_true] at hb0
      refine Tr.seq ?_
      refine Tr.region ?_
      refine TrL.stepS 35 (.plain rfl (.eql rfl (.of rfl) (.of rfl))) rfl rfl ?_
      refine TrL.stepS 34 (.plain rfl (.assign rfl (.of rfl))) rfl rfl ?_
      refine TrL.nil ?_
      refine Fin.keepG (Γ' := [(0, _), (1, _), (2, _), (3, _), (5, _), (6, _), (7, _), (8, _), (17, _), (18, _), (34, _)]) (.same rfl (.same rfl (.same rfl (.same rfl (.same rfl (.same rfl (.same rfl (.same rfl (.same rfl (.same rfl (.same rfl .nil))))))))))) ?_
      refine Fin.next ?_
      refine Tr.cond rfl (fun hb1 => ?_) (fun hb1 => ?_)
      · try simp only [decide_eq_true_eq, decide_eq_false_iff_not, beq_iff_eq, beq_eq_false_iff_ne, bne_iff_ne, bne_eq_false_iff_eq, Bool.and_eq_true, Bool.and_eq_false_iff, Bool.or_eq_true, Bool.or_eq_false_iff, Bool.not_eq_true', Bool.not_eq_false', gt_iff_lt, ge_iff_le, Int.not_lt, Int.not_le, ne_eq, Int.natCast_nonneg, true_and, and_true, Decidable.not_not, not_true_eq_false, not_false_eq_true] at hb1
        refine Tr.region ?_
        refine TrL.stepS 36 (.plain rfl (.move rfl (.of rfl))) rfl rfl ?_
        refine TrL.stepS 37 (.plain rfl (.fieldC rfl (.of rfl) T.fl30_1)) rfl rfl ?_
        refine TrL.stepS 38 (.plain rfl (.load1 rfl (.of rfl) T.sc2)) rfl rfl ?_
        refine TrL.stepS 39 (.plain rfl (.callV (first := []) (caps := []) rfl (.of rfl) (F37 ..) (.cons (.of rfl) .nil))) rfl rfl ?_
        refine TrL.stepS 40 (.plain rfl (.move rfl (.of rfl))) rfl rfl ?_
        refine TrL.stepS 41 (.guarded rfl rfl rfl fun hg => .move rfl (.of rfl)) rfl rfl ?_
        refine TrL.stepS 42 (.guarded rfl rfl rfl fun hg => .fieldC rfl (.of rfl) T.fl30_2) rfl rfl ?_
        refine TrL.stepS 43 (.guarded rfl rfl rfl fun hg => .load1 rfl (.cond rfl hg) T.sc2) rfl rfl ?_
        refine TrL.stepS 44 (.guarded rfl rfl rfl fun hg => .callV (first := []) (caps := []) rfl (.cond rfl hg) (F37 ..) (.cons (.cond rfl hg) .nil)) rfl rfl ?_
        refine TrL.stepS 45 (.plain rfl (.and rfl (.of rfl) (.cond rfl fun h => h))) rfl rfl ?_
        refine TrL.stepS 46 (.plain rfl (.move rfl (.of rfl))) rfl rfl ?_
        refine TrL.stepS 47 (.guarded rfl rfl rfl fun hg => .fieldC rfl (.of rfl) T.fl30_3) rfl rfl ?_
        refine TrL.stepS 48 (.guarded rfl rfl rfl fun hg => .load1 rfl (.cond rfl hg) T.sc2) rfl rfl ?_
        refine TrL.stepS 49 (.guarded rfl rfl rfl fun hg => .eql rfl (.cond rfl hg) (.of rfl)) rfl rfl ?_
        refine TrL.stepS 50 (.plain rfl (.and rfl (.of rfl) (.cond rfl fun h => h))) rfl rfl ?_
        refine TrL.stepS 51 (.plain rfl (.move rfl (.of rfl))) rfl rfl ?_
        refine TrL.stepS 52 (.guarded rfl rfl rfl fun hg => .fieldC rfl (.of rfl) T.fl30_1) rfl rfl ?_
        refine TrL.stepS 53 (.guarded rfl rfl rfl fun hg => .load1 rfl (.cond rfl hg) T.sc2) rfl rfl ?_
        refine TrL.stepS 54 (.guarded rfl rfl rfl fun hg => .fieldC rfl (.of rfl) T.fl30_2) rfl rfl ?_
        refine TrL.stepS 55 (.guarded rfl rfl rfl fun hg => .load1 rfl (.cond rfl hg) T.sc2) rfl rfl ?_
        refine TrL.stepS 56 (.guarded rfl rfl rfl fun hg => .rem rfl (.cond rfl hg) (.cond rfl hg) (by first | omega | (simp at hg; omega) | (simp at hg hp; omega))) rfl rfl ?_
        refine TrL.stepS 57 (.guarded rfl rfl rfl fun hg => .eql rfl (.cond rfl hg) (.of rfl)) rfl rfl ?_
        refine TrL.stepS 58 (.plain rfl (.and rfl (.of rfl) (.cond rfl fun h => h))) rfl rfl ?_
        refine TrL.stepS 59 (.plain rfl (.move rfl (.of rfl))) rfl rfl ?_
        refine TrL.stepS 60 (.guarded rfl rfl rfl fun hg => .fieldC rfl (.of rfl) T.fl30_1) rfl rfl ?_
        refine TrL.stepS 61 (.guarded rfl rfl rfl fun hg => .load1 rfl (.cond rfl hg) T.sc2) rfl rfl ?_
        refine TrL.stepS 62 (.guarded rfl rfl rfl fun hg => .fieldC rfl (.of rfl) T.fl30_2) rfl rfl ?_
        refine TrL.stepS 63 (.guarded rfl rfl rfl fun hg => .load1 rfl (.cond rfl hg) T.sc2) rfl rfl ?_
        first | refine TrL.stepS 64 (.guarded rfl rfl rfl fun hg => .quoI L.bd_i64 rfl (.cond rfl hg) (.cond rfl hg) (by first | omega | (simp at hg; omega) | (simp at hg hp; omega)) (by decide) (by first | omega | (simp at hg; omega) | (simp at hg hp; omega)) (by first | omega | (simp at hg; omega) | (simp at hg hp; omega))) rfl rfl ?_ | refine TrL.stepS 64 (.guarded rfl rfl rfl fun hg => .quo rfl (.cond rfl hg) (.cond rfl hg) (by first | omega | (simp at hg; omega) | (simp at hg hp; omega))) rfl rfl ?_
        refine TrL.stepS 65 (.guarded rfl rfl rfl fun hg => .leq rfl (.cond rfl hg) (.of rfl)) rfl rfl ?_
        refine TrL.stepS 66 (.plain rfl (.and rfl (.of rfl) (.cond rfl fun h => h))) rfl rfl ?_
        refine TrL.stepS 8 (.plain rfl (.assign rfl (.of rfl))) rfl rfl ?_
        refine TrL.nil ?_
        refine Fin.keepG (Γ' := [(0, _), (1, _), (2, _), (3, _), (5, _), (6, _), (7, _), (8, _), (17, _), (18, _), (34, _)]) (.same rfl (.same rfl (.same rfl (.same rfl (.same rfl (.same rfl (.same rfl (.same rfl (.same rfl (.same rfl (.same rfl .nil))))))))))) ?_
        refine Fin.blockNormal ?_
        exact Fin.reach (()) (trivial) (.nil) (.same rfl (.same rfl (.same rfl (.eq rfl (by congr 1; rw [Bool.eq_iff_iff]; simp [rightW]; omega) .nil))))
      · try simp only [decide_eq_true_eq, decide_eq_false_iff_not, beq_iff_eq, beq_eq_false_iff_ne, bne_iff_ne, bne_eq_false_iff_eq, Bool.and_eq_true, Bool.and_eq_false_iff, Bool.or_eq_true, Bool.or_eq_false_iff, Bool.not_eq_true', Bool.not_eq_false', gt_iff_lt, ge_iff_le, Int.not_lt, Int.not_le, ne_eq, Int.natCast_nonneg, true_and, and_true, Decidable.not_not, not_true_eq_false, not_false_eq_true] at hb1
        refine Tr.seq ?_
        refine Tr.region ?_
        refine TrL.stepS 68 (.plain rfl (.eql rfl (.of rfl) (.of rfl))) rfl rfl ?_
        refine TrL.stepS 67 (.plain rfl (.assign rfl (.of rfl))) rfl rfl ?_
        refine TrL.nil ?_
        refine Fin.keepG (Γ' := [(0, _), (1, _), (2, _), (3, _), (5, _), (6, _), (7, _), (8, _), (17, _), (18, _), (34, _), (67, _)]) (.same rfl (.same rfl (.same rfl (.same rfl (.same rfl (.same rfl (.same rfl (.same rfl (.same rfl (.same rfl (.same rfl (.same rfl .nil)))))))))))) ?_
        refine Fin.next ?_
        refine Tr.cond rfl (fun hb2 => ?_) (fun hb2 => ?_)
        · try simp only [decide_eq_true_eq, decide_eq_false_iff_not, beq_iff_eq, beq_eq_false_iff_ne, bne_iff_ne, bne_eq_false_iff_eq, Bool.and_eq_true, Bool.and_eq_false_iff, Bool.or_eq_true, Bool.or_eq_false_iff, Bool.not_eq_true', Bool.not_eq_false', gt_iff_lt, ge_iff_le, Int.not_lt, Int.not_le, ne_eq, Int.natCast_nonneg, true_and, and_true, Decidable.not_not, not_true_eq_false, not_false_eq_true] at hb2
          refine Tr.region ?_
          refine TrL.stepS 69 (.plain rfl (.move rfl (.of rfl))) rfl rfl ?_
          refine TrL.stepS 70 (.plain rfl (.fieldC rfl (.of rfl) T.fl30_3)) rfl rfl ?_
          refine TrL.stepS 71 (.plain rfl (.load1 rfl (.of rfl) T.sc2)) rfl rfl ?_
          refine TrL.stepS 72 (.plain rfl (.callV (first := []) (caps := []) rfl (.of rfl) (F37 ..) (.cons (.of rfl) .nil))) rfl rfl ?_
          refine TrL.stepS 73 (.plain rfl (.move rfl (.of rfl))) rfl rfl ?_
          refine TrL.stepS 74 (.guarded rfl rfl rfl fun hg => .fieldC rfl (.of rfl) T.fl30_1) rfl rfl ?_
          refine TrL.stepS 75 (.guarded rfl rfl rfl fun hg => .load1 rfl (.cond rfl hg) T.sc2) rfl rfl ?_
          refine TrL.stepS 76 (.guarded rfl rfl rfl fun hg => .eql rfl (.cond rfl hg) (.of rfl)) rfl rfl ?_
          refine TrL.stepS 77 (.plain rfl (.and rfl (.of rfl) (.cond rfl fun h => h))) rfl rfl ?_
          refine TrL.stepS 78 (.plain rfl (.move rfl (.of rfl))) rfl rfl ?_
          refine TrL.stepS 79 (.guarded rfl rfl rfl fun hg => .fieldC rfl (.of rfl) T.fl30_2) rfl rfl ?_
          refine TrL.stepS 80 (.guarded rfl rfl rfl fun hg => .load1 rfl (.cond rfl hg) T.sc2) rfl rfl ?_
          refine TrL.stepS 81 (.guarded rfl rfl rfl fun hg => .eql rfl (.cond rfl hg) (.of rfl)) rfl rfl ?_
          refine TrL.stepS 82 (.plain rfl (.and rfl (.of rfl) (.cond rfl fun h => h))) rfl rfl ?_
          refine TrL.stepS 8 (.plain rfl (.assign rfl (.of rfl))) rfl rfl ?_
          refine TrL.nil ?_
          refine Fin.keepG (Γ' := [(0, _), (1, _), (2, _), (3, _), (5, _), (6, _), (7, _), (8, _), (17, _), (18, _), (34, _), (67, _)]) (.same rfl (.same rfl (.same rfl (.same rfl (.same rfl (.same rfl (.same rfl (.same rfl (.same rfl (.same rfl (.same rfl (.same rfl .nil)))))))))))) ?_
          refine Fin.blockNormal ?_
          exact Fin.reach (()) (trivial) (.nil) (.same rfl (.same rfl (.same rfl (.eq rfl (by congr 1; rw [Bool.eq_iff_iff]; simp [rightW]; omega) .nil))))
        · try simp only [decide_eq_true_eq, decide_eq_false_iff_not, beq_iff_eq, beq_eq_false_iff_ne, bne_iff_ne, bne_eq_false_iff_eq, Bool.and_eq_true, Bool.and_eq_false_iff, Bool.or_eq_true, Bool.or_eq_false_iff, Bool.not_eq_true', Bool.not_eq_false', gt_iff_lt, ge_iff_le, Int.not_lt, Int.not_le, ne_eq, Int.natCast_nonneg, true_and, and_true, Decidable.not_not, not_true_eq_false, not_false_eq_true] at hb2
          refine Tr.skip ?_
          refine Fin.blockNormal ?_
          exact Fin.reach (()) (trivial) (.nil) (.same rfl (.same rfl (.same rfl (.eq rfl (by congr 1; rw [Bool.eq_iff_iff]; simp [rightW]; omega) .nil))))
  case jk10 =>
    intro u hI
    refine Tr.seq ?_
    refine Tr.seq ?_
    refine Tr.region ?_
    refine TrL.stepS 83 (.plain rfl (.load4 rfl (.of rfl) T.ag30)) rfl rfl ?_
    refine TrL.stepS 84 (.plain rfl (.call rfl (F38 ..) (.cons (.of rfl) .nil))) rfl rfl ?_
    refine TrL.stepS 85 (.plain rfl (.move rfl (.of rfl))) rfl rfl ?_
    refine TrL.stepS 86 (.plain rfl (.neqB rfl (.of rfl) (.of rfl) Try.underlying4)) rfl rfl ?_
    refine TrL.nil ?_
    refine Fin.keepG (Γ' := [(1, _), (3, _), (5, _), (8, _), (86, _)]) (.same rfl (.same rfl (.same rfl (.same rfl (.same rfl .nil))))) ?_
    refine Fin.next ?_
    refine Tr.cond rfl (fun hb3 => ?_) (fun hb3 => ?_)
    · exact absurd hb3 (by simp)
    · try simp only [decide_eq_true_eq, decide_eq_false_iff_not, beq_iff_eq, beq_eq_false_iff_ne, bne_iff_ne, bne_eq_false_iff_eq, Bool.and_eq_true, Bool.and_eq_false_iff, Bool.or_eq_true, Bool.or_eq_false_iff, Bool.not_eq_true', Bool.not_eq_false', gt_iff_lt, ge_iff_le, Int.not_lt, Int.not_le, ne_eq, Int.natCast_nonneg, true_and, and_true, Decidable.not_not, not_true_eq_false, not_false_eq_true] at hb3
      refine Tr.skip ?_
      refine Fin.next ?_
      refine Tr.seq ?_
      refine Tr.region ?_
      refine TrL.stepS 87 (.plain rfl (.load4 rfl (.of rfl) T.ag30)) rfl rfl ?_
      refine TrL.stepS 88 (.plain rfl (.move rfl (.of rfl))) rfl rfl ?_
      refine TrL.stepS 89 (.plain rfl (.call rfl (F31 ..) (.cons (.of rfl) (.cons (.of rfl) .nil)))) rfl rfl ?_
      refine TrL.stepS 9 (.plain rfl (.assign rfl (.of rfl))) rfl rfl ?_
      refine TrL.nil ?_
      refine Fin.keepG (Γ' := [(1, _), (3, _), (5, _), (8, _), (9, _), (86, _)]) (.same rfl (.same rfl (.same rfl (.same rfl (.same rfl (.same rfl .nil)))))) ?_
      refine Fin.next ?_
      refine Tr.seq ?_
      refine Tr.seq ?_
      refine Tr.region ?_
      refine TrL.stepS 90 (.plain rfl (.move rfl (.of rfl))) rfl rfl ?_
      refine TrL.stepS 91 (.plain rfl (.not rfl (.of rfl))) rfl rfl ?_
      refine TrL.stepS 92 (.plain rfl (.move rfl (.of rfl))) rfl rfl ?_
      refine TrL.stepS 93 (.guarded rfl rfl rfl fun hg => .move rfl (.of rfl)) rfl rfl ?_
      refine TrL.stepS 94 (.guarded rfl rfl rfl fun hg => .lss rfl (.cond rfl hg) (.of rfl)) rfl rfl ?_
      refine TrL.stepS 95 (.plain rfl (.or rfl (.of rfl) (.cond rfl fun h => h))) rfl rfl ?_
      refine TrL.stepS 96 (.plain rfl (.move rfl (.of rfl))) rfl rfl ?_
      refine TrL.stepS 97 (.guarded rfl rfl rfl fun hg => .move rfl (.of rfl)) rfl rfl ?_
      refine TrL.stepS 98 (.guarded rfl rfl rfl fun hg => .gtr rfl (.cond rfl hg) (.of rfl)) rfl rfl ?_
      refine TrL.stepS 99 (.plain rfl (.or rfl (.of rfl) (.cond rfl fun h => h))) rfl rfl ?_
      refine TrL.nil ?_
      refine Fin.keepG (Γ' := [(1, _), (3, _), (5, _), (8, _), (9, _), (86, _), (99, _)]) (.same rfl (.same rfl (.same rfl (.same rfl (.same rfl (.same rfl (.same rfl .nil))))))) ?_
      refine Fin.next ?_
      refine Tr.cond rfl (fun hb4 => ?_) (fun hb4 => ?_)
      · try simp only [decide_eq_true_eq, decide_eq_false_iff_not, beq_iff_eq, beq_eq_false_iff_ne, bne_iff_ne, bne_eq_false_iff_eq, Bool.and_eq_true, Bool.and_eq_false_iff, Bool.or_eq_true, Bool.or_eq_false_iff, Bool.not_eq_true', Bool.not_eq_false', gt_iff_lt, ge_iff_le, Int.not_lt, Int.not_le, ne_eq, Int.natCast_nonneg, true_and, and_true, Decidable.not_not, not_true_eq_false, not_false_eq_true] at hb4
        have e : ofW k s l g t = [] := ofW_not hb4
        refine Tr.seq ?_
        refine Tr.region ?_
        refine TrL.stepS 100 (.plain rfl (.move rfl (.of rfl))) rfl rfl ?_
        refine TrL.stepS 101 (.plain rfl (.len rfl (.of rfl) Try.underlying60)) rfl rfl ?_
        refine TrL.stepS 102 (.plain rfl (.eql rfl (.of rfl) (.of rfl))) rfl rfl ?_
        refine TrL.stepS 103 (.plain rfl (.move rfl (.of rfl))) rfl rfl ?_
        refine TrL.stepS 104 (.guarded rfl rfl rfl fun hg => .move rfl (.of rfl)) rfl rfl ?_
        refine TrL.stepS 105 (.guarded rfl rfl rfl fun hg => .move rfl (.cond rfl hg)) rfl rfl ?_
        refine TrL.stepS 106 (.guarded2 rfl rfl rfl fun hp hg => .load4 rfl (.of rfl) T.ag30) rfl rfl ?_
        refine TrL.stepS 107 (.guarded2 rfl rfl rfl fun hp hg => .load2 rfl (.of rfl) T.ag27) rfl rfl ?_
        refine TrL.stepS 108 (.guarded2 rfl rfl rfl fun hp hg => .call rfl (F39 k s l g a b (by omega) (by omega)) (.cons (.cond rfl ⟨hp, hg⟩) (.cons (.cond rfl ⟨hp, hg⟩) .nil))) rfl rfl ?_
        refine TrL.stepS 109 (.guarded2 rfl rfl rfl fun hp hg => .not rfl (.cond rfl ⟨hp, hg⟩)) rfl rfl ?_
        refine TrL.stepS 110 (.guarded rfl rfl rfl fun hg => .or rfl (.cond rfl hg) (.cond rfl fun h => ⟨hg, h⟩)) rfl rfl ?_
        refine TrL.stepS 111 (.plain rfl (.and rfl (.of rfl) (.cond rfl fun h => h))) rfl rfl ?_
        refine TrL.stepS 6 (.plain rfl (.assign rfl (.of rfl))) rfl rfl ?_
        refine TrL.nil ?_
        refine Fin.keepG (Γ' := [(1, _), (3, _), (5, _), (6, _), (8, _), (9, _), (86, _), (99, _)]) (.same rfl (.same rfl (.same rfl (.same rfl (.same rfl (.same rfl (.same rfl (.same rfl .nil)))))))) ?_
        refine Fin.next ?_
        refine Tr.ret ?_
        refine Fin.thenRet ?_
        refine Fin.retI (rs := [_]) (Rs' := [is (.bool true)]) rfl (.cons (.tmp rfl) .nil) ?_
        refine (.cons (L.iv ?_) .nil)
        · congr 1; rw [e]; cases h : rightW k s l g <;> simp [isW, h]
      · try simp only [decide_eq_true_eq, decide_eq_false_iff_not, beq_iff_eq, beq_eq_false_iff_ne, bne_iff_ne, bne_eq_false_iff_eq, Bool.and_eq_true, Bool.and_eq_false_iff, Bool.or_eq_true, Bool.or_eq_false_iff, Bool.not_eq_true', Bool.not_eq_false', gt_iff_lt, ge_iff_le, Int.not_lt, Int.not_le, ne_eq, Int.natCast_nonneg, true_and, and_true, Decidable.not_not, not_true_eq_false, not_false_eq_true] at hb4
        have hr : rightW k s l g = true := hb4.1.1
        have ht : timely t := ⟨hb4.1.2, hb4.2⟩
        have hta : timely a := ⟨by omega, by omega⟩
        rw [ofW_is hr ht]
        have hlen := wins_len (t := t) hr
        have hlen2 := wins_len (t := a) hr
        refine Tr.skip ?_
        refine Fin.next ?_
        refine Tr.seq ?_
        refine Tr.region ?_
        refine TrL.stepS 112 (.plain rfl (.load4 rfl (.of rfl) T.ag30)) rfl rfl ?_
        refine TrL.stepS 113 (.plain rfl (.move rfl (.of rfl))) rfl rfl ?_
        refine TrL.stepS 114 (.plain rfl (.call rfl (F40 k s l g t hr ht) (.cons (.of rfl) (.cons (.of rfl) .nil)))) rfl rfl ?_
        refine TrL.stepS 10 (.plain rfl (.assign rfl (.of rfl))) rfl rfl ?_
        refine TrL.nil ?_
        refine Fin.keepG (Γ' := [(1, _), (3, _), (5, _), (8, _), (9, _), (10, _), (86, _), (99, _)]) (.same rfl (.same rfl (.same rfl (.same rfl (.same rfl (.same rfl (.same rfl (.same rfl .nil)))))))) ?_
        refine Fin.next ?_
        refine Tr.seq ?_
        refine Tr.seq ?_
        refine Tr.region ?_
        refine TrL.stepS 115 (.plain rfl (.move rfl (.of rfl))) rfl rfl ?_
        refine TrL.stepS 116 (.plain rfl (.len rfl (.of rfl) Try.underlying60)) rfl rfl ?_
        refine TrL.stepS 117 (.plain rfl (.move rfl (.of rfl))) rfl rfl ?_
        refine TrL.stepS 118 (.plain rfl (.len rfl (.of rfl) Try.underlying60)) rfl rfl ?_
        refine TrL.stepS 119 (.plain rfl (.neq rfl (.of rfl) (.of rfl))) rfl rfl ?_
        refine TrL.nil ?_
        refine Fin.keepG (Γ' := [(1, _), (3, _), (5, _), (8, _), (9, _), (10, _), (86, _), (99, _), (119, _)]) (.same rfl (.same rfl (.same rfl (.same rfl (.same rfl (.same rfl (.same rfl (.same rfl (.same rfl .nil))))))))) ?_
        refine Fin.next ?_
        refine Tr.cond rfl (fun hb5 => ?_) (fun hb5 => ?_)
        · exact absurd hb5 (by simp)
        · try simp only [decide_eq_true_eq, decide_eq_false_iff_not, beq_iff_eq, beq_eq_false_iff_ne, bne_iff_ne, bne_eq_false_iff_eq, Bool.and_eq_true, Bool.and_eq_false_iff, Bool.or_eq_true, Bool.or_eq_false_iff, Bool.not_eq_true', Bool.not_eq_false', gt_iff_lt, ge_iff_le, Int.not_lt, Int.not_le, ne_eq, Int.natCast_nonneg, true_and, and_true, Decidable.not_not, not_true_eq_false, not_false_eq_true] at hb5
          refine Tr.skip ?_
          refine Fin.next ?_
          refine Tr.seq ?_
          refine Tr.seq ?_
          refine Tr.region ?_
          refine TrL.stepS 120 (.plain rfl (.move rfl (.of rfl))) rfl rfl ?_
          refine TrL.stepS 121 (.plain rfl (.len rfl (.of rfl) Try.underlying60)) rfl rfl ?_
          refine TrL.stepS 122 (.plain rfl (.move rfl (.of rfl))) rfl rfl ?_
          refine TrL.nil ?_
          refine Fin.next ?_
          refine Tr.block ?_
          refine Tr.loop (γ := Nat) (fun i => i ≤ (winsOf k s l g t).length) (fun _ => []) (fun i => [(1, is (.int .i64 t)), (3, Cells (List.map is [.int .u8 k, .int .i64 s, .int .i64 l, .int .i64 g])), (5, Cells (List.map is [.int .i64 a, .int .i64 b])), (9, Lst spanR (winsOf k s l g t)), (120, Lst spanR (winsOf k s l g t)), (121, is (.int .i64 (winsOf k s l g t).length)), (122, is (.int .i64 i))]) (fun i => (winsOf k s l g t).length - i) (0) ?h0_0 ?hM_0 ?hG_0 ?hl_0
          case h0_0 => exact Nat.zero_le _
          case hM_0 => exact .nil
          case hG_0 => exact (.same rfl (.same rfl (.same rfl (.same rfl (.same rfl (.same rfl (.eq rfl (by rfl) .nil)))))))
          case hl_0 =>
            intro i hI
            refine Tr.seq ?_
            refine Tr.region ?_
            refine TrL.stepS 123 (.plain rfl (.lss rfl (.of rfl) (.of rfl))) rfl rfl ?_
            refine TrL.nil ?_
            refine Fin.next ?_
            refine Tr.seq ?_
            refine Tr.cond rfl (fun hb6 => ?_) (fun hb6 => ?_)
            · try simp only [decide_eq_true_eq, decide_eq_false_iff_not, beq_iff_eq, beq_eq_false_iff_ne, bne_iff_ne, bne_eq_false_iff_eq, Bool.and_eq_true, Bool.and_eq_false_iff, Bool.or_eq_true, Bool.or_eq_false_iff, Bool.not_eq_true', Bool.not_eq_false', gt_iff_lt, ge_iff_le, Int.not_lt, Int.not_le, ne_eq, Int.natCast_nonneg, true_and, and_true, Decidable.not_not, not_true_eq_false, not_false_eq_true] at hb6
              obtain ⟨x, hx⟩ := ex_get (xs := winsOf k s l g t) (i := i) (by omega)
              obtain ⟨hx1, hx2, hx3, hx4⟩ := wins_ok hr ht hx
              refine Tr.skip ?_
              refine Fin.next ?_
              refine Tr.seq ?_
              refine Tr.block ?_
              refine Tr.seq ?_
              refine Tr.region ?_
              refine TrL.stepS 124 (.plain rfl (.move rfl (.of rfl))) rfl rfl ?_
              refine TrL.stepS 125 (.plain rfl (.indexE rfl (.of rfl) (.of rfl) Try.underlying60 T.sz27 (by omega) hx)) rfl rfl ?_
              refine TrL.stepS 126 (.plain rfl (.load2 rfl (.of rfl) T.ag27)) rfl rfl ?_
              refine TrL.allocS 10 (zs := [.int .i64 0, .int .i64 0]) rfl rfl (by kernel_rfl) 12 rfl rfl rfl fun b10 => ?_
              refine TrL.stepS 11 (.plain rfl (.assign rfl (.of rfl))) rfl rfl ?_
              refine TrL.storeW 10 (vs := [_, _]) rfl rfl rfl (.of rfl) (.of rfl) rfl rfl T.sz27 rfl rfl ?_
              refine TrL.nil ?_
              refine Fin.keepG (Γ' := [(1, _), (3, _), (5, _), (9, _), (11, _), (12, _), (120, _), (121, _), (122, _), (123, _)]) (.same rfl (.same rfl (.same rfl (.same rfl (.same rfl (.same rfl (.same rfl (.same rfl (.same rfl (.same rfl .nil)))))))))) ?_
              refine Fin.next ?_
              refine Tr.seq ?_
              refine Tr.regionK T.mixed (by kernel_rfl) (by kernel_rfl) ?_
              refine ChainK.consS 127 (.plain rfl (.move rfl (.of rfl))) rfl ?_
              refine ChainK.consS 128 (.plain rfl (.move rfl (.of rfl))) rfl ?_
              refine ChainK.consS 129 (.plain rfl (.indexE rfl (.of rfl) (.of rfl) Try.underlying60 T.sz27 (by omega) hx)) rfl ?_
              refine ChainK.consS 130 (.plain rfl (.load2 rfl (.of rfl) T.ag27)) rfl ?_
              refine ChainK.consS 131 (.plain rfl (.loadBN 10 (k := 2) (ds := [_, _]) rfl (.of rfl) rfl rfl rfl T.ag27 rfl)) rfl ?_
              refine ChainK.consS 132 (.plain rfl (.neqS rfl (.of rfl) (.of rfl) (by kernel_rfl) (T.eq27 _ _ _ _))) rfl ?_
              refine ChainK.consS 133 (.plain rfl (.move rfl (.of rfl))) rfl ?_
              refine ChainK.consS 134 (.guarded rfl rfl rfl fun hg => .loadBN 10 (k := 2) (ds := [_, _]) rfl (.of rfl) rfl rfl rfl T.ag27 rfl) rfl ?_
              refine ChainK.consS 135 (.guarded rfl rfl rfl fun hg => .move rfl (.of rfl)) rfl ?_
              refine ChainK.consS 136 (.guarded rfl rfl rfl fun hg => .call rfl (F13 ..) (.cons (.cond rfl hg) (.cons (.cond rfl hg) .nil))) rfl ?_
              refine ChainK.consS 137 (.guarded rfl rfl rfl fun hg => .not rfl (.cond rfl hg)) rfl ?_
              refine ChainK.consS 138 (.plain rfl (.or rfl (.of rfl) (.cond rfl fun h => h))) rfl ?_
              refine ChainK.consS 139 (.plain rfl (.move rfl (.of rfl))) rfl ?_
              refine ChainK.consS 140 (.guarded rfl rfl rfl fun hg => .load4 rfl (.of rfl) T.ag30) rfl ?_
              refine ChainK.consS 141 (.guarded rfl rfl rfl fun hg => .loadBN 10 (k := 2) (ds := [_, _]) rfl (.of rfl) rfl rfl rfl T.ag27 rfl) rfl ?_
              refine ChainK.consS 142 (.guarded rfl rfl rfl fun hg => .call rfl (F39 k s l g x.1 x.2 (by omega) (by omega)) (.cons (.cond rfl hg) (.cons (.cond rfl hg) .nil))) rfl ?_
              refine ChainK.consS 143 (.guarded rfl rfl rfl fun hg => .not rfl (.cond rfl hg)) rfl ?_
              refine ChainK.consS 144 (.plain rfl (.or rfl (.of rfl) (.cond rfl fun h => h))) rfl ?_
              refine ChainK.nil ?_
              refine Fin.keepG (Γ' := [(1, _), (3, _), (5, _), (9, _), (11, _), (12, _), (120, _), (121, _), (122, _), (123, _), (144, _)]) (.same rfl (.same rfl (.same rfl (.same rfl (.same rfl (.same rfl (.same rfl (.same rfl (.same rfl (.same rfl (.same rfl .nil))))))))))) ?_
              refine Fin.next ?_
              refine Tr.cond rfl (fun hb7 => ?_) (fun hb7 => ?_)
              · exact absurd hb7 (by simp [hx1, hx2])
              · try simp only [decide_eq_true_eq, decide_eq_false_iff_not, beq_iff_eq, beq_eq_false_iff_ne, bne_iff_ne, bne_eq_false_iff_eq, Bool.and_eq_true, Bool.and_eq_false_iff, Bool.or_eq_true, Bool.or_eq_false_iff, Bool.not_eq_true', Bool.not_eq_false', gt_iff_lt, ge_iff_le, Int.not_lt, Int.not_le, ne_eq, Int.natCast_nonneg, true_and, and_true, Decidable.not_not, not_true_eq_false, not_false_eq_true] at hb7
                refine Tr.skip ?_
                refine Fin.blockNormal ?_
                refine Fin.next ?_
                refine Tr.region ?_
                first | refine TrL.stepS 145 (.plain rfl (.addI L.bd_i64 rfl (.of rfl) (.of rfl) (by omega) (by omega))) rfl rfl ?_ | refine TrL.stepS 145 (.plain rfl (.add rfl (.of rfl) (.of rfl))) rfl rfl ?_
                refine TrL.stepS 122 (.plain rfl (.move rfl (.of rfl))) rfl rfl ?_
                refine TrL.nil ?_
                refine Fin.keepG (Γ' := [(1, _), (3, _), (5, _), (9, _), (11, _), (12, _), (120, _), (121, _), (122, _), (123, _), (144, _)]) (.same rfl (.same rfl (.same rfl (.same rfl (.same rfl (.same rfl (.same rfl (.same rfl (.same rfl (.same rfl (.same rfl .nil))))))))))) ?_
                exact Fin.again (i + 1) (by omega) (by omega) (.nil) (.same rfl (.same rfl (.same rfl (.same rfl (.same rfl (.same rfl (.eq rfl (by push_cast; rfl) .nil)))))))
            · try simp only [decide_eq_true_eq, decide_eq_false_iff_not, beq_iff_eq, beq_eq_false_iff_ne, bne_iff_ne, bne_eq_false_iff_eq, Bool.and_eq_true, Bool.and_eq_false_iff, Bool.or_eq_true, Bool.or_eq_false_iff, Bool.not_eq_true', Bool.not_eq_false', gt_iff_lt, ge_iff_le, Int.not_lt, Int.not_le, ne_eq, Int.natCast_nonneg, true_and, and_true, Decidable.not_not, not_true_eq_false, not_false_eq_true] at hb6
              refine Tr.exit ?_
              refine Fin.thenExit ?_
              refine Fin.thenExit ?_
              refine Fin.blockOut ?_
              refine Fin.next ?_
              refine Tr.seq ?_
              refine Tr.region ?_
              refine TrL.stepS 13 (.plain rfl (.assign rfl (.of rfl))) rfl rfl ?_
              refine TrL.nil ?_
              refine Fin.next ?_
              refine Tr.seqJ (γ := Unit) (fun _ => True) (fun _ => []) (fun _ => [(3, Cells (List.map is [.int .u8 k, .int .i64 s, .int .i64 l, .int .i64 g])), (5, Cells (List.map is [.int .i64 a, .int .i64 b])), (13, is (.bool (isW k s l g a b)))]) ?jx32 ?jk32
              case jx32 =>
                refine Tr.seq ?_
                refine Tr.region ?_
                refine TrL.stepS 146 (.plain rfl (.fieldC rfl (.of rfl) T.fl30_0)) rfl rfl ?_
                refine TrL.stepS 147 (.plain rfl (.load1 rfl (.of rfl) T.sc5)) rfl rfl ?_
                refine TrL.stepS 148 (.plain rfl (.eql rfl (.of rfl) (.of rfl))) rfl rfl ?_
                refine TrL.nil ?_
                refine Fin.keepG (Γ' := [(1, _), (3, _), (5, _), (9, _), (13, _), (120, _), (121, _), (122, _), (123, _), (148, _)]) (.same rfl (.same rfl (.same rfl (.same rfl (.same rfl (.same rfl (.same rfl (.same rfl (.same rfl (.same rfl .nil)))))))))) ?_
                refine Fin.next ?_
                refine Tr.cond rfl (fun hb8 => ?_) (fun hb8 => ?_)
                · try simp only [decide_eq_true_eq, decide_eq_false_iff_not, beq_iff_eq, beq_eq_false_iff_ne, bne_iff_ne, bne_eq_false_iff_eq, Bool.and_eq_true, Bool.and_eq_false_iff, Bool.or_eq_true, Bool.or_eq_false_iff, Bool.not_eq_true', Bool.not_eq_false', gt_iff_lt, ge_iff_le, Int.not_lt, Int.not_le, ne_eq, Int.natCast_nonneg, true_and, and_true, Decidable.not_not, not_true_eq_false, not_false_eq_true] at hb8
                  refine Tr.region ?_
                  refine TrL.stepS 149 (.plain rfl (.fieldC rfl (.of rfl) T.fl27_1)) rfl rfl ?_
                  refine TrL.stepS 150 (.plain rfl (.load1 rfl (.of rfl) T.sc2)) rfl rfl ?_
                  refine TrL.stepS 151 (.plain rfl (.fieldC rfl (.of rfl) T.fl27_0)) rfl rfl ?_
                  refine TrL.stepS 152 (.plain rfl (.load1 rfl (.of rfl) T.sc2)) rfl rfl ?_
                  first | refine TrL.stepS 153 (.plain rfl (.subI L.bd_i64 rfl (.of rfl) (.of rfl) (by omega) (by omega))) rfl rfl ?_ | refine TrL.stepS 153 (.plain rfl (.sub rfl (.of rfl) (.of rfl))) rfl rfl ?_
                  refine TrL.stepS 154 (.plain rfl (.fieldC rfl (.of rfl) T.fl30_3)) rfl rfl ?_
                  refine TrL.stepS 155 (.plain rfl (.load1 rfl (.of rfl) T.sc2)) rfl rfl ?_
                  refine TrL.stepS 156 (.plain rfl (.geq rfl (.of rfl) (.of rfl))) rfl rfl ?_
                  refine TrL.stepS 13 (.plain rfl (.assign rfl (.of rfl))) rfl rfl ?_
                  refine TrL.nil ?_
                  refine Fin.keepG (Γ' := [(1, _), (3, _), (5, _), (9, _), (13, _), (120, _), (121, _), (122, _), (123, _), (148, _)]) (.same rfl (.same rfl (.same rfl (.same rfl (.same rfl (.same rfl (.same rfl (.same rfl (.same rfl (.same rfl .nil)))))))))) ?_
                  exact Fin.reach (()) (trivial) (.nil) (.same rfl (.same rfl (.eq rfl (by rw [isW_3 hr hb8 ha hb]) .nil)))
                · try simp only [decide_eq_true_eq, decide_eq_false_iff_not, beq_iff_eq, beq_eq_false_iff_ne, bne_iff_ne, bne_eq_false_iff_eq, Bool.and_eq_true, Bool.and_eq_false_iff, Bool.or_eq_true, Bool.or_eq_false_iff, Bool.not_eq_true', Bool.not_eq_false', gt_iff_lt, ge_iff_le, Int.not_lt, Int.not_le, ne_eq, Int.natCast_nonneg, true_and, and_true, Decidable.not_not, not_true_eq_false, not_false_eq_true] at hb8
                  refine Tr.seq ?_
                  refine Tr.region ?_
                  refine TrL.stepS 157 (.plain rfl (.load4 rfl (.of rfl) T.ag30)) rfl rfl ?_
                  refine TrL.stepS 158 (.plain rfl (.fieldC rfl (.of rfl) T.fl27_0)) rfl rfl ?_
                  refine TrL.stepS 159 (.plain rfl (.load1 rfl (.of rfl) T.sc2)) rfl rfl ?_
                  refine TrL.stepS 160 (.plain rfl (.call rfl (F40 k s l g a hr hta) (.cons (.of rfl) (.cons (.of rfl) .nil)))) rfl rfl ?_
                  refine TrL.stepS 161 (.plain rfl (.len rfl (.of rfl) Try.underlying60)) rfl rfl ?_
                  refine TrL.stepS 162 (.plain rfl (.move rfl (.of rfl))) rfl rfl ?_
                  refine TrL.nil ?_
                  refine Fin.keepG (Γ' := [(1, _), (3, _), (5, _), (9, _), (13, _), (120, _), (121, _), (122, _), (123, _), (148, _), (160, _), (161, _), (162, _)]) (.same rfl (.same rfl (.same rfl (.same rfl (.same rfl (.same rfl (.same rfl (.same rfl (.same rfl (.same rfl (.same rfl (.same rfl (.same rfl .nil))))))))))))) ?_
                  refine Fin.next ?_
                  refine Tr.block ?_
                  refine Tr.loop (γ := Nat) (fun i => i ≤ (winsOf k s l g a).length) (fun _ => []) (fun i => [(3, Cells (List.map is [.int .u8 k, .int .i64 s, .int .i64 l, .int .i64 g])), (5, Cells (List.map is [.int .i64 a, .int .i64 b])), (13, is (.bool (((winsOf k s l g a).take i).any (eqB a b)))), (160, Lst spanR (winsOf k s l g a)), (161, is (.int .i64 (winsOf k s l g a).length)), (162, is (.int .i64 i))]) (fun i => (winsOf k s l g a).length - i) (0) ?h0_1 ?hM_1 ?hG_1 ?hl_1
                  case h0_1 => exact Nat.zero_le _
                  case hM_1 => exact .nil
                  case hG_1 => exact (.same rfl (.same rfl (.eq rfl (by rfl) (.same rfl (.same rfl (.eq rfl (by rfl) .nil))))))
                  case hl_1 =>
                    intro i hI
                    refine Tr.seq ?_
                    refine Tr.region ?_
                    refine TrL.stepS 163 (.plain rfl (.lss rfl (.of rfl) (.of rfl))) rfl rfl ?_
                    refine TrL.nil ?_
                    refine Fin.next ?_
                    refine Tr.seq ?_
                    refine Tr.cond rfl (fun hb9 => ?_) (fun hb9 => ?_)
                    · try simp only [decide_eq_true_eq, decide_eq_false_iff_not, beq_iff_eq, beq_eq_false_iff_ne, bne_iff_ne, bne_eq_false_iff_eq, Bool.and_eq_true, Bool.and_eq_false_iff, Bool.or_eq_true, Bool.or_eq_false_iff, Bool.not_eq_true', Bool.not_eq_false', gt_iff_lt, ge_iff_le, Int.not_lt, Int.not_le, ne_eq, Int.natCast_nonneg, true_and, and_true, Decidable.not_not, not_true_eq_false, not_false_eq_true] at hb9
                      obtain ⟨x, hx⟩ := ex_get (xs := winsOf k s l g a) (i := i) (by omega)
                      refine Tr.skip ?_
                      refine Fin.next ?_
                      refine Tr.seq ?_
                      refine Tr.block ?_
                      refine Tr.seq ?_
                      refine Tr.region ?_
                      refine TrL.stepS 164 (.plain rfl (.indexE rfl (.of rfl) (.of rfl) Try.underlying60 T.sz27 (by omega) hx)) rfl rfl ?_
                      refine TrL.stepS 165 (.plain rfl (.load2 rfl (.of rfl) T.ag27)) rfl rfl ?_
                      refine TrL.allocS 11 (zs := [.int .i64 0, .int .i64 0]) rfl rfl (by kernel_rfl) 15 rfl rfl rfl fun b11 => ?_
                      refine TrL.storeW 11 (vs := [_, _]) rfl rfl rfl (.of rfl) (.of rfl) rfl rfl T.sz27 rfl rfl ?_
                      refine TrL.nil ?_
                      refine Fin.keepG (Γ' := [(3, _), (5, _), (13, _), (15, _), (160, _), (161, _), (162, _), (163, _)]) (.same rfl (.same rfl (.same rfl (.same rfl (.same rfl (.same rfl (.same rfl (.same rfl .nil)))))))) ?_
                      refine Fin.next ?_
                      refine Tr.region ?_
                      refine TrL.stepS 166 (.plain rfl (.move rfl (.of rfl))) rfl rfl ?_
                      refine TrL.stepS 167 (.plain rfl (.move rfl (.of rfl))) rfl rfl ?_
                      refine TrL.stepS 168 (.guarded rfl rfl rfl fun hg => .loadBN 11 (k := 2) (ds := [_, _]) rfl (.of rfl) rfl rfl rfl T.ag27 rfl) rfl rfl ?_
                      refine TrL.stepS 169 (.guarded rfl rfl rfl fun hg => .load2 rfl (.of rfl) T.ag27) rfl rfl ?_
                      refine TrL.stepS 170 (.guarded rfl rfl rfl fun hg => .eqlS rfl (.cond rfl hg) (.cond rfl hg) (by kernel_rfl) (T.eq27 _ _ _ _)) rfl rfl ?_
                      refine TrL.stepS 171 (.plain rfl (.or rfl (.of rfl) (.cond rfl fun h => h))) rfl rfl ?_
                      refine TrL.stepS 13 (.plain rfl (.assign rfl (.of rfl))) rfl rfl ?_
                      refine TrL.nil ?_
                      refine Fin.keepG (Γ' := [(3, _), (5, _), (13, _), (15, _), (160, _), (161, _), (162, _), (163, _)]) (.same rfl (.same rfl (.same rfl (.same rfl (.same rfl (.same rfl (.same rfl (.same rfl .nil)))))))) ?_
                      refine Fin.blockNormal ?_
                      refine Fin.next ?_
                      refine Tr.region ?_
                      first | refine TrL.stepS 172 (.plain rfl (.addI L.bd_i64 rfl (.of rfl) (.of rfl) (by omega) (by omega))) rfl rfl ?_ | refine TrL.stepS 172 (.plain rfl (.add rfl (.of rfl) (.of rfl))) rfl rfl ?_
                      refine TrL.stepS 162 (.plain rfl (.move rfl (.of rfl))) rfl rfl ?_
                      refine TrL.nil ?_
                      refine Fin.keepG (Γ' := [(3, _), (5, _), (13, _), (15, _), (160, _), (161, _), (162, _), (163, _)]) (.same rfl (.same rfl (.same rfl (.same rfl (.same rfl (.same rfl (.same rfl (.same rfl .nil)))))))) ?_
                      exact Fin.again (i + 1) (by omega) (by omega) (.nil) (.same rfl (.same rfl (.eq rfl (by rw [take_snoc hx, List.any_append]; simp [eqB]) (.same rfl (.same rfl (.eq rfl (by push_cast; rfl) .nil))))))
                    · try simp only [decide_eq_true_eq, decide_eq_false_iff_not, beq_iff_eq, beq_eq_false_iff_ne, bne_iff_ne, bne_eq_false_iff_eq, Bool.and_eq_true, Bool.and_eq_false_iff, Bool.or_eq_true, Bool.or_eq_false_iff, Bool.not_eq_true', Bool.not_eq_false', gt_iff_lt, ge_iff_le, Int.not_lt, Int.not_le, ne_eq, Int.natCast_nonneg, true_and, and_true, Decidable.not_not, not_true_eq_false, not_false_eq_true] at hb9
                      refine Tr.exit ?_
                      refine Fin.thenExit ?_
                      refine Fin.thenExit ?_
                      refine Fin.blockOut ?_
                      exact Fin.reach (()) (trivial) (.nil) (.same rfl (.same rfl (.eq rfl (by rw [wins_own hr hb8 ha hb, List.take_of_length_le (by omega)]) .nil)))
              case jk32 =>
                intro u hI
                refine Tr.seq ?_
                refine Tr.region ?_
                refine TrL.stepS 173 (.plain rfl (.load4 rfl (.of rfl) T.ag30)) rfl rfl ?_
                refine TrL.stepS 174 (.plain rfl (.load2 rfl (.of rfl) T.ag27)) rfl rfl ?_
                refine TrL.stepS 175 (.plain rfl (.call rfl (F39 k s l g a b (by omega) (by omega)) (.cons (.of rfl) (.cons (.of rfl) .nil)))) rfl rfl ?_
                refine TrL.stepS 176 (.plain rfl (.move rfl (.of rfl))) rfl rfl ?_
                refine TrL.stepS 177 (.plain rfl (.eqlB rfl (.of rfl) (.of rfl) Try.underlying4)) rfl rfl ?_
                refine TrL.stepS 6 (.plain rfl (.assign rfl (.of rfl))) rfl rfl ?_
                refine TrL.nil ?_
                refine Fin.keepG (Γ' := [(3, _), (5, _), (6, _), (13, _)]) (.same rfl (.same rfl (.same rfl (.same rfl .nil)))) ?_
                refine Fin.next ?_
                refine Tr.ret ?_
                refine Fin.retI (rs := [_]) (Rs' := [is (.bool true)]) rfl (.cons (.tmp rfl) .nil) ?_
                refine (.cons (L.iv ?_) .nil)
                · simp

/- tidepool/tidepooltop.marked34 -/
set_option maxRecDepth 100000 in
theorem F15 (l t a b : Int) (xs : List Int) (hl : xs.length ≤ 20) : FnP Try.prog 15 [is (.int .i64 l), Lst (intR .i64) xs, is (.int .i64 t), is (.agg #[.int .i64 a, .int .i64 b])] (is (.bool true)) := by
  refine FnP.mk' Try.func15 T.nm15 rfl (N := 139) rfl rfl fun B hB hκ => ?_
  refine Tr.seq ?_
  refine Tr.region ?_
  refine TrL.stepS 7 (.plain rfl (.boxR rfl (.of rfl))) rfl rfl ?_
  refine TrL.stepS 8 (.plain rfl (.assign rfl (.of rfl))) rfl rfl ?_
  refine TrL.nil ?_
  refine Fin.next ?_
  refine Tr.seq ?_
  refine Tr.region ?_
  refine TrL.stepS 19 (.plain rfl (.move rfl (.of rfl))) rfl rfl ?_
  refine TrL.stepS 20 (.plain rfl (.call rfl (F33 ..) (.cons (.of rfl) .nil))) rfl rfl ?_
  refine TrL.stepS 18 (.plain rfl (.move rfl (.of rfl))) rfl rfl ?_
  refine TrL.stepS 21 (.plain rfl (.extract rfl (.of rfl) rfl)) rfl rfl ?_
  refine TrL.stepS 22 (.plain rfl (.extract rfl (.of rfl) rfl)) rfl rfl ?_
  refine TrL.allocS 10 (zs := [.int .i64 0, .int .i64 0]) rfl rfl (by kernel_rfl) 9 rfl rfl rfl fun b10 => ?_
  refine TrL.storeW 10 (vs := [_, _]) rfl rfl rfl (.of rfl) (.of rfl) rfl rfl T.sz66 rfl rfl ?_
  refine TrL.stepS 10 (.plain rfl (.assign rfl (.of rfl))) rfl rfl ?_
  refine TrL.nil ?_
  refine Fin.keepG (Γ' := [(0, _), (1, _), (2, _), (3, _), (7, _), (8, _), (9, _), (10, _)]) (.same rfl (.same rfl (.same rfl (.same rfl (.same rfl (.same rfl (.same rfl (.same rfl .nil)))))))) ?_
  refine Fin.next ?_
  refine Tr.seq ?_
  refine Tr.seq ?_
  refine Tr.region ?_
  refine TrL.stepS 23 (.plain rfl (.move rfl (.of rfl))) rfl rfl ?_
  refine TrL.stepS 24 (.plain rfl (.lss rfl (.of rfl) (.of rfl))) rfl rfl ?_
  refine TrL.stepS 25 (.plain rfl (.move rfl (.of rfl))) rfl rfl ?_
  refine TrL.stepS 26 (.guarded rfl rfl rfl fun hg => .move rfl (.of rfl)) rfl rfl ?_
  refine TrL.stepS 27 (.guarded rfl rfl rfl fun hg => .gtr rfl (.cond rfl hg) (.of rfl)) rfl rfl ?_
  refine TrL.stepS 28 (.plain rfl (.or rfl (.of rfl) (.cond rfl fun h => h))) rfl rfl ?_
  refine TrL.nil ?_
  refine Fin.keepG (Γ' := [(0, _), (1, _), (2, _), (3, _), (7, _), (8, _), (9, _), (10, _), (28, _)]) (.same rfl (.same rfl (.same rfl (.same rfl (.same rfl (.same rfl (.same rfl (.same rfl (.same rfl .nil))))))))) ?_
  refine Fin.next ?_
  refine Tr.cond rfl (fun hb0 => ?_) (fun hb0 => ?_)
  · try simp only [decide_eq_true_eq, decide_eq_false_iff_not, beq_iff_eq, beq_eq_false_iff_ne, bne_iff_ne, bne_eq_false_iff_eq, Bool.and_eq_true, Bool.and_eq_false_iff, Bool.or_eq_true, Bool.or_eq_false_iff, Bool.not_eq_true', Bool.not_eq_false', gt_iff_lt, ge_iff_le, Int.not_lt, Int.not_le, ne_eq, Int.natCast_nonneg, true_and, and_true, Decidable.not_not, not_true_eq_false, not_false_eq_true] at hb0
    have hn : ¬ (0 ≤ l ∧ l ≤ 1048576) := by omega
    refine Tr.seq ?_
    refine Tr.region ?_
    refine TrL.stepS 29 (.plain rfl (.move rfl (.of rfl))) rfl rfl ?_
    refine TrL.stepS 30 (.plain rfl (.eql rfl (.of rfl) (.of rfl))) rfl rfl ?_
    refine TrL.stepS 31 (.plain rfl (.move rfl (.of rfl))) rfl rfl ?_
    refine TrL.stepS 32 (.guarded rfl rfl rfl fun hg => .loadBN 10 (k := 2) (ds := [_, _]) rfl (.of rfl) rfl rfl rfl T.ag66 rfl) rfl rfl ?_
    refine TrL.stepS 33 (.guarded rfl rfl rfl fun hg => .build rfl .nil (T.bd66)) rfl rfl ?_
    refine TrL.stepS 34 (.guarded rfl rfl rfl fun hg => .eqlS rfl (.cond rfl hg) (.cond rfl hg) (by kernel_rfl) (T.eq66 _ _ _ _)) rfl rfl ?_
    refine TrL.stepS 35 (.plain rfl (.and rfl (.of rfl) (.cond rfl fun h => h))) rfl rfl ?_
    refine TrL.stepS 36 (.plain rfl (.move rfl (.of rfl))) rfl rfl ?_
    refine TrL.stepS 37 (.guarded rfl rfl rfl fun hg => .move rfl (.of rfl)) rfl rfl ?_
    refine TrL.stepS 38 (.guarded rfl rfl rfl fun hg => .build rfl (.cons (.of rfl) (.cons (.cond rfl hg) .nil)) (T.bd66_0_1 _ _)) rfl rfl ?_
    refine TrL.stepS 39 (.guarded rfl rfl rfl fun hg => .call rfl (F41 ..) (.cons (.cond rfl hg) .nil)) rfl rfl ?_
    refine TrL.stepS 40 (.guarded rfl rfl rfl fun hg => .not rfl (.cond rfl hg)) rfl rfl ?_
    refine TrL.stepS 41 (.plain rfl (.and rfl (.of rfl) (.cond rfl fun h => h))) rfl rfl ?_
    refine TrL.stepS 8 (.plain rfl (.assign rfl (.of rfl))) rfl rfl ?_
    refine TrL.nil ?_
    refine Fin.keepG (Γ' := [(0, _), (1, _), (2, _), (3, _), (7, _), (8, _), (9, _), (10, _), (28, _)]) (.same rfl (.same rfl (.same rfl (.same rfl (.same rfl (.same rfl (.same rfl (.same rfl (.same rfl .nil))))))))) ?_
    refine Fin.next ?_
    refine Tr.ret ?_
    refine Fin.thenRet ?_
    refine Fin.retI (rs := [_]) (Rs' := [is (.bool true)]) rfl (.cons (.tmp rfl) .nil) ?_
    refine (.cons (L.iv ?_) .nil)
    · congr 1; simp [hn, rightA]; try omega
  · try simp only [decide_eq_true_eq, decide_eq_false_iff_not, beq_iff_eq, beq_eq_false_iff_ne, bne_iff_ne, bne_eq_false_iff_eq, Bool.and_eq_true, Bool.and_eq_false_iff, Bool.or_eq_true, Bool.or_eq_false_iff, Bool.not_eq_true', Bool.not_eq_false', gt_iff_lt, ge_iff_le, Int.not_lt, Int.not_le, ne_eq, Int.natCast_nonneg, true_and, and_true, Decidable.not_not, not_true_eq_false, not_false_eq_true] at hb0
    have hl0 : 0 ≤ l ∧ l ≤ 1048576 := by omega
    rw [if_pos hl0, if_pos hl0, if_pos hl0]
    refine Tr.skip ?_
    refine Fin.next ?_
    refine Tr.seq ?_
    refine Tr.seq ?_
    refine Tr.region ?_
    refine TrL.stepS 42 (.plain rfl (.move rfl (.of rfl))) rfl rfl ?_
    refine TrL.stepS 43 (.plain rfl (.neq rfl (.of rfl) (.of rfl))) rfl rfl ?_
    refine TrL.stepS 44 (.plain rfl (.move rfl (.of rfl))) rfl rfl ?_
    refine TrL.stepS 45 (.guarded rfl rfl rfl fun hg => .loadBN 10 (k := 2) (ds := [_, _]) rfl (.of rfl) rfl rfl rfl T.ag66 rfl) rfl rfl ?_
    refine TrL.stepS 46 (.guarded rfl rfl rfl fun hg => .move rfl (.of rfl)) rfl rfl ?_
    refine TrL.stepS 47 (.guarded rfl rfl rfl fun hg => .build rfl (.cons (.of rfl) (.cons (.cond rfl hg) .nil)) (T.bd66_0_1 _ _)) rfl rfl ?_
    refine TrL.stepS 48 (.guarded rfl rfl rfl fun hg => .neqS rfl (.cond rfl hg) (.cond rfl hg) (by kernel_rfl) (T.eq66 _ _ _ _)) rfl rfl ?_
    refine TrL.stepS 49 (.plain rfl (.or rfl (.of rfl) (.cond rfl fun h => h))) rfl rfl ?_
    refine TrL.nil ?_
    refine Fin.keepG (Γ' := [(0, _), (1, _), (2, _), (3, _), (7, _), (8, _), (9, _), (10, _), (28, _), (49, _)]) (.same rfl (.same rfl (.same rfl (.same rfl (.same rfl (.same rfl (.same rfl (.same rfl (.same rfl (.same rfl .nil)))))))))) ?_
    refine Fin.next ?_
    refine Tr.cond rfl (fun hb1 => ?_) (fun hb1 => ?_)
    · exact absurd hb1 (by simp)
    · try simp only [decide_eq_true_eq, decide_eq_false_iff_not, beq_iff_eq, beq_eq_false_iff_ne, bne_iff_ne, bne_eq_false_iff_eq, Bool.and_eq_true, Bool.and_eq_false_iff, Bool.or_eq_true, Bool.or_eq_false_iff, Bool.not_eq_true', Bool.not_eq_false', gt_iff_lt, ge_iff_le, Int.not_lt, Int.not_le, ne_eq, Int.natCast_nonneg, true_and, and_true, Decidable.not_not, not_true_eq_false, not_false_eq_true] at hb1
      refine Tr.skip ?_
      refine Fin.next ?_
      refine Tr.seq ?_
      refine Tr.region ?_
      refine TrL.stepS 11 (.plain rfl (.assign rfl (.of rfl))) rfl rfl ?_
      refine TrL.nil ?_
      refine Fin.next ?_
      refine Tr.seq ?_
      refine Tr.seq ?_
      refine Tr.region ?_
      refine TrL.stepS 50 (.plain rfl (.move rfl (.of rfl))) rfl rfl ?_
      refine TrL.stepS 51 (.plain rfl (.len rfl (.of rfl) Try.underlying24)) rfl rfl ?_
      refine TrL.stepS 52 (.plain rfl (.move rfl (.of rfl))) rfl rfl ?_
      refine TrL.nil ?_
      refine Fin.next ?_
      refine Tr.block ?_
      refine Tr.loop (γ := Nat × Int) (fun p => p.1 ≤ xs.length ∧ rightA p.2 l = true) (fun p => [(10, Blk b10 [.int .i64 p.2, .int .i64 l] 66)]) (fun p => [(0, is (.int .i64 l)), (2, is (.int .i64 t)), (7, Cells (List.map is [.int .i64 a, .int .i64 b])), (9, is (.pointer (some ⟨b10, 0, none⟩))), (11, is (.int .i64 p.2)), (50, Lst (intR .i64) xs), (51, is (.int .i64 xs.length)), (52, is (.int .i64 (p.1 : Int)))]) (fun p => xs.length - p.1) ((0, -2199023255552)) ?h0_0 ?hM_0 ?hG_0 ?hl_0
      case h0_0 => exact ⟨Nat.zero_le _, by simp [rightA]; omega⟩
      case hM_0 => exact (.same rfl .nil)
      case hG_0 => exact (.same rfl (.same rfl (.same rfl (.same rfl (.eq rfl (by rfl) (.same rfl (.same rfl (.eq rfl (by rfl) .nil))))))))
      case hl_0 =>
        intro p hI
        obtain ⟨i, m⟩ := p
        dsimp only at hI ⊢
        obtain ⟨hi, hr⟩ := hI
        refine Tr.seq ?_
        refine Tr.region ?_
        refine TrL.stepS 53 (.plain rfl (.lss rfl (.of rfl) (.of rfl))) rfl rfl ?_
        refine TrL.nil ?_
        refine Fin.next ?_
        refine Tr.seq ?_
        refine Tr.cond rfl (fun hb2 => ?_) (fun hb2 => ?_)
        · try simp only [decide_eq_true_eq, decide_eq_false_iff_not, beq_iff_eq, beq_eq_false_iff_ne, bne_iff_ne, bne_eq_false_iff_eq, Bool.and_eq_true, Bool.and_eq_false_iff, Bool.or_eq_true, Bool.or_eq_false_iff, Bool.not_eq_true', Bool.not_eq_false', gt_iff_lt, ge_iff_le, Int.not_lt, Int.not_le, ne_eq, Int.natCast_nonneg, true_and, and_true, Decidable.not_not, not_true_eq_false, not_false_eq_true] at hb2
          obtain ⟨x, hx⟩ := ex_get (xs := xs) (i := i) (by omega)
          refine Tr.skip ?_
          refine Fin.next ?_
          refine Tr.seq ?_
          refine Tr.block ?_
          refine Tr.seq ?_
          refine Tr.region ?_
          refine TrL.stepS 54 (.plain rfl (.indexE rfl (.of rfl) (.of rfl) Try.underlying24 T.sz2 (by first | omega | (simp [rightA] at hg; omega)) hx)) rfl rfl ?_
          refine TrL.stepS 55 (.plain rfl (.load1 rfl (.of rfl) T.sc2)) rfl rfl ?_
          refine TrL.stepS 13 (.plain rfl (.assign rfl (.of rfl))) rfl rfl ?_
          refine TrL.nil ?_
          refine Fin.keepG (Γ' := [(0, _), (2, _), (7, _), (9, _), (11, _), (13, _), (50, _), (51, _), (52, _), (53, _)]) (.same rfl (.same rfl (.same rfl (.same rfl (.same rfl (.same rfl (.same rfl (.same rfl (.same rfl (.same rfl .nil)))))))))) ?_
          refine Fin.next ?_
          refine Tr.seq ?_
          refine Tr.region ?_
          refine TrL.stepS 57 (.plain rfl (.loadBN 10 (k := 2) (ds := [_, _]) rfl (.of rfl) rfl rfl rfl T.ag66 rfl)) rfl rfl ?_
          refine TrL.stepS 58 (.plain rfl (.move rfl (.of rfl))) rfl rfl ?_
          refine TrL.stepS 59 (.plain rfl (.call rfl (F34 ..) (.cons (.of rfl) (.cons (.of rfl) .nil)))) rfl rfl ?_
          refine TrL.stepS 56 (.plain rfl (.move rfl (.of rfl))) rfl rfl ?_
          refine TrL.stepS 60 (.plain rfl (.extract rfl (.of rfl) rfl)) rfl rfl ?_
          refine TrL.stepS 61 (.plain rfl (.extract rfl (.of rfl) rfl)) rfl rfl ?_
          refine TrL.allocS 11 (zs := [.int .i64 0, .int .i64 0]) rfl rfl (by kernel_rfl) 14 rfl rfl rfl fun b11 => ?_
          refine TrL.storeW 11 (vs := [_, _]) rfl rfl rfl (.of rfl) (.of rfl) rfl rfl T.sz66 rfl rfl ?_
          refine TrL.stepS 15 (.plain rfl (.assign rfl (.of rfl))) rfl rfl ?_
          refine TrL.nil ?_
          refine Fin.keepG (Γ' := [(0, _), (2, _), (7, _), (9, _), (11, _), (13, _), (14, _), (15, _), (50, _), (51, _), (52, _), (53, _)]) (.same rfl (.same rfl (.same rfl (.same rfl (.same rfl (.same rfl (.same rfl (.same rfl (.same rfl (.same rfl (.same rfl (.same rfl .nil)))))))))))) ?_
          refine Fin.next ?_
          refine Tr.seq ?_
          refine Tr.region ?_
          refine TrL.stepS 62 (.plain rfl (.move rfl (.of rfl))) rfl rfl ?_
          refine TrL.stepS 16 (.plain rfl (.assign rfl (.of rfl))) rfl rfl ?_
          refine TrL.stepS 17 (.plain rfl (.assign rfl (.of rfl))) rfl rfl ?_
          refine TrL.nil ?_
          refine Fin.keepG (Γ' := [(0, _), (2, _), (7, _), (9, _), (11, _), (13, _), (14, _), (15, _), (16, _), (17, _), (50, _), (51, _), (52, _), (53, _)]) (.same rfl (.same rfl (.same rfl (.same rfl (.same rfl (.same rfl (.same rfl (.same rfl (.same rfl (.same rfl (.same rfl (.same rfl (.same rfl (.same rfl .nil)))))))))))))) ?_
          refine Fin.next ?_
          refine Tr.seqJ (γ := Int × Int) (fun q => rightA q.1 l = true) (fun q => [(10, Blk b10 [.int .i64 m, .int .i64 l] 66), (11, Blk b11 [.int .i64 q.1, .int .i64 l] 66)]) (fun q => [(0, is (.int .i64 l)), (2, is (.int .i64 t)), (7, Cells (List.map is [.int .i64 a, .int .i64 b])), (9, is (.pointer (some ⟨b10, 0, none⟩))), (11, is (.int .i64 m)), (14, is (.pointer (some ⟨b11, 0, none⟩))), (15, is (.int .i64 q.2)), (16, is (.int .i64 q.2)), (17, is (.int .i64 q.1)), (50, Lst (intR .i64) xs), (51, is (.int .i64 xs.length)), (52, is (.int .i64 i))]) ?jx16 ?jk16
          case jx16 =>
            refine Tr.seq ?_
            refine Tr.region ?_
            refine TrL.stepS 63 (.plain rfl (.move rfl (.of rfl))) rfl rfl ?_
            refine TrL.stepS 64 (.plain rfl (.lss rfl (.of rfl) (.of rfl))) rfl rfl ?_
            refine TrL.stepS 65 (.plain rfl (.move rfl (.of rfl))) rfl rfl ?_
            refine TrL.stepS 66 (.guarded rfl rfl rfl fun hg => .move rfl (.of rfl)) rfl rfl ?_
            refine TrL.stepS 67 (.guarded rfl rfl rfl fun hg => .gtr rfl (.cond rfl hg) (.of rfl)) rfl rfl ?_
            refine TrL.stepS 68 (.plain rfl (.or rfl (.of rfl) (.cond rfl fun h => h))) rfl rfl ?_
            refine TrL.nil ?_
            refine Fin.keepG (Γ' := [(0, _), (2, _), (7, _), (9, _), (11, _), (13, _), (14, _), (15, _), (16, _), (17, _), (50, _), (51, _), (52, _), (53, _), (68, _)]) (.same rfl (.same rfl (.same rfl (.same rfl (.same rfl (.same rfl (.same rfl (.same rfl (.same rfl (.same rfl (.same rfl (.same rfl (.same rfl (.same rfl (.same rfl .nil))))))))))))))) ?_
            refine Fin.next ?_
            refine Tr.cond rfl (fun hb3 => ?_) (fun hb3 => ?_)
            · try simp only [decide_eq_true_eq, decide_eq_false_iff_not, beq_iff_eq, beq_eq_false_iff_ne, bne_iff_ne, bne_eq_false_iff_eq, Bool.and_eq_true, Bool.and_eq_false_iff, Bool.or_eq_true, Bool.or_eq_false_iff, Bool.not_eq_true', Bool.not_eq_false', gt_iff_lt, ge_iff_le, Int.not_lt, Int.not_le, ne_eq, Int.natCast_nonneg, true_and, and_true, Decidable.not_not, not_true_eq_false, not_false_eq_true] at hb3
              refine Tr.region ?_
              refine TrL.stepS 69 (.plain rfl (.move rfl (.of rfl))) rfl rfl ?_
              refine TrL.stepS 16 (.plain rfl (.assign rfl (.of rfl))) rfl rfl ?_
              refine TrL.stepS 17 (.plain rfl (.assign rfl (.of rfl))) rfl rfl ?_
              refine TrL.nil ?_
              refine Fin.keepG (Γ' := [(0, _), (2, _), (7, _), (9, _), (11, _), (13, _), (14, _), (15, _), (16, _), (17, _), (50, _), (51, _), (52, _), (53, _), (68, _)]) (.same rfl (.same rfl (.same rfl (.same rfl (.same rfl (.same rfl (.same rfl (.same rfl (.same rfl (.same rfl (.same rfl (.same rfl (.same rfl (.same rfl (.same rfl .nil))))))))))))))) ?_
              exact Fin.reach ((m, 61)) (hr) ((.same rfl (.cons rfl (fun F w h => by rw [if_neg (by omega)] at h; exact h) .nil))) (.same rfl (.same rfl (.same rfl (.same rfl (.same rfl (.same rfl (.eq rfl (by rw [if_neg (by simp [hr]), if_pos (by omega)]) (.same rfl (.same rfl (.same rfl (.same rfl (.same rfl .nil))))))))))))
            · try simp only [decide_eq_true_eq, decide_eq_false_iff_not, beq_iff_eq, beq_eq_false_iff_ne, bne_iff_ne, bne_eq_false_iff_eq, Bool.and_eq_true, Bool.and_eq_false_iff, Bool.or_eq_true, Bool.or_eq_false_iff, Bool.not_eq_true', Bool.not_eq_false', gt_iff_lt, ge_iff_le, Int.not_lt, Int.not_le, ne_eq, Int.natCast_nonneg, true_and, and_true, Decidable.not_not, not_true_eq_false, not_false_eq_true] at hb3
              refine Tr.seq ?_
              refine Tr.region ?_
              refine TrL.stepS 70 (.plain rfl (.move rfl (.of rfl))) rfl rfl ?_
              refine TrL.stepS 71 (.plain rfl (.move rfl (.of rfl))) rfl rfl ?_
              refine TrL.stepS 72 (.plain rfl (.lss rfl (.of rfl) (.of rfl))) rfl rfl ?_
              refine TrL.nil ?_
              refine Fin.keepG (Γ' := [(0, _), (2, _), (7, _), (9, _), (11, _), (13, _), (14, _), (15, _), (16, _), (17, _), (50, _), (51, _), (52, _), (53, _), (68, _), (72, _)]) (.same rfl (.same rfl (.same rfl (.same rfl (.same rfl (.same rfl (.same rfl (.same rfl (.same rfl (.same rfl (.same rfl (.same rfl (.same rfl (.same rfl (.same rfl (.same rfl .nil)))))))))))))))) ?_
              refine Fin.next ?_
              refine Tr.cond rfl (fun hb4 => ?_) (fun hb4 => ?_)
              · try simp only [decide_eq_true_eq, decide_eq_false_iff_not, beq_iff_eq, beq_eq_false_iff_ne, bne_iff_ne, bne_eq_false_iff_eq, Bool.and_eq_true, Bool.and_eq_false_iff, Bool.or_eq_true, Bool.or_eq_false_iff, Bool.not_eq_true', Bool.not_eq_false', gt_iff_lt, ge_iff_le, Int.not_lt, Int.not_le, ne_eq, Int.natCast_nonneg, true_and, and_true, Decidable.not_not, not_true_eq_false, not_false_eq_true] at hb4
                refine Tr.region ?_
                refine TrL.stepS 73 (.plain rfl (.move rfl (.of rfl))) rfl rfl ?_
                refine TrL.stepS 16 (.plain rfl (.assign rfl (.of rfl))) rfl rfl ?_
                refine TrL.stepS 17 (.plain rfl (.assign rfl (.of rfl))) rfl rfl ?_
                refine TrL.nil ?_
                refine Fin.keepG (Γ' := [(0, _), (2, _), (7, _), (9, _), (11, _), (13, _), (14, _), (15, _), (16, _), (17, _), (50, _), (51, _), (52, _), (53, _), (68, _), (72, _)]) (.same rfl (.same rfl (.same rfl (.same rfl (.same rfl (.same rfl (.same rfl (.same rfl (.same rfl (.same rfl (.same rfl (.same rfl (.same rfl (.same rfl (.same rfl (.same rfl .nil)))))))))))))))) ?_
                exact Fin.reach ((m, 181)) (hr) ((.same rfl (.cons rfl (fun F w h => by rw [if_neg (by omega)] at h; exact h) .nil))) (.same rfl (.same rfl (.same rfl (.same rfl (.same rfl (.same rfl (.eq rfl (by rw [if_neg (by simp [hr]), if_neg (by omega), if_pos (by omega)]) (.same rfl (.same rfl (.same rfl (.same rfl (.same rfl .nil))))))))))))
              · try simp only [decide_eq_true_eq, decide_eq_false_iff_not, beq_iff_eq, beq_eq_false_iff_ne, bne_iff_ne, bne_eq_false_iff_eq, Bool.and_eq_true, Bool.and_eq_false_iff, Bool.or_eq_true, Bool.or_eq_false_iff, Bool.not_eq_true', Bool.not_eq_false', gt_iff_lt, ge_iff_le, Int.not_lt, Int.not_le, ne_eq, Int.natCast_nonneg, true_and, and_true, Decidable.not_not, not_true_eq_false, not_false_eq_true] at hb4
                refine Tr.skip ?_
                exact Fin.reach ((x, 0)) (by simp only [rightA, decide_eq_true_eq] at hr ⊢; omega) ((.same rfl (.cons rfl (fun F w h => by rw [if_pos ⟨hr, by omega, by omega⟩] at h; exact h) .nil))) (.same rfl (.same rfl (.same rfl (.same rfl (.same rfl (.same rfl (.eq rfl (by rw [if_neg (by simp [hr]), if_neg (by omega), if_neg (by omega)]) (.same rfl (.same rfl (.same rfl (.same rfl (.same rfl .nil))))))))))))
          case jk16 =>
            intro q hI
            obtain ⟨V, E⟩ := q
            dsimp only at hI ⊢
            have hV := hI
            have hVb : -2199023255552 ≤ V ∧ V ≤ 2199023255552 := (by have := hV; simp only [rightA, decide_eq_true_eq] at this; omega)
            refine Tr.seq ?_
            refine Tr.seq ?_
            refine Tr.regionK T.mixed (by kernel_rfl) (by kernel_rfl) ?_
            refine ChainK.consS 74 (.plain rfl (.move rfl (.of rfl))) rfl ?_
            refine ChainK.consS 75 (.plain rfl (.move rfl (.of rfl))) rfl ?_
            refine ChainK.consS 76 (.plain rfl (.neq rfl (.of rfl) (.of rfl))) rfl ?_
            refine ChainK.consS 77 (.plain rfl (.move rfl (.of rfl))) rfl ?_
            refine ChainK.consS 78 (.guarded rfl rfl rfl fun hg => .loadBN 11 (k := 2) (ds := [_, _]) rfl (.of rfl) rfl rfl rfl T.ag66 rfl) rfl ?_
            refine ChainK.consS 79 (.guarded rfl rfl rfl fun hg => .move rfl (.of rfl)) rfl ?_
            refine ChainK.consS 80 (.guarded rfl rfl rfl fun hg => .move rfl (.of rfl)) rfl ?_
            refine ChainK.consS 81 (.guarded rfl rfl rfl fun hg => .build rfl (.cons (.cond rfl hg) (.cons (.cond rfl hg) .nil)) (T.bd66_0_1 _ _)) rfl ?_
            refine ChainK.consS 82 (.guarded rfl rfl rfl fun hg => .neqS rfl (.cond rfl hg) (.cond rfl hg) (by kernel_rfl) (T.eq66 _ _ _ _)) rfl ?_
            refine ChainK.consS 83 (.plain rfl (.or rfl (.of rfl) (.cond rfl fun h => h))) rfl ?_
            refine ChainK.consS 84 (.plain rfl (.move rfl (.of rfl))) rfl ?_
            refine ChainK.consS 85 (.guarded rfl rfl rfl fun hg => .loadBN 11 (k := 2) (ds := [_, _]) rfl (.of rfl) rfl rfl rfl T.ag66 rfl) rfl ?_
            refine ChainK.consS 86 (.guarded rfl rfl rfl fun hg => .loadBN 10 (k := 2) (ds := [_, _]) rfl (.of rfl) rfl rfl rfl T.ag66 rfl) rfl ?_
            refine ChainK.consS 87 (.guarded rfl rfl rfl fun hg => .load2 rfl (.of rfl) T.ag27) rfl ?_
            refine ChainK.consS 88 (.guarded rfl rfl rfl fun hg => .call rfl (F42 ..) (.cons (.cond rfl hg) (.cons (.cond rfl hg) (.cons (.cond rfl hg) .nil)))) rfl ?_
            refine ChainK.consS 89 (.guarded rfl rfl rfl fun hg => .fieldC rfl (.of rfl) T.fl27_1) rfl ?_
            refine ChainK.consS 90 (.guarded rfl rfl rfl fun hg => .load1 rfl (.cond rfl hg) T.sc2) rfl ?_
            refine ChainK.consS 91 (.guarded rfl rfl rfl fun hg => .move rfl (.of rfl)) rfl ?_
            refine ChainK.consS 92 (.guarded rfl rfl rfl fun hg => .leq rfl (.cond rfl hg) (.cond rfl hg)) rfl ?_
            refine ChainK.consS 93 (.guarded rfl rfl rfl fun hg => .move rfl (.cond rfl hg)) rfl ?_
            refine ChainK.consS 94 (.guarded2 rfl rfl rfl fun hp hg => .fieldC rfl (.of rfl) T.fl27_1) rfl ?_
            refine ChainK.consS 95 (.guarded2 rfl rfl rfl fun hp hg => .load1 rfl (.cond rfl ⟨hp, hg⟩) T.sc2) rfl ?_
            refine ChainK.consS 96 (.guarded2 rfl rfl rfl fun hp hg => .move rfl (.of rfl)) rfl ?_
            refine ChainK.consS 97 (.guarded2 rfl rfl rfl fun hp hg => .gtr rfl (.cond rfl ⟨hp, hg⟩) (.cond rfl ⟨hp, hg⟩)) rfl ?_
            refine ChainK.consS 98 (.guarded rfl rfl rfl fun hg => .and rfl (.cond rfl hg) (.cond rfl fun h => ⟨hg, h⟩)) rfl ?_
            refine ChainK.consS 99 (.guarded rfl rfl rfl fun hg => .neqB rfl (.cond rfl hg) (.cond rfl hg) Try.underlying4) rfl ?_
            refine ChainK.consS 100 (.plain rfl (.or rfl (.of rfl) (.cond rfl fun h => h))) rfl ?_
            refine ChainK.nil ?_
            refine Fin.keepG (Γ' := [(0, _), (2, _), (7, _), (9, _), (11, _), (14, _), (15, _), (16, _), (17, _), (50, _), (51, _), (52, _), (100, _)]) (.same rfl (.same rfl (.same rfl (.same rfl (.same rfl (.same rfl (.same rfl (.same rfl (.same rfl (.same rfl (.same rfl (.same rfl (.same rfl .nil))))))))))))) ?_
            refine Fin.next ?_
            refine Tr.cond rfl (fun hb5 => ?_) (fun hb5 => ?_)
            · exact absurd hb5 (by simp [hV, hr]; rw [Bool.eq_iff_iff]; simp)
            · try simp only [decide_eq_true_eq, decide_eq_false_iff_not, beq_iff_eq, beq_eq_false_iff_ne, bne_iff_ne, bne_eq_false_iff_eq, Bool.and_eq_true, Bool.and_eq_false_iff, Bool.or_eq_true, Bool.or_eq_false_iff, Bool.not_eq_true', Bool.not_eq_false', gt_iff_lt, ge_iff_le, Int.not_lt, Int.not_le, ne_eq, Int.natCast_nonneg, true_and, and_true, Decidable.not_not, not_true_eq_false, not_false_eq_true] at hb5
              refine Tr.skip ?_
              refine Fin.next ?_
              refine Tr.seq ?_
              refine Tr.region ?_
              refine TrL.stepS 101 (.plain rfl (.loadBN 11 (k := 2) (ds := [_, _]) rfl (.of rfl) rfl rfl rfl T.ag66 rfl)) rfl rfl ?_
              refine TrL.stepS 102 (.plain rfl (.move rfl (.of rfl))) rfl rfl ?_
              refine TrL.storeW 10 (vs := [_, _]) rfl rfl rfl (.of rfl) (.of rfl) rfl rfl T.sz66 rfl rfl ?_
              refine TrL.stepS 11 (.plain rfl (.assign rfl (.of rfl))) rfl rfl ?_
              refine TrL.nil ?_
              refine Fin.keepG (Γ' := [(0, _), (2, _), (7, _), (9, _), (11, _), (14, _), (15, _), (16, _), (17, _), (50, _), (51, _), (52, _), (100, _)]) (.same rfl (.same rfl (.same rfl (.same rfl (.same rfl (.same rfl (.same rfl (.same rfl (.same rfl (.same rfl (.same rfl (.same rfl (.same rfl .nil))))))))))))) ?_
              refine Fin.next ?_
              refine Tr.seq ?_
              refine Tr.regionK T.mixed (by kernel_rfl) (by kernel_rfl) ?_
              refine ChainK.consS 103 (.plain rfl (.loadBN 10 (k := 2) (ds := [_, _]) rfl (.of rfl) rfl rfl rfl T.ag66 rfl)) rfl ?_
              refine ChainK.consS 104 (.plain rfl (.call rfl (F41 ..) (.cons (.of rfl) .nil))) rfl ?_
              refine ChainK.consS 105 (.plain rfl (.not rfl (.of rfl))) rfl ?_
              refine ChainK.consS 106 (.plain rfl (.move rfl (.of rfl))) rfl ?_
              refine ChainK.consS 107 (.guarded rfl rfl rfl fun hg => .loadBN 10 (k := 2) (ds := [_, _]) rfl (.of rfl) rfl rfl rfl T.ag66 rfl) rfl ?_
              refine ChainK.consS 108 (.guarded rfl rfl rfl fun hg => .move rfl (.of rfl)) rfl ?_
              refine ChainK.consS 109 (.guarded rfl rfl rfl fun hg => .call rfl (F35 V l t hVb) (.cons (.cond rfl hg) (.cons (.cond rfl hg) .nil))) rfl ?_
              refine ChainK.consS 110 (.guarded rfl rfl rfl fun hg => .move rfl (.of rfl)) rfl ?_
              refine ChainK.consS 111 (.guarded rfl rfl rfl fun hg => .move rfl (.of rfl)) rfl ?_
              refine ChainK.consS 112 (.guarded rfl rfl rfl fun hg => .move rfl (.of rfl)) rfl ?_
              first | refine ChainK.consS 113 (.guarded rfl rfl rfl fun hg => .subI L.bd_i64 rfl (.cond rfl hg) (.cond rfl hg) (by first | first | omega | (simp [rightA] at hg; omega) | (simp at hg; first | omega | (simp [rightA] at hg; omega)) | (simp at hg hp; first | omega | (simp [rightA] at hg; omega))) (by first | first | omega | (simp [rightA] at hg; omega) | (simp at hg; first | omega | (simp [rightA] at hg; omega)) | (simp at hg hp; first | omega | (simp [rightA] at hg; omega)))) rfl ?_ | refine ChainK.consS 113 (.guarded rfl rfl rfl fun hg => .sub rfl (.cond rfl hg) (.cond rfl hg)) rfl ?_
              refine ChainK.consS 114 (.guarded rfl rfl rfl fun hg => .lss rfl (.cond rfl hg) (.cond rfl hg)) rfl ?_
              refine ChainK.consS 115 (.guarded rfl rfl rfl fun hg => .neqB rfl (.cond rfl hg) (.cond rfl hg) Try.underlying4) rfl ?_
              refine ChainK.consS 116 (.plain rfl (.or rfl (.of rfl) (.cond rfl fun h => h))) rfl ?_
              refine ChainK.consS 117 (.plain rfl (.move rfl (.of rfl))) rfl ?_
              refine ChainK.consS 118 (.guarded rfl rfl rfl fun hg => .loadBN 10 (k := 2) (ds := [_, _]) rfl (.of rfl) rfl rfl rfl T.ag66 rfl) rfl ?_
              refine ChainK.consS 119 (.guarded rfl rfl rfl fun hg => .load2 rfl (.of rfl) T.ag27) rfl ?_
              refine ChainK.consS 120 (.guarded rfl rfl rfl fun hg => .call rfl (F36 ..) (.cons (.cond rfl hg) (.cons (.cond rfl hg) .nil))) rfl ?_
              refine ChainK.consS 121 (.guarded rfl rfl rfl fun hg => .fieldC rfl (.of rfl) T.fl27_1) rfl ?_
              refine ChainK.consS 122 (.guarded rfl rfl rfl fun hg => .load1 rfl (.cond rfl hg) T.sc2) rfl ?_
              refine ChainK.consS 123 (.guarded rfl rfl rfl fun hg => .move rfl (.of rfl)) rfl ?_
              refine ChainK.consS 124 (.guarded rfl rfl rfl fun hg => .leq rfl (.cond rfl hg) (.cond rfl hg)) rfl ?_
              refine ChainK.consS 125 (.guarded rfl rfl rfl fun hg => .neqB rfl (.cond rfl hg) (.cond rfl hg) Try.underlying4) rfl ?_
              refine ChainK.consS 126 (.plain rfl (.or rfl (.of rfl) (.cond rfl fun h => h))) rfl ?_
              refine ChainK.consS 127 (.plain rfl (.move rfl (.of rfl))) rfl ?_
              refine ChainK.consS 128 (.guarded rfl rfl rfl fun hg => .loadBN 10 (k := 2) (ds := [_, _]) rfl (.of rfl) rfl rfl rfl T.ag66 rfl) rfl ?_
              refine ChainK.consS 129 (.guarded rfl rfl rfl fun hg => .load2 rfl (.of rfl) T.ag27) rfl ?_
              refine ChainK.consS 130 (.guarded rfl rfl rfl fun hg => .call rfl (F36 ..) (.cons (.cond rfl hg) (.cons (.cond rfl hg) .nil))) rfl ?_
              refine ChainK.consS 131 (.guarded rfl rfl rfl fun hg => .move rfl (.cond rfl hg)) rfl ?_
              refine ChainK.consS 132 (.guarded2 rfl rfl rfl fun hp hg => .loadBN 10 (k := 2) (ds := [_, _]) rfl (.of rfl) rfl rfl rfl T.ag66 rfl) rfl ?_
              refine ChainK.consS 133 (.guarded2 rfl rfl rfl fun hp hg => .loadBN 10 (k := 2) (ds := [_, _]) rfl (.of rfl) rfl rfl rfl T.ag66 rfl) rfl ?_
              refine ChainK.consS 134 (.guarded2 rfl rfl rfl fun hp hg => .load2 rfl (.of rfl) T.ag27) rfl ?_
              refine ChainK.consS 135 (.guarded2 rfl rfl rfl fun hp hg => .call rfl (F42 ..) (.cons (.cond rfl ⟨hp, hg⟩) (.cons (.cond rfl ⟨hp, hg⟩) (.cons (.cond rfl ⟨hp, hg⟩) .nil)))) rfl ?_
              refine ChainK.consS 136 (.guarded rfl rfl rfl fun hg => .and rfl (.cond rfl hg) (.cond rfl fun h => ⟨hg, h⟩)) rfl ?_
              refine ChainK.consS 137 (.plain rfl (.or rfl (.of rfl) (.cond rfl fun h => h))) rfl ?_
              refine ChainK.nil ?_
              refine Fin.keepG (Γ' := [(0, _), (2, _), (7, _), (9, _), (11, _), (14, _), (15, _), (16, _), (17, _), (50, _), (51, _), (52, _), (100, _), (137, _)]) (.same rfl (.same rfl (.same rfl (.same rfl (.same rfl (.same rfl (.same rfl (.same rfl (.same rfl (.same rfl (.same rfl (.same rfl (.same rfl (.same rfl .nil)))))))))))))) ?_
              refine Fin.next ?_
              refine Tr.cond rfl (fun hb6 => ?_) (fun hb6 => ?_)
              · exact absurd hb6 (by simp [hV])
              · try simp only [decide_eq_true_eq, decide_eq_false_iff_not, beq_iff_eq, beq_eq_false_iff_ne, bne_iff_ne, bne_eq_false_iff_eq, Bool.and_eq_true, Bool.and_eq_false_iff, Bool.or_eq_true, Bool.or_eq_false_iff, Bool.not_eq_true', Bool.not_eq_false', gt_iff_lt, ge_iff_le, Int.not_lt, Int.not_le, ne_eq, Int.natCast_nonneg, true_and, and_true, Decidable.not_not, not_true_eq_false, not_false_eq_true] at hb6
                refine Tr.skip ?_
                refine Fin.blockNormal ?_
                refine Fin.next ?_
                refine Tr.region ?_
                first | refine TrL.stepS 138 (.plain rfl (.addI L.bd_i64 rfl (.of rfl) (.of rfl) (by first | omega | (simp [rightA] at hg; omega)) (by first | omega | (simp [rightA] at hg; omega)))) rfl rfl ?_ | refine TrL.stepS 138 (.plain rfl (.add rfl (.of rfl) (.of rfl))) rfl rfl ?_
                refine TrL.stepS 52 (.plain rfl (.move rfl (.of rfl))) rfl rfl ?_
                refine TrL.nil ?_
                refine Fin.keepG (Γ' := [(0, _), (2, _), (7, _), (9, _), (11, _), (14, _), (15, _), (16, _), (17, _), (50, _), (51, _), (52, _), (100, _), (137, _)]) (.same rfl (.same rfl (.same rfl (.same rfl (.same rfl (.same rfl (.same rfl (.same rfl (.same rfl (.same rfl (.same rfl (.same rfl (.same rfl (.same rfl .nil)))))))))))))) ?_
                exact Fin.again ((i + 1, V)) (⟨by dsimp only; omega, hV⟩) (by dsimp only; omega) (.same rfl .nil) (.same rfl (.same rfl (.same rfl (.same rfl (.eq rfl (by rfl) (.same rfl (.same rfl (.eq rfl (by push_cast; rfl) .nil))))))))
        · try simp only [decide_eq_true_eq, decide_eq_false_iff_not, beq_iff_eq, beq_eq_false_iff_ne, bne_iff_ne, bne_eq_false_iff_eq, Bool.and_eq_true, Bool.and_eq_false_iff, Bool.or_eq_true, Bool.or_eq_false_iff, Bool.not_eq_true', Bool.not_eq_false', gt_iff_lt, ge_iff_le, Int.not_lt, Int.not_le, ne_eq, Int.natCast_nonneg, true_and, and_true, Decidable.not_not, not_true_eq_false, not_false_eq_true] at hb2
          refine Tr.exit ?_
          refine Fin.thenExit ?_
          refine Fin.thenExit ?_
          refine Fin.blockOut ?_
          refine Fin.next ?_
          refine Tr.seq ?_
          refine Tr.region ?_
          refine TrL.stepS 8 (.plain rfl (.assign rfl (.of rfl))) rfl rfl ?_
          refine TrL.nil ?_
          refine Fin.next ?_
          refine Tr.ret ?_
          refine Fin.retI (rs := [_]) (Rs' := [is (.bool true)]) rfl (.cons (.tmp rfl) .nil) ?_
          exact (.cons (L.iv rfl) .nil)

/- tidepool/tidepooltop.known34c$1 -/
set_option maxRecDepth 100000 in
theorem F28 (xs ys : List (Int × Int)) (hx0 : xs.length ≤ 1048576) (hy0 : ys.length ≤ 1048576) : FnP Try.prog 28 [Lst spanR xs, Lst spanR ys] (is (.bool (decide (xs = ys)))) := by
  refine FnP.mk' Try.func28 T.nm28 rfl (N := 26) rfl rfl fun B hB hκ => ?_
  refine Tr.seq ?_
  refine Tr.region ?_
  refine TrL.stepS 4 (.plain rfl (.assign rfl (.of rfl))) rfl rfl ?_
  refine TrL.nil ?_
  refine Fin.next ?_
  refine Tr.seq ?_
  refine Tr.seq ?_
  refine Tr.region ?_
  refine TrL.stepS 6 (.plain rfl (.move rfl (.of rfl))) rfl rfl ?_
  refine TrL.stepS 7 (.plain rfl (.len rfl (.of rfl) Try.underlying60)) rfl rfl ?_
  refine TrL.stepS 8 (.plain rfl (.move rfl (.of rfl))) rfl rfl ?_
  refine TrL.stepS 9 (.plain rfl (.len rfl (.of rfl) Try.underlying60)) rfl rfl ?_
  refine TrL.stepS 10 (.plain rfl (.neq rfl (.of rfl) (.of rfl))) rfl rfl ?_
  refine TrL.nil ?_
  refine Fin.keepG (Γ' := [(0, _), (1, _), (4, _), (10, _)]) (.same rfl (.same rfl (.same rfl (.same rfl .nil)))) ?_
  refine Fin.next ?_
  refine Tr.cond rfl (fun hb0 => ?_) (fun hb0 => ?_)
  · try simp only [decide_eq_true_eq, decide_eq_false_iff_not, beq_iff_eq, beq_eq_false_iff_ne, bne_iff_ne, bne_eq_false_iff_eq, Bool.and_eq_true, Bool.and_eq_false_iff, Bool.or_eq_true, Bool.or_eq_false_iff, Bool.not_eq_true', Bool.not_eq_false', gt_iff_lt, ge_iff_le, Int.not_lt, Int.not_le, ne_eq, Int.natCast_nonneg, true_and, and_true, Decidable.not_not, not_true_eq_false, not_false_eq_true] at hb0
    refine Tr.seq ?_
    refine Tr.region ?_
    refine TrL.stepS 4 (.plain rfl (.assign rfl (.of rfl))) rfl rfl ?_
    refine TrL.nil ?_
    refine Fin.next ?_
    refine Tr.ret ?_
    refine Fin.thenRet ?_
    refine Fin.retI (rs := [_]) (Rs' := [is (.bool (decide (xs = ys)))]) rfl (.cons (.tmp rfl) .nil) ?_
    refine (.cons (L.iv ?_) .nil)
    · congr 1; symm; exact decide_eq_false (fun h => by rw [h] at hb0; exact hb0 rfl)
  · try simp only [decide_eq_true_eq, decide_eq_false_iff_not, beq_iff_eq, beq_eq_false_iff_ne, bne_iff_ne, bne_eq_false_iff_eq, Bool.and_eq_true, Bool.and_eq_false_iff, Bool.or_eq_true, Bool.or_eq_false_iff, Bool.not_eq_true', Bool.not_eq_false', gt_iff_lt, ge_iff_le, Int.not_lt, Int.not_le, ne_eq, Int.natCast_nonneg, true_and, and_true, Decidable.not_not, not_true_eq_false, not_false_eq_true] at hb0
    have hle : xs.length = ys.length := by omega
    refine Tr.skip ?_
    refine Fin.next ?_
    refine Tr.seq ?_
    refine Tr.seq ?_
    refine Tr.region ?_
    refine TrL.stepS 11 (.plain rfl (.move rfl (.of rfl))) rfl rfl ?_
    refine TrL.stepS 12 (.plain rfl (.len rfl (.of rfl) Try.underlying60)) rfl rfl ?_
    refine TrL.stepS 13 (.plain rfl (.move rfl (.of rfl))) rfl rfl ?_
    refine TrL.nil ?_
    refine Fin.keepG (Γ' := [(0, _), (1, _), (4, _), (10, _), (12, _), (13, _)]) (.same rfl (.same rfl (.same rfl (.same rfl (.same rfl (.same rfl .nil)))))) ?_
    refine Fin.next ?_
    refine Tr.block ?_
    refine Tr.loop (γ := Nat) (fun i => i ≤ xs.length ∧ xs.take i = ys.take i) (fun _ => []) (fun i => [(0, Lst spanR xs), (1, Lst spanR ys), (12, is (.int .i64 xs.length)), (13, is (.int .i64 i))]) (fun i => xs.length - i) (0) ?h0_0 ?hM_0 ?hG_0 ?hl_0
    case h0_0 => exact ⟨Nat.zero_le _, rfl⟩
    case hM_0 => exact .nil
    case hG_0 => exact (.same rfl (.same rfl (.same rfl (.eq rfl (by rfl) .nil))))
    case hl_0 =>
      intro i hI
      obtain ⟨hi, hI⟩ := hI
      refine Tr.seq ?_
      refine Tr.region ?_
      refine TrL.stepS 14 (.plain rfl (.lss rfl (.of rfl) (.of rfl))) rfl rfl ?_
      refine TrL.nil ?_
      refine Fin.next ?_
      refine Tr.seq ?_
      refine Tr.cond rfl (fun hb1 => ?_) (fun hb1 => ?_)
      · try simp only [decide_eq_true_eq, decide_eq_false_iff_not, beq_iff_eq, beq_eq_false_iff_ne, bne_iff_ne, bne_eq_false_iff_eq, Bool.and_eq_true, Bool.and_eq_false_iff, Bool.or_eq_true, Bool.or_eq_false_iff, Bool.not_eq_true', Bool.not_eq_false', gt_iff_lt, ge_iff_le, Int.not_lt, Int.not_le, ne_eq, Int.natCast_nonneg, true_and, and_true, Decidable.not_not, not_true_eq_false, not_false_eq_true] at hb1
        obtain ⟨x, hx⟩ := ex_get (xs := xs) (i := i) (by omega)
        obtain ⟨y, hy⟩ := ex_get (xs := ys) (i := i) (by omega)
        refine Tr.skip ?_
        refine Fin.next ?_
        refine Tr.seq ?_
        refine Tr.block ?_
        refine Tr.seq ?_
        refine Tr.region ?_
        refine TrL.stepS 15 (.plain rfl (.move rfl (.of rfl))) rfl rfl ?_
        refine TrL.stepS 5 (.plain rfl (.assign rfl (.of rfl))) rfl rfl ?_
        refine TrL.nil ?_
        refine Fin.keepG (Γ' := [(0, _), (1, _), (5, _), (12, _), (13, _), (14, _)]) (.same rfl (.same rfl (.same rfl (.same rfl (.same rfl (.same rfl .nil)))))) ?_
        refine Fin.next ?_
        refine Tr.seq ?_
        refine Tr.regionK T.mixed (by kernel_rfl) (by kernel_rfl) ?_
        refine ChainK.consS 16 (.plain rfl (.move rfl (.of rfl))) rfl ?_
        refine ChainK.consS 17 (.plain rfl (.move rfl (.of rfl))) rfl ?_
        refine ChainK.consS 18 (.plain rfl (.indexE rfl (.of rfl) (.of rfl) Try.underlying60 T.sz27 (by omega) hx)) rfl ?_
        refine ChainK.consS 19 (.plain rfl (.load2 rfl (.of rfl) T.ag27)) rfl ?_
        refine ChainK.consS 20 (.plain rfl (.move rfl (.of rfl))) rfl ?_
        refine ChainK.consS 21 (.plain rfl (.move rfl (.of rfl))) rfl ?_
        refine ChainK.consS 22 (.plain rfl (.indexE rfl (.of rfl) (.of rfl) Try.underlying60 T.sz27 (by omega) hy)) rfl ?_
        refine ChainK.consS 23 (.plain rfl (.load2 rfl (.of rfl) T.ag27)) rfl ?_
        refine ChainK.consS 24 (.plain rfl (.neqS rfl (.of rfl) (.of rfl) (by kernel_rfl) (T.eq27 _ _ _ _))) rfl ?_
        refine ChainK.nil ?_
        refine Fin.keepG (Γ' := [(0, _), (1, _), (5, _), (12, _), (13, _), (14, _), (24, _)]) (.same rfl (.same rfl (.same rfl (.same rfl (.same rfl (.same rfl (.same rfl .nil))))))) ?_
        refine Fin.next ?_
        refine Tr.cond rfl (fun hb2 => ?_) (fun hb2 => ?_)
        · try simp only [decide_eq_true_eq, decide_eq_false_iff_not, beq_iff_eq, beq_eq_false_iff_ne, bne_iff_ne, bne_eq_false_iff_eq, Bool.and_eq_true, Bool.and_eq_false_iff, Bool.or_eq_true, Bool.or_eq_false_iff, Bool.not_eq_true', Bool.not_eq_false', gt_iff_lt, ge_iff_le, Int.not_lt, Int.not_le, ne_eq, Int.natCast_nonneg, true_and, and_true, Decidable.not_not, not_true_eq_false, not_false_eq_true] at hb2
          refine Tr.seq ?_
          refine Tr.region ?_
          refine TrL.stepS 4 (.plain rfl (.assign rfl (.of rfl))) rfl rfl ?_
          refine TrL.nil ?_
          refine Fin.next ?_
          refine Tr.ret ?_
          refine Fin.blockRet ?_
          refine Fin.thenRet ?_
          refine Fin.thenRet ?_
          refine Fin.blockRet ?_
          refine Fin.thenRet ?_
          refine Fin.retI (rs := [_]) (Rs' := [is (.bool (decide (xs = ys)))]) rfl (.cons (.tmp rfl) .nil) ?_
          refine (.cons (L.iv ?_) .nil)
          · congr 1; symm; exact decide_eq_false (fun h => by subst h; rw [hx] at hy; cases hy; simp at hb2)
        · try simp only [decide_eq_true_eq, decide_eq_false_iff_not, beq_iff_eq, beq_eq_false_iff_ne, bne_iff_ne, bne_eq_false_iff_eq, Bool.and_eq_true, Bool.and_eq_false_iff, Bool.or_eq_true, Bool.or_eq_false_iff, Bool.not_eq_true', Bool.not_eq_false', gt_iff_lt, ge_iff_le, Int.not_lt, Int.not_le, ne_eq, Int.natCast_nonneg, true_and, and_true, Decidable.not_not, not_true_eq_false, not_false_eq_true] at hb2
          refine Tr.skip ?_
          refine Fin.blockNormal ?_
          refine Fin.next ?_
          refine Tr.region ?_
          first | refine TrL.stepS 25 (.plain rfl (.addI L.bd_i64 rfl (.of rfl) (.of rfl) (by omega) (by omega))) rfl rfl ?_ | refine TrL.stepS 25 (.plain rfl (.add rfl (.of rfl) (.of rfl))) rfl rfl ?_
          refine TrL.stepS 13 (.plain rfl (.move rfl (.of rfl))) rfl rfl ?_
          refine TrL.nil ?_
          refine Fin.keepG (Γ' := [(0, _), (1, _), (5, _), (12, _), (13, _), (14, _), (24, _)]) (.same rfl (.same rfl (.same rfl (.same rfl (.same rfl (.same rfl (.same rfl .nil))))))) ?_
          exact Fin.again (i + 1) (⟨by omega, by rw [take_snoc hx, take_snoc hy, hI]; congr 2; exact Prod.ext hb2.1 hb2.2⟩) (by omega) (.nil) (.same rfl (.same rfl (.same rfl (.eq rfl (by push_cast; rfl) .nil))))
      · try simp only [decide_eq_true_eq, decide_eq_false_iff_not, beq_iff_eq, beq_eq_false_iff_ne, bne_iff_ne, bne_eq_false_iff_eq, Bool.and_eq_true, Bool.and_eq_false_iff, Bool.or_eq_true, Bool.or_eq_false_iff, Bool.not_eq_true', Bool.not_eq_false', gt_iff_lt, ge_iff_le, Int.not_lt, Int.not_le, ne_eq, Int.natCast_nonneg, true_and, and_true, Decidable.not_not, not_true_eq_false, not_false_eq_true] at hb1
        refine Tr.exit ?_
        refine Fin.thenExit ?_
        refine Fin.thenExit ?_
        refine Fin.blockOut ?_
        refine Fin.next ?_
        refine Tr.seq ?_
        refine Tr.region ?_
        refine TrL.stepS 4 (.plain rfl (.assign rfl (.of rfl))) rfl rfl ?_
        refine TrL.nil ?_
        refine Fin.next ?_
        refine Tr.ret ?_
        refine Fin.retI (rs := [_]) (Rs' := [is (.bool (decide (xs = ys)))]) rfl (.cons (.tmp rfl) .nil) ?_
        refine (.cons (L.iv ?_) .nil)
        · congr 1; symm; exact decide_eq_true (by rwa [List.take_of_length_le (by omega), List.take_of_length_le (by omega)] at hI)

end Go.Proofs.Ytemkogoclljhpaa