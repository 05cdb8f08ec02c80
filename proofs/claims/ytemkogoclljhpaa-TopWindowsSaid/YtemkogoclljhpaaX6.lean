import Derived.Test.YtemkogoclljhpaaX5
namespace Go.Proofs.Ytemkogoclljhpaa
open Go Go.Proofs.Ytemkogoclljhpaa.L
set_option linter.unusedVariables false
set_option linter.unusedSimpArgs false

namespace T
theorem bd27  : Try.prog.built 27 [] = some #[.int .i64 0, .int .i64 0] := by kernel_rfl
end T


/- tidepool/tidepooltop.known34c -/
set_option maxRecDepth 100000 in
theorem F9  : FnP Try.prog 9 [] (is (.bool true)) := by
  refine FnP.mk' Try.func9 T.nm9 rfl (N := 166) rfl rfl fun B hB hκ => ?_
  refine Tr.seq ?_
  refine Tr.region ?_
  refine TrL.stepS 0 (.plain rfl (.assign rfl (.of rfl))) rfl rfl ?_
  refine TrL.nil ?_
  refine Fin.next ?_
  refine Tr.seq ?_
  refine Tr.region ?_
  refine TrL.stepS 1 (.plain rfl (.assign rfl (.of rfl))) rfl rfl ?_
  refine TrL.nil ?_
  refine Fin.next ?_
  refine Tr.seq ?_
  refine Tr.region ?_
  refine TrL.stepS 15 (.plain rfl (.call rfl (F29 ..) (.cons (.of rfl) .nil))) rfl rfl ?_
  refine TrL.stepS 16 (.plain rfl (.call rfl (F30 ..) (.cons (.of rfl) (.cons (.of rfl) .nil)))) rfl rfl ?_
  refine TrL.allocS 10 (zs := [.int .u8 0, .int .i64 0, .int .i64 0, .int .i64 0]) rfl rfl (by kernel_rfl) 2 rfl rfl rfl fun b10 => ?_
  refine TrL.allocS 11 (zs := [.int .u8 0, .int .i64 0, .int .i64 0, .int .i64 0]) rfl rfl (by kernel_rfl) 3 rfl rfl rfl fun b11 => ?_
  refine TrL.storeW 10 (vs := [_, _, _, _]) rfl rfl rfl (.of rfl) (.of rfl) rfl rfl T.sz30 rfl rfl ?_
  refine TrL.storeW 11 (vs := [_, _, _, _]) rfl rfl rfl (.of rfl) (.of rfl) rfl rfl T.sz30 rfl rfl ?_
  refine TrL.nil ?_
  refine Fin.keepG (Γ' := [(0, _), (1, _), (2, _), (3, _)]) (.same rfl (.same rfl (.same rfl (.same rfl .nil)))) ?_
  refine Fin.next ?_
  refine Tr.seq ?_
  refine Tr.seq ?_
  refine Tr.region ?_
  refine TrL.stepS 17 (.plain rfl (.move rfl (.of rfl))) rfl rfl ?_
  refine TrL.stepS 18 (.plain rfl (.loadBN 10 (k := 4) (ds := [_, _, _, _]) rfl (.of rfl) rfl rfl rfl T.ag30 rfl)) rfl rfl ?_
  refine TrL.stepS 19 (.plain rfl (.call rfl (F31 ..) (.cons (.of rfl) (.cons (.of rfl) .nil)))) rfl rfl ?_
  refine TrL.stepS 20 (.plain rfl (.build rfl (.cons (.of rfl) (.cons (.of rfl) .nil)) (T.bd27_0_1 _ _))) rfl rfl ?_
  refine TrL.stepS 21 (.plain rfl (.slice (K := spanR) (xs := [_]) rfl (.cons (.map (.of rfl) (spanR_elem _ _)) .nil) Try.underlying60 T.sz27 T.zb27 rfl (by decide))) rfl rfl ?_
  refine TrL.stepS 22 (.plain rfl (.callV (first := []) (caps := []) rfl (.of rfl) (F28 _ _ (by decide) (by decide)) (.cons (.of rfl) (.cons (.of rfl) .nil)))) rfl rfl ?_
  refine TrL.stepS 23 (.plain rfl (.not rfl (.of rfl))) rfl rfl ?_
  refine TrL.stepS 24 (.plain rfl (.move rfl (.of rfl))) rfl rfl ?_
  refine TrL.stepS 25 (.guarded rfl rfl rfl fun hg => .move rfl (.of rfl)) rfl rfl ?_
  refine TrL.stepS 26 (.guarded rfl rfl rfl fun hg => .loadBN 10 (k := 4) (ds := [_, _, _, _]) rfl (.of rfl) rfl rfl rfl T.ag30 rfl) rfl rfl ?_
  refine TrL.stepS 27 (.guarded rfl rfl rfl fun hg => .call rfl (F31 ..) (.cons (.cond rfl hg) (.cons (.of rfl) .nil))) rfl rfl ?_
  refine TrL.stepS 28 (.guarded rfl rfl rfl fun hg => .build rfl (.cons (.of rfl) (.cons (.of rfl) .nil)) (T.bd27_0_1 _ _)) rfl rfl ?_
  refine TrL.stepS 29 (.guarded rfl rfl rfl fun hg => .slice (K := spanR) (xs := [_]) rfl (.cons (.map (.cond rfl hg) (spanR_elem _ _)) .nil) Try.underlying60 T.sz27 T.zb27 rfl (by decide)) rfl rfl ?_
  refine TrL.stepS 30 (.guarded rfl rfl rfl fun hg => .callV (first := []) (caps := []) rfl (.cond rfl hg) (F28 _ _ (by decide) (by decide)) (.cons (.cond rfl hg) (.cons (.cond rfl hg) .nil))) rfl rfl ?_
  refine TrL.stepS 31 (.guarded rfl rfl rfl fun hg => .not rfl (.cond rfl hg)) rfl rfl ?_
  refine TrL.stepS 32 (.plain rfl (.or rfl (.of rfl) (.cond rfl fun h => h))) rfl rfl ?_
  refine TrL.stepS 33 (.plain rfl (.move rfl (.of rfl))) rfl rfl ?_
  refine TrL.stepS 34 (.guarded rfl rfl rfl fun hg => .move rfl (.of rfl)) rfl rfl ?_
  refine TrL.stepS 35 (.guarded rfl rfl rfl fun hg => .loadBN 10 (k := 4) (ds := [_, _, _, _]) rfl (.of rfl) rfl rfl rfl T.ag30 rfl) rfl rfl ?_
  refine TrL.stepS 36 (.guarded rfl rfl rfl fun hg => .call rfl (F31 ..) (.cons (.cond rfl hg) (.cons (.of rfl) .nil))) rfl rfl ?_
  refine TrL.stepS 37 (.guarded rfl rfl rfl fun hg => .build rfl (.cons (.of rfl) (.cons (.of rfl) .nil)) (T.bd27_0_1 _ _)) rfl rfl ?_
  refine TrL.stepS 38 (.guarded rfl rfl rfl fun hg => .slice (K := spanR) (xs := [_]) rfl (.cons (.map (.cond rfl hg) (spanR_elem _ _)) .nil) Try.underlying60 T.sz27 T.zb27 rfl (by decide)) rfl rfl ?_
  refine TrL.stepS 39 (.guarded rfl rfl rfl fun hg => .callV (first := []) (caps := []) rfl (.cond rfl hg) (F28 _ _ (by decide) (by decide)) (.cons (.cond rfl hg) (.cons (.cond rfl hg) .nil))) rfl rfl ?_
  refine TrL.stepS 40 (.guarded rfl rfl rfl fun hg => .not rfl (.cond rfl hg)) rfl rfl ?_
  refine TrL.stepS 41 (.plain rfl (.or rfl (.of rfl) (.cond rfl fun h => h))) rfl rfl ?_
  refine TrL.stepS 42 (.plain rfl (.move rfl (.of rfl))) rfl rfl ?_
  refine TrL.stepS 43 (.guarded rfl rfl rfl fun hg => .move rfl (.of rfl)) rfl rfl ?_
  refine TrL.stepS 44 (.guarded rfl rfl rfl fun hg => .loadBN 11 (k := 4) (ds := [_, _, _, _]) rfl (.of rfl) rfl rfl rfl T.ag30 rfl) rfl rfl ?_
  refine TrL.stepS 45 (.guarded rfl rfl rfl fun hg => .call rfl (F31 ..) (.cons (.cond rfl hg) (.cons (.of rfl) .nil))) rfl rfl ?_
  refine TrL.stepS 46 (.guarded rfl rfl rfl fun hg => .build rfl (.cons (.of rfl) (.cons (.of rfl) .nil)) (T.bd27_0_1 _ _)) rfl rfl ?_
  refine TrL.stepS 47 (.guarded rfl rfl rfl fun hg => .build rfl (.cons (.of rfl) (.cons (.of rfl) .nil)) (T.bd27_0_1 _ _)) rfl rfl ?_
  refine TrL.stepS 48 (.guarded rfl rfl rfl fun hg => .slice (K := spanR) (xs := [_, _]) rfl (.cons (.map (.cond rfl hg) (spanR_elem _ _)) (.cons (.map (.cond rfl hg) (spanR_elem _ _)) .nil)) Try.underlying60 T.sz27 T.zb27 rfl (by decide)) rfl rfl ?_
  refine TrL.stepS 49 (.guarded rfl rfl rfl fun hg => .callV (first := []) (caps := []) rfl (.cond rfl hg) (F28 _ _ (by decide) (by decide)) (.cons (.cond rfl hg) (.cons (.cond rfl hg) .nil))) rfl rfl ?_
  refine TrL.stepS 50 (.guarded rfl rfl rfl fun hg => .not rfl (.cond rfl hg)) rfl rfl ?_
  refine TrL.stepS 51 (.plain rfl (.or rfl (.of rfl) (.cond rfl fun h => h))) rfl rfl ?_
  refine TrL.stepS 52 (.plain rfl (.move rfl (.of rfl))) rfl rfl ?_
  refine TrL.stepS 53 (.guarded rfl rfl rfl fun hg => .move rfl (.of rfl)) rfl rfl ?_
  refine TrL.stepS 54 (.guarded rfl rfl rfl fun hg => .call rfl (F32 ..) (.cons (.of rfl) .nil)) rfl rfl ?_
  refine TrL.stepS 55 (.guarded rfl rfl rfl fun hg => .call rfl (F31 ..) (.cons (.cond rfl hg) (.cons (.of rfl) .nil))) rfl rfl ?_
  refine TrL.stepS 56 (.guarded rfl rfl rfl fun hg => .build rfl (.cons (.of rfl) (.cons (.of rfl) .nil)) (T.bd27_0_1 _ _)) rfl rfl ?_
  refine TrL.stepS 57 (.guarded rfl rfl rfl fun hg => .slice (K := spanR) (xs := [_]) rfl (.cons (.map (.cond rfl hg) (spanR_elem _ _)) .nil) Try.underlying60 T.sz27 T.zb27 rfl (by decide)) rfl rfl ?_
  refine TrL.stepS 58 (.guarded rfl rfl rfl fun hg => .callV (first := []) (caps := []) rfl (.cond rfl hg) (F28 _ _ (by decide) (by decide)) (.cons (.cond rfl hg) (.cons (.cond rfl hg) .nil))) rfl rfl ?_
  refine TrL.stepS 59 (.guarded rfl rfl rfl fun hg => .not rfl (.cond rfl hg)) rfl rfl ?_
  refine TrL.stepS 60 (.plain rfl (.or rfl (.of rfl) (.cond rfl fun h => h))) rfl rfl ?_
  refine TrL.nil ?_
  refine Fin.keepG (Γ' := [(0, _), (1, _), (2, _), (3, _), (60, _)]) (.same rfl (.same rfl (.same rfl (.same rfl (.same rfl .nil))))) ?_
  refine Fin.next ?_
  refine Tr.cond rfl (fun hb0 => ?_) (fun hb0 => ?_)
  · exact absurd hb0 (by decide)
  · try simp only [decide_eq_true_eq, decide_eq_false_iff_not, beq_iff_eq, beq_eq_false_iff_ne, bne_iff_ne, bne_eq_false_iff_eq, Bool.and_eq_true, Bool.and_eq_false_iff, Bool.or_eq_true, Bool.or_eq_false_iff, Bool.not_eq_true', Bool.not_eq_false', gt_iff_lt, ge_iff_le, Int.not_lt, Int.not_le, ne_eq, Int.natCast_nonneg, true_and, and_true, Decidable.not_not, not_true_eq_false, not_false_eq_true] at hb0
    refine Tr.skip ?_
    refine Fin.next ?_
    refine Tr.seq ?_
    refine Tr.seq ?_
    refine Tr.region ?_
    refine TrL.stepS 61 (.plain rfl (.build rfl (.cons (.of rfl) (.cons (.of rfl) .nil)) (T.bd27_0_1 _ _))) rfl rfl ?_
    refine TrL.stepS 62 (.plain rfl (.build rfl (.cons (.of rfl) (.cons (.of rfl) .nil)) (T.bd27_0_1 _ _))) rfl rfl ?_
    refine TrL.stepS 63 (.plain rfl (.slice (K := spanR) (xs := [_, _]) rfl (.cons (.map (.of rfl) (spanR_elem _ _)) (.cons (.map (.of rfl) (spanR_elem _ _)) .nil)) Try.underlying60 T.sz27 T.zb27 rfl (by decide))) rfl rfl ?_
    refine TrL.stepS 64 (.plain rfl (.call rfl (F10 _ (by decide)) (.cons (.of rfl) .nil))) rfl rfl ?_
    refine TrL.stepS 65 (.plain rfl (.build rfl (.cons (.of rfl) (.cons (.of rfl) .nil)) (T.bd27_0_1 _ _))) rfl rfl ?_
    refine TrL.stepS 66 (.plain rfl (.neqS rfl (.of rfl) (.of rfl) (by kernel_rfl) (T.eq27 _ _ _ _))) rfl rfl ?_
    refine TrL.stepS 67 (.plain rfl (.move rfl (.of rfl))) rfl rfl ?_
    refine TrL.stepS 68 (.guarded rfl rfl rfl fun hg => .call rfl (F10 _ (by decide)) (.cons ((L.Has.of rfl).map fun _ _ h => lst_nil h) .nil)) rfl rfl ?_
    refine TrL.stepS 69 (.guarded rfl rfl rfl fun hg => .build rfl .nil (T.bd27)) rfl rfl ?_
    refine TrL.stepS 70 (.guarded rfl rfl rfl fun hg => .neqS rfl (.cond rfl hg) (.cond rfl hg) (by kernel_rfl) (T.eq27 _ _ _ _)) rfl rfl ?_
    refine TrL.stepS 71 (.plain rfl (.or rfl (.of rfl) (.cond rfl fun h => h))) rfl rfl ?_
    refine TrL.nil ?_
    refine Fin.keepG (Γ' := [(0, _), (1, _), (2, _), (3, _), (60, _), (71, _)]) (.same rfl (.same rfl (.same rfl (.same rfl (.same rfl (.same rfl .nil)))))) ?_
    refine Fin.next ?_
    refine Tr.cond rfl (fun hb1 => ?_) (fun hb1 => ?_)
    · exact absurd hb1 (by decide)
    · try simp only [decide_eq_true_eq, decide_eq_false_iff_not, beq_iff_eq, beq_eq_false_iff_ne, bne_iff_ne, bne_eq_false_iff_eq, Bool.and_eq_true, Bool.and_eq_false_iff, Bool.or_eq_true, Bool.or_eq_false_iff, Bool.not_eq_true', Bool.not_eq_false', gt_iff_lt, ge_iff_le, Int.not_lt, Int.not_le, ne_eq, Int.natCast_nonneg, true_and, and_true, Decidable.not_not, not_true_eq_false, not_false_eq_true] at hb1
      refine Tr.skip ?_
      refine Fin.next ?_
      refine Tr.seq ?_
      refine Tr.region ?_
      refine TrL.stepS 73 (.plain rfl (.call rfl (F33 ..) (.cons (.of rfl) .nil))) rfl rfl ?_
      refine TrL.stepS 72 (.plain rfl (.move rfl (.of rfl))) rfl rfl ?_
      refine TrL.stepS 74 (.plain rfl (.extract rfl (.of rfl) rfl)) rfl rfl ?_
      refine TrL.stepS 75 (.plain rfl (.extract rfl (.of rfl) rfl)) rfl rfl ?_
      refine TrL.allocS 12 (zs := [.int .i64 0, .int .i64 0]) rfl rfl (by kernel_rfl) 4 rfl rfl rfl fun b12 => ?_
      refine TrL.storeW 12 (vs := [_, _]) rfl rfl rfl (.of rfl) (.of rfl) rfl rfl T.sz66 rfl rfl ?_
      refine TrL.stepS 5 (.plain rfl (.assign rfl (.of rfl))) rfl rfl ?_
      refine TrL.nil ?_
      refine Fin.keepG (Γ' := [(0, _), (1, _), (2, _), (3, _), (4, _), (5, _), (60, _), (71, _)]) (.same rfl (.same rfl (.same rfl (.same rfl (.same rfl (.same rfl (.same rfl (.same rfl .nil)))))))) ?_
      refine Fin.next ?_
      refine Tr.seq ?_
      refine Tr.region ?_
      refine TrL.stepS 77 (.plain rfl (.loadBN 12 (k := 2) (ds := [_, _]) rfl (.of rfl) rfl rfl rfl T.ag66 rfl)) rfl rfl ?_
      refine TrL.stepS 78 (.plain rfl (.call rfl (F34 ..) (.cons (.of rfl) (.cons (.of rfl) .nil)))) rfl rfl ?_
      refine TrL.stepS 76 (.plain rfl (.move rfl (.of rfl))) rfl rfl ?_
      refine TrL.stepS 79 (.plain rfl (.extract rfl (.of rfl) rfl)) rfl rfl ?_
      refine TrL.stepS 80 (.plain rfl (.extract rfl (.of rfl) rfl)) rfl rfl ?_
      refine TrL.allocS 13 (zs := [.int .i64 0, .int .i64 0]) rfl rfl (by kernel_rfl) 6 rfl rfl rfl fun b13 => ?_
      refine TrL.storeW 13 (vs := [_, _]) rfl rfl rfl (.of rfl) (.of rfl) rfl rfl T.sz66 rfl rfl ?_
      refine TrL.stepS 7 (.plain rfl (.assign rfl (.of rfl))) rfl rfl ?_
      refine TrL.nil ?_
      refine Fin.keepG (Γ' := [(0, _), (1, _), (2, _), (3, _), (4, _), (5, _), (6, _), (7, _), (60, _), (71, _)]) (.same rfl (.same rfl (.same rfl (.same rfl (.same rfl (.same rfl (.same rfl (.same rfl (.same rfl (.same rfl .nil)))))))))) ?_
      refine Fin.next ?_
      refine Tr.seq ?_
      refine Tr.region ?_
      refine TrL.stepS 82 (.plain rfl (.loadBN 13 (k := 2) (ds := [_, _]) rfl (.of rfl) rfl rfl rfl T.ag66 rfl)) rfl rfl ?_
      refine TrL.stepS 83 (.plain rfl (.call rfl (F34 ..) (.cons (.of rfl) (.cons (.of rfl) .nil)))) rfl rfl ?_
      refine TrL.stepS 81 (.plain rfl (.move rfl (.of rfl))) rfl rfl ?_
      refine TrL.stepS 84 (.plain rfl (.extract rfl (.of rfl) rfl)) rfl rfl ?_
      refine TrL.stepS 85 (.plain rfl (.extract rfl (.of rfl) rfl)) rfl rfl ?_
      refine TrL.allocS 14 (zs := [.int .i64 0, .int .i64 0]) rfl rfl (by kernel_rfl) 8 rfl rfl rfl fun b14 => ?_
      refine TrL.storeW 14 (vs := [_, _]) rfl rfl rfl (.of rfl) (.of rfl) rfl rfl T.sz66 rfl rfl ?_
      refine TrL.stepS 9 (.plain rfl (.assign rfl (.of rfl))) rfl rfl ?_
      refine TrL.nil ?_
      refine Fin.keepG (Γ' := [(0, _), (1, _), (2, _), (3, _), (4, _), (5, _), (6, _), (7, _), (8, _), (9, _), (60, _), (71, _)]) (.same rfl (.same rfl (.same rfl (.same rfl (.same rfl (.same rfl (.same rfl (.same rfl (.same rfl (.same rfl (.same rfl (.same rfl .nil)))))))))))) ?_
      refine Fin.next ?_
      refine Tr.seq ?_
      refine Tr.region ?_
      refine TrL.stepS 87 (.plain rfl (.loadBN 14 (k := 2) (ds := [_, _]) rfl (.of rfl) rfl rfl rfl T.ag66 rfl)) rfl rfl ?_
      refine TrL.stepS 88 (.plain rfl (.call rfl (F34 ..) (.cons (.of rfl) (.cons (.of rfl) .nil)))) rfl rfl ?_
      refine TrL.stepS 86 (.plain rfl (.move rfl (.of rfl))) rfl rfl ?_
      refine TrL.stepS 89 (.plain rfl (.extract rfl (.of rfl) rfl)) rfl rfl ?_
      refine TrL.stepS 90 (.plain rfl (.extract rfl (.of rfl) rfl)) rfl rfl ?_
      refine TrL.allocS 15 (zs := [.int .i64 0, .int .i64 0]) rfl rfl (by kernel_rfl) 10 rfl rfl rfl fun b15 => ?_
      refine TrL.storeW 15 (vs := [_, _]) rfl rfl rfl (.of rfl) (.of rfl) rfl rfl T.sz66 rfl rfl ?_
      refine TrL.stepS 11 (.plain rfl (.assign rfl (.of rfl))) rfl rfl ?_
      refine TrL.nil ?_
      refine Fin.keepG (Γ' := [(0, _), (1, _), (2, _), (3, _), (4, _), (5, _), (6, _), (7, _), (8, _), (9, _), (11, _), (60, _), (71, _)]) (.same rfl (.same rfl (.same rfl (.same rfl (.same rfl (.same rfl (.same rfl (.same rfl (.same rfl (.same rfl (.same rfl (.same rfl (.same rfl .nil))))))))))))) ?_
      refine Fin.next ?_
      refine Tr.seq ?_
      refine Tr.region ?_
      refine TrL.stepS 92 (.plain rfl (.loadBN 14 (k := 2) (ds := [_, _]) rfl (.of rfl) rfl rfl rfl T.ag66 rfl)) rfl rfl ?_
      refine TrL.stepS 93 (.plain rfl (.call rfl (F34 ..) (.cons (.of rfl) (.cons (.of rfl) .nil)))) rfl rfl ?_
      refine TrL.stepS 91 (.plain rfl (.move rfl (.of rfl))) rfl rfl ?_
      refine TrL.stepS 94 (.plain rfl (.extract rfl (.of rfl) rfl)) rfl rfl ?_
      refine TrL.stepS 95 (.plain rfl (.extract rfl (.of rfl) rfl)) rfl rfl ?_
      refine TrL.allocS 16 (zs := [.int .i64 0, .int .i64 0]) rfl rfl (by kernel_rfl) 12 rfl rfl rfl fun b16 => ?_
      refine TrL.storeW 16 (vs := [_, _]) rfl rfl rfl (.of rfl) (.of rfl) rfl rfl T.sz66 rfl rfl ?_
      refine TrL.stepS 13 (.plain rfl (.assign rfl (.of rfl))) rfl rfl ?_
      refine TrL.nil ?_
      refine Fin.keepG (Γ' := [(0, _), (1, _), (2, _), (3, _), (4, _), (5, _), (6, _), (7, _), (8, _), (9, _), (11, _), (13, _), (60, _), (71, _)]) (.same rfl (.same rfl (.same rfl (.same rfl (.same rfl (.same rfl (.same rfl (.same rfl (.same rfl (.same rfl (.same rfl (.same rfl (.same rfl (.same rfl .nil)))))))))))))) ?_
      refine Fin.next ?_
      refine Tr.seq ?_
      refine Tr.seq ?_
      refine Tr.region ?_
      refine TrL.stepS 96 (.plain rfl (.move rfl (.of rfl))) rfl rfl ?_
      refine TrL.stepS 97 (.plain rfl (.neq rfl (.of rfl) (.of rfl))) rfl rfl ?_
      refine TrL.stepS 98 (.plain rfl (.move rfl (.of rfl))) rfl rfl ?_
      refine TrL.stepS 99 (.guarded rfl rfl rfl fun hg => .move rfl (.of rfl)) rfl rfl ?_
      refine TrL.stepS 100 (.guarded rfl rfl rfl fun hg => .neq rfl (.cond rfl hg) (.of rfl)) rfl rfl ?_
      refine TrL.stepS 101 (.plain rfl (.or rfl (.of rfl) (.cond rfl fun h => h))) rfl rfl ?_
      refine TrL.stepS 102 (.plain rfl (.move rfl (.of rfl))) rfl rfl ?_
      refine TrL.stepS 103 (.guarded rfl rfl rfl fun hg => .move rfl (.of rfl)) rfl rfl ?_
      refine TrL.stepS 104 (.guarded rfl rfl rfl fun hg => .neq rfl (.cond rfl hg) (.of rfl)) rfl rfl ?_
      refine TrL.stepS 105 (.plain rfl (.or rfl (.of rfl) (.cond rfl fun h => h))) rfl rfl ?_
      refine TrL.stepS 106 (.plain rfl (.move rfl (.of rfl))) rfl rfl ?_
      refine TrL.stepS 107 (.guarded rfl rfl rfl fun hg => .move rfl (.of rfl)) rfl rfl ?_
      refine TrL.stepS 108 (.guarded rfl rfl rfl fun hg => .neq rfl (.cond rfl hg) (.of rfl)) rfl rfl ?_
      refine TrL.stepS 109 (.plain rfl (.or rfl (.of rfl) (.cond rfl fun h => h))) rfl rfl ?_
      refine TrL.stepS 110 (.plain rfl (.move rfl (.of rfl))) rfl rfl ?_
      refine TrL.stepS 111 (.guarded rfl rfl rfl fun hg => .move rfl (.of rfl)) rfl rfl ?_
      refine TrL.stepS 112 (.guarded rfl rfl rfl fun hg => .neq rfl (.cond rfl hg) (.of rfl)) rfl rfl ?_
      refine TrL.stepS 113 (.plain rfl (.or rfl (.of rfl) (.cond rfl fun h => h))) rfl rfl ?_
      refine TrL.stepS 114 (.plain rfl (.move rfl (.of rfl))) rfl rfl ?_
      refine TrL.stepS 115 (.guarded rfl rfl rfl fun hg => .loadBN 13 (k := 2) (ds := [_, _]) rfl (.of rfl) rfl rfl rfl T.ag66 rfl) rfl rfl ?_
      refine TrL.stepS 116 (.guarded rfl rfl rfl fun hg => .call rfl (F35 _ _ _ (by decide)) (.cons (.cond rfl hg) (.cons (.of rfl) .nil))) rfl rfl ?_
      refine TrL.stepS 117 (.plain rfl (.or rfl (.of rfl) (.cond rfl fun h => h))) rfl rfl ?_
      refine TrL.stepS 118 (.plain rfl (.move rfl (.of rfl))) rfl rfl ?_
      refine TrL.stepS 119 (.guarded rfl rfl rfl fun hg => .loadBN 13 (k := 2) (ds := [_, _]) rfl (.of rfl) rfl rfl rfl T.ag66 rfl) rfl rfl ?_
      refine TrL.stepS 120 (.guarded rfl rfl rfl fun hg => .call rfl (F35 _ _ _ (by decide)) (.cons (.cond rfl hg) (.cons (.of rfl) .nil))) rfl rfl ?_
      refine TrL.stepS 121 (.guarded rfl rfl rfl fun hg => .not rfl (.cond rfl hg)) rfl rfl ?_
      refine TrL.stepS 122 (.plain rfl (.or rfl (.of rfl) (.cond rfl fun h => h))) rfl rfl ?_
      refine TrL.stepS 123 (.plain rfl (.move rfl (.of rfl))) rfl rfl ?_
      refine TrL.stepS 124 (.guarded rfl rfl rfl fun hg => .loadBN 13 (k := 2) (ds := [_, _]) rfl (.of rfl) rfl rfl rfl T.ag66 rfl) rfl rfl ?_
      refine TrL.stepS 125 (.guarded rfl rfl rfl fun hg => .build rfl (.cons (.of rfl) (.cons (.of rfl) .nil)) (T.bd27_0_1 _ _)) rfl rfl ?_
      refine TrL.stepS 126 (.guarded rfl rfl rfl fun hg => .call rfl (F36 ..) (.cons (.cond rfl hg) (.cons (.cond rfl hg) .nil))) rfl rfl ?_
      refine TrL.stepS 127 (.guarded rfl rfl rfl fun hg => .not rfl (.cond rfl hg)) rfl rfl ?_
      refine TrL.stepS 128 (.plain rfl (.or rfl (.of rfl) (.cond rfl fun h => h))) rfl rfl ?_
      refine TrL.stepS 129 (.plain rfl (.move rfl (.of rfl))) rfl rfl ?_
      refine TrL.stepS 130 (.guarded rfl rfl rfl fun hg => .loadBN 13 (k := 2) (ds := [_, _]) rfl (.of rfl) rfl rfl rfl T.ag66 rfl) rfl rfl ?_
      refine TrL.stepS 131 (.guarded rfl rfl rfl fun hg => .build rfl (.cons (.of rfl) (.cons (.of rfl) .nil)) (T.bd27_0_1 _ _)) rfl rfl ?_
      refine TrL.stepS 132 (.guarded rfl rfl rfl fun hg => .call rfl (F36 ..) (.cons (.cond rfl hg) (.cons (.cond rfl hg) .nil))) rfl rfl ?_
      refine TrL.stepS 133 (.plain rfl (.or rfl (.of rfl) (.cond rfl fun h => h))) rfl rfl ?_
      refine TrL.stepS 134 (.plain rfl (.move rfl (.of rfl))) rfl rfl ?_
      refine TrL.stepS 135 (.guarded rfl rfl rfl fun hg => .loadBN 12 (k := 2) (ds := [_, _]) rfl (.of rfl) rfl rfl rfl T.ag66 rfl) rfl rfl ?_
      refine TrL.stepS 136 (.guarded rfl rfl rfl fun hg => .call rfl (F35 _ _ _ (by decide)) (.cons (.cond rfl hg) (.cons (.of rfl) .nil))) rfl rfl ?_
      refine TrL.stepS 137 (.plain rfl (.or rfl (.of rfl) (.cond rfl fun h => h))) rfl rfl ?_
      refine TrL.nil ?_
      refine Fin.keepG (Γ' := [(0, _), (1, _), (2, _), (3, _), (4, _), (5, _), (6, _), (7, _), (8, _), (9, _), (11, _), (13, _), (60, _), (71, _), (137, _)]) (.same rfl (.same rfl (.same rfl (.same rfl (.same rfl (.same rfl (.same rfl (.same rfl (.same rfl (.same rfl (.same rfl (.same rfl (.same rfl (.same rfl (.same rfl .nil))))))))))))))) ?_
      refine Fin.next ?_
      refine Tr.cond rfl (fun hb2 => ?_) (fun hb2 => ?_)
      · exact absurd hb2 (by decide)
      · try simp only [decide_eq_true_eq, decide_eq_false_iff_not, beq_iff_eq, beq_eq_false_iff_ne, bne_iff_ne, bne_eq_false_iff_eq, Bool.and_eq_true, Bool.and_eq_false_iff, Bool.or_eq_true, Bool.or_eq_false_iff, Bool.not_eq_true', Bool.not_eq_false', gt_iff_lt, ge_iff_le, Int.not_lt, Int.not_le, ne_eq, Int.natCast_nonneg, true_and, and_true, Decidable.not_not, not_true_eq_false, not_false_eq_true] at hb2
        refine Tr.skip ?_
        refine Fin.next ?_
        refine Tr.seq ?_
        refine Tr.region ?_
        refine TrL.stepS 138 (.plain rfl (.build rfl (.cons (.of rfl) (.cons (.of rfl) .nil)) (T.bd27_0_1 _ _))) rfl rfl ?_
        refine TrL.allocS 17 (zs := [.int .i64 0, .int .i64 0]) rfl rfl (by kernel_rfl) 14 rfl rfl rfl fun b17 => ?_
        refine TrL.storeW 17 (vs := [_, _]) rfl rfl rfl (.of rfl) (.of rfl) rfl rfl T.sz27 rfl rfl ?_
        refine TrL.nil ?_
        refine Fin.keepG (Γ' := [(0, _), (1, _), (2, _), (3, _), (4, _), (5, _), (6, _), (7, _), (8, _), (9, _), (11, _), (13, _), (14, _), (60, _), (71, _), (137, _)]) (.same rfl (.same rfl (.same rfl (.same rfl (.same rfl (.same rfl (.same rfl (.same rfl (.same rfl (.same rfl (.same rfl (.same rfl (.same rfl (.same rfl (.same rfl (.same rfl .nil)))))))))))))))) ?_
        refine Fin.next ?_
        refine Tr.seq ?_
        refine Tr.regionK T.mixed (by kernel_rfl) (by kernel_rfl) ?_
        refine ChainK.consS 139 (.plain rfl (.loadBN 10 (k := 4) (ds := [_, _, _, _]) rfl (.of rfl) rfl rfl rfl T.ag30 rfl)) rfl ?_
        refine ChainK.consS 140 (.plain rfl (.build rfl (.cons (.of rfl) (.cons (.of rfl) .nil)) (T.bd27_0_1 _ _))) rfl ?_
        refine ChainK.consS 141 (.plain rfl (.call rfl (F14 _ _ _ _ _ _ _ (by decide) (by decide)) (.cons (.of rfl) (.cons (.of rfl) (.cons (.of rfl) .nil))))) rfl ?_
        refine ChainK.consS 142 (.plain rfl (.move rfl (.of rfl))) rfl ?_
        refine ChainK.consS 143 (.guarded rfl rfl rfl fun hg => .loadBN 11 (k := 4) (ds := [_, _, _, _]) rfl (.of rfl) rfl rfl rfl T.ag30 rfl) rfl ?_
        refine ChainK.consS 144 (.guarded rfl rfl rfl fun hg => .loadBN 17 (k := 2) (ds := [_, _]) rfl (.of rfl) rfl rfl rfl T.ag27 rfl) rfl ?_
        refine ChainK.consS 145 (.guarded rfl rfl rfl fun hg => .call rfl (F14 _ _ _ _ _ _ _ (by decide) (by decide)) (.cons (.cond rfl hg) (.cons (.of rfl) (.cons (.cond rfl hg) .nil)))) rfl ?_
        refine ChainK.consS 146 (.plain rfl (.and rfl (.of rfl) (.cond rfl fun h => h))) rfl ?_
        refine ChainK.consS 147 (.plain rfl (.move rfl (.of rfl))) rfl ?_
        refine ChainK.consS 148 (.guarded rfl rfl rfl fun hg => .call rfl (F32 ..) (.cons (.of rfl) .nil)) rfl ?_
        refine ChainK.consS 149 (.guarded rfl rfl rfl fun hg => .loadBN 17 (k := 2) (ds := [_, _]) rfl (.of rfl) rfl rfl rfl T.ag27 rfl) rfl ?_
        refine ChainK.consS 150 (.guarded rfl rfl rfl fun hg => .call rfl (F14 _ _ _ _ _ _ _ (by decide) (by decide)) (.cons (.cond rfl hg) (.cons (.of rfl) (.cons (.cond rfl hg) .nil)))) rfl ?_
        refine ChainK.consS 151 (.plain rfl (.and rfl (.of rfl) (.cond rfl fun h => h))) rfl ?_
        refine ChainK.consS 152 (.plain rfl (.move rfl (.of rfl))) rfl ?_
        refine ChainK.consS 153 (.guarded rfl rfl rfl fun hg => .call rfl (F30 ..) (.cons (.of rfl) (.cons (.of rfl) .nil))) rfl ?_
        refine ChainK.consS 154 (.guarded rfl rfl rfl fun hg => .loadBN 17 (k := 2) (ds := [_, _]) rfl (.of rfl) rfl rfl rfl T.ag27 rfl) rfl ?_
        refine ChainK.consS 155 (.guarded rfl rfl rfl fun hg => .call rfl (F14 _ _ _ _ _ _ _ (by decide) (by decide)) (.cons (.cond rfl hg) (.cons (.of rfl) (.cons (.cond rfl hg) .nil)))) rfl ?_
        refine ChainK.consS 156 (.plain rfl (.and rfl (.of rfl) (.cond rfl fun h => h))) rfl ?_
        refine ChainK.consS 157 (.plain rfl (.move rfl (.of rfl))) rfl ?_
        refine ChainK.consS 158 (.guarded rfl rfl rfl fun hg => .slice (K := intR .i64) (xs := [_, _, _, _]) rfl (.cons (.map (.of rfl) (intR_elem _)) (.cons (.map (.of rfl) (intR_elem _)) (.cons (.map (.of rfl) (intR_elem _)) (.cons (.map (.of rfl) (intR_elem _)) .nil)))) Try.underlying24 T.sz2 T.zb2 rfl (by decide)) rfl ?_
        refine ChainK.consS 159 (.guarded rfl rfl rfl fun hg => .loadBN 17 (k := 2) (ds := [_, _]) rfl (.of rfl) rfl rfl rfl T.ag27 rfl) rfl ?_
        refine ChainK.consS 160 (.guarded rfl rfl rfl fun hg => .call rfl (F15 _ _ _ _ _ (by decide)) (.cons (.of rfl) (.cons (.cond rfl hg) (.cons (.of rfl) (.cons (.cond rfl hg) .nil))))) rfl ?_
        refine ChainK.consS 161 (.plain rfl (.and rfl (.of rfl) (.cond rfl fun h => h))) rfl ?_
        refine ChainK.consS 162 (.plain rfl (.move rfl (.of rfl))) rfl ?_
        refine ChainK.consS 163 (.guarded rfl rfl rfl fun hg => .loadBN 17 (k := 2) (ds := [_, _]) rfl (.of rfl) rfl rfl rfl T.ag27 rfl) rfl ?_
        refine ChainK.consS 164 (.guarded rfl rfl rfl fun hg => .call rfl (F15 _ _ _ _ _ (by decide)) (.cons (.of rfl) (.cons ((L.Has.of rfl).map fun _ _ h => lst_nil h) (.cons (.of rfl) (.cons (.cond rfl hg) .nil))))) rfl ?_
        refine ChainK.consS 165 (.plain rfl (.and rfl (.of rfl) (.cond rfl fun h => h))) rfl ?_
        refine ChainK.consS 0 (.plain rfl (.assign rfl (.of rfl))) rfl ?_
        refine ChainK.nil ?_
        refine Fin.keepG (Γ' := [(0, _), (1, _), (2, _), (3, _), (4, _), (5, _), (6, _), (7, _), (8, _), (9, _), (11, _), (13, _), (14, _), (60, _), (71, _), (137, _)]) (.same rfl (.same rfl (.same rfl (.same rfl (.same rfl (.same rfl (.same rfl (.same rfl (.same rfl (.same rfl (.same rfl (.same rfl (.same rfl (.same rfl (.same rfl (.same rfl .nil)))))))))))))))) ?_
        refine Fin.next ?_
        refine Tr.ret ?_
        refine Fin.retI (rs := [_]) (Rs' := [is (.bool true)]) rfl (.cons (.tmp rfl) .nil) ?_
        exact (.cons (L.iv rfl) .nil)

end Go.Proofs.Ytemkogoclljhpaa