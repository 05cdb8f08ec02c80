import Derived.Test.YtemkogoclljhpaaX6
namespace Go.Proofs.Ytemkogoclljhpaa
open Go Go.Proofs.Ytemkogoclljhpaa.L
set_option linter.unusedVariables false
set_option linter.unusedSimpArgs false

namespace T
theorem bd30_0_1_2_3 (c0 : Int) (c1 : Int) (c2 : Int) (c3 : Int) : Try.prog.built 30 [(0, .int .u8 c0), (1, .int .i64 c1), (2, .int .i64 c2), (3, .int .i64 c3)] = some #[.int .u8 c0, .int .i64 c1, .int .i64 c2, .int .i64 c3] := by kernel_rfl
end T

theorem idx23_0 (c0 c1 c2 c3 c4 c5 : Int) : ∀ w, (Instr.index 23 (.agg #[.int .i32 c0, .int .i32 c1, .int .i32 c2, .int .i32 c3, .int .i32 c4, .int .i32 c5]) (.int .i64 0)).run Try.prog w = .ok (.agg #[.int .i32 c0, .int .i32 c1]) w := by
  intro w
  kernel_rfl
theorem idx23_1 (c0 c1 c2 c3 c4 c5 : Int) : ∀ w, (Instr.index 23 (.agg #[.int .i32 c0, .int .i32 c1, .int .i32 c2, .int .i32 c3, .int .i32 c4, .int .i32 c5]) (.int .i64 1)).run Try.prog w = .ok (.agg #[.int .i32 c2, .int .i32 c3]) w := by
  intro w
  kernel_rfl
theorem idx23_2 (c0 c1 c2 c3 c4 c5 : Int) : ∀ w, (Instr.index 23 (.agg #[.int .i32 c0, .int .i32 c1, .int .i32 c2, .int .i32 c3, .int .i32 c4, .int .i32 c5]) (.int .i64 2)).run Try.prog w = .ok (.agg #[.int .i32 c4, .int .i32 c5]) w := by
  intro w
  kernel_rfl
theorem half (c : Int) (h : -2147483648 ≤ c ∧ c ≤ 2147483647) : -1073741824 ≤ c.tdiv 2 ∧ c.tdiv 2 ≤ 1073741824 := by
  have h1 := Int.mul_tdiv_add_tmod c 2
  have h2 := tmod_bd c 2 (by omega)
  omega
def at3 (k j : Nat) (q : Int) : Int := if j < k then q else 0

/- tidepool/tidepooltop.TopWindows -/
set_option maxRecDepth 100000 in
theorem F3 (kd s l g t lt : Int) (c0 c1 c2 c3 c4 c5 : Int) (ms : List Int) (hc0 : -2147483648 ≤ c0 ∧ c0 ≤ 2147483647) (hc1 : -2147483648 ≤ c1 ∧ c1 ≤ 2147483647) (hc2 : -2147483648 ≤ c2 ∧ c2 ≤ 2147483647) (hc3 : -2147483648 ≤ c3 ∧ c3 ≤ 2147483647) (hc4 : -2147483648 ≤ c4 ∧ c4 ≤ 2147483647) (hc5 : -2147483648 ≤ c5 ∧ c5 ≤ 2147483647) : FnP Try.prog 3 [is (.int .u8 kd), is (.int .i64 s), is (.int .i64 l), is (.int .i64 g), is (.int .i64 t), is (.agg #[.int .i32 c0, .int .i32 c1, .int .i32 c2, .int .i32 c3, .int .i32 c4, .int .i32 c5]), is (.int .i64 lt), Lst (intR .i64) ms] (is (.bool true)) := by
  have hh0 := half c0 hc0
  have hh1 := half c1 hc1
  have hh2 := half c2 hc2
  have hh3 := half c3 hc3
  have hh4 := half c4 hc4
  have hh5 := half c5 hc5
  refine FnP.mk' Try.func3 T.nm3 rfl (N := 160) rfl rfl fun B hB hκ => ?_
  refine Tr.seq ?_
  refine Tr.region ?_
  refine TrL.stepS 13 (.plain rfl (.boxR rfl (.of rfl))) rfl rfl ?_
  refine TrL.stepS 16 (.plain rfl (.assign rfl (.of rfl))) rfl rfl ?_
  refine TrL.nil ?_
  refine Fin.next ?_
  refine Tr.seq ?_
  refine Tr.seq ?_
  refine Tr.region ?_
  refine TrL.stepS 22 (.plain rfl (.move rfl (.of rfl))) rfl rfl ?_
  refine TrL.stepS 23 (.plain rfl (.len rfl (.of rfl) Try.underlying24)) rfl rfl ?_
  refine TrL.stepS 24 (.plain rfl (.gtr rfl (.of rfl) (.of rfl))) rfl rfl ?_
  refine TrL.nil ?_
  refine Fin.keepG (Γ' := [(0, _), (1, _), (2, _), (3, _), (4, _), (5, _), (6, _), (7, _), (13, _), (16, _), (24, _)]) (.same rfl (.same rfl (.same rfl (.same rfl (.same rfl (.same rfl (.same rfl (.same rfl (.same rfl (.same rfl (.same rfl .nil))))))))))) ?_
  refine Fin.next ?_
  refine Tr.cond rfl (fun hb0 => ?_) (fun hb0 => ?_)
  · try simp only [decide_eq_true_eq, decide_eq_false_iff_not, beq_iff_eq, beq_eq_false_iff_ne, bne_iff_ne, bne_eq_false_iff_eq, Bool.and_eq_true, Bool.and_eq_false_iff, Bool.or_eq_true, Bool.or_eq_false_iff, Bool.not_eq_true', Bool.not_eq_false', gt_iff_lt, ge_iff_le, Int.not_lt, Int.not_le, ne_eq, Int.natCast_nonneg, true_and, and_true, Decidable.not_not, not_true_eq_false, not_false_eq_true] at hb0
    refine Tr.seq ?_
    refine Tr.region ?_
    refine TrL.stepS 25 (.plain rfl (.call rfl F9 .nil)) rfl rfl ?_
    refine TrL.stepS 16 (.plain rfl (.assign rfl (.of rfl))) rfl rfl ?_
    refine TrL.nil ?_
    refine Fin.keepG (Γ' := [(0, _), (1, _), (2, _), (3, _), (4, _), (5, _), (6, _), (7, _), (13, _), (16, _), (24, _)]) (.same rfl (.same rfl (.same rfl (.same rfl (.same rfl (.same rfl (.same rfl (.same rfl (.same rfl (.same rfl (.same rfl .nil))))))))))) ?_
    refine Fin.next ?_
    refine Tr.ret ?_
    refine Fin.thenRet ?_
    refine Fin.retI (rs := [_]) (Rs' := [is (.bool true)]) rfl (.cons (.tmp rfl) .nil) ?_
    exact (.cons (L.iv rfl) .nil)
  · try simp only [decide_eq_true_eq, decide_eq_false_iff_not, beq_iff_eq, beq_eq_false_iff_ne, bne_iff_ne, bne_eq_false_iff_eq, Bool.and_eq_true, Bool.and_eq_false_iff, Bool.or_eq_true, Bool.or_eq_false_iff, Bool.not_eq_true', Bool.not_eq_false', gt_iff_lt, ge_iff_le, Int.not_lt, Int.not_le, ne_eq, Int.natCast_nonneg, true_and, and_true, Decidable.not_not, not_true_eq_false, not_false_eq_true] at hb0
    have hml : ms.length ≤ 20 := by omega
    refine Tr.skip ?_
    refine Fin.next ?_
    refine Tr.seq ?_
    refine Tr.region ?_
    refine TrL.allocS 10 (zs := [.int .i64 0, .int .i64 0, .int .i64 0, .int .i64 0, .int .i64 0, .int .i64 0]) rfl rfl (by kernel_rfl) 17 rfl rfl rfl fun b10 => ?_
    refine TrL.nil ?_
    refine Fin.next ?_
    refine Tr.seqJ (γ := Unit) (fun _ => True) (fun _ => [(10, Blk b10 [.int .i64 (c0.tdiv 2), .int .i64 (c1.tdiv 2), .int .i64 (c2.tdiv 2), .int .i64 (c3.tdiv 2), .int .i64 (c4.tdiv 2), .int .i64 (c5.tdiv 2)] 28)]) (fun _ => [(0, is (.int .u8 kd)), (1, is (.int .i64 s)), (2, is (.int .i64 l)), (3, is (.int .i64 g)), (4, is (.int .i64 t)), (6, is (.int .i64 lt)), (7, Lst (intR .i64) ms), (17, is (.pointer (some ⟨b10, 0, none⟩)))]) ?jx9 ?jk9
    case jx9 =>
      refine Tr.seq ?_
      refine Tr.region ?_
      refine TrL.stepS 26 (.plain rfl (.load6 rfl (.of rfl) T.ag23)) rfl rfl ?_
      refine TrL.stepS 27 (.plain rfl (.move rfl (.of rfl))) rfl rfl ?_
      refine TrL.nil ?_
      refine Fin.next ?_
      refine Tr.block ?_
      refine Tr.loop (γ := Nat) (fun k => k ≤ 3) (fun k => [(10, Blk b10 [.int .i64 (at3 k 0 (c0.tdiv 2)), .int .i64 (at3 k 0 (c1.tdiv 2)), .int .i64 (at3 k 1 (c2.tdiv 2)), .int .i64 (at3 k 1 (c3.tdiv 2)), .int .i64 (at3 k 2 (c4.tdiv 2)), .int .i64 (at3 k 2 (c5.tdiv 2))] 28)]) (fun k => [(0, is (.int .u8 kd)), (1, is (.int .i64 s)), (2, is (.int .i64 l)), (3, is (.int .i64 g)), (4, is (.int .i64 t)), (6, is (.int .i64 lt)), (7, Lst (intR .i64) ms), (17, is (.pointer (some ⟨b10, 0, none⟩))), (26, is (.agg #[.int .i32 c0, .int .i32 c1, .int .i32 c2, .int .i32 c3, .int .i32 c4, .int .i32 c5])), (27, is (.int .i64 k))]) (fun k => 3 - k) (0) ?h0_0 ?hM_0 ?hG_0 ?hl_0
      case h0_0 => exact Nat.zero_le _
      case hM_0 => exact (.cons rfl (fun _ _ h => h) .nil)
      case hG_0 => exact (.same rfl (.same rfl (.same rfl (.same rfl (.same rfl (.same rfl (.same rfl (.same rfl (.same rfl (.eq rfl (by rfl) .nil))))))))))
      case hl_0 =>
        intro k hI
        refine Tr.seq ?_
        refine Tr.region ?_
        refine TrL.stepS 28 (.plain rfl (.lss rfl (.of rfl) (.of rfl))) rfl rfl ?_
        refine TrL.nil ?_
        refine Fin.next ?_
        refine Tr.seq ?_
        refine Tr.cond rfl (fun hb1 => ?_) (fun hb1 => ?_)
        · try simp only [decide_eq_true_eq, decide_eq_false_iff_not, beq_iff_eq, beq_eq_false_iff_ne, bne_iff_ne, bne_eq_false_iff_eq, Bool.and_eq_true, Bool.and_eq_false_iff, Bool.or_eq_true, Bool.or_eq_false_iff, Bool.not_eq_true', Bool.not_eq_false', gt_iff_lt, ge_iff_le, Int.not_lt, Int.not_le, ne_eq, Int.natCast_nonneg, true_and, and_true, Decidable.not_not, not_true_eq_false, not_false_eq_true] at hb1
          refine Tr.skip ?_
          refine Fin.next ?_
          refine Tr.seq ?_
          refine Tr.block ?_
          refine Tr.seq ?_
          rcases (show k = 0 ∨ k = 1 ∨ k = 2 by omega) with rfl | rfl | rfl
          ·
            refine Tr.region ?_
            refine TrL.stepS 29 (.plain rfl (.move rfl (.of rfl))) rfl rfl ?_
            refine TrL.stepS 30 (.plain rfl (.indexV rfl (.of rfl) (.of rfl) (idx23_0 c0 c1 c2 c3 c4 c5))) rfl rfl ?_
            refine TrL.allocS 11 (zs := [.int .i32 0, .int .i32 0]) rfl rfl (by kernel_rfl) 19 rfl rfl rfl fun b11 => ?_
            refine TrL.stepS 18 (.plain rfl (.assign rfl (.of rfl))) rfl rfl ?_
            refine TrL.storeW 11 (vs := [_, _]) rfl rfl rfl (.of rfl) (.of rfl) rfl rfl T.sz22 rfl rfl ?_
            refine TrL.nil ?_
            refine Fin.keepG (Γ' := [(0, _), (1, _), (2, _), (3, _), (4, _), (6, _), (7, _), (17, _), (18, _), (19, _), (26, _), (27, _), (28, _)]) (.same rfl (.same rfl (.same rfl (.same rfl (.same rfl (.same rfl (.same rfl (.same rfl (.same rfl (.same rfl (.same rfl (.same rfl (.same rfl .nil))))))))))))) ?_
            refine Fin.next ?_
            refine Tr.region ?_
            refine TrL.stepS 31 (.plain rfl (.move rfl (.of rfl))) rfl rfl ?_
            refine TrL.stepS 32 (.plain rfl (.indexArrP rfl (.of rfl) (.of rfl) Try.underlying22 T.sz21 (by omega) (by omega))) rfl rfl ?_
            refine TrL.stepS 33 (.plain rfl (.loadB 11 rfl (.of rfl) rfl rfl rfl T.sc21)) rfl rfl ?_
            first | refine TrL.stepS 34 (.plain rfl (.quoI L.bd_i32 rfl (.of rfl) (.of rfl) (by omega) (by decide) (by omega) (by omega))) rfl rfl ?_ | refine TrL.stepS 34 (.plain rfl (.quo rfl (.of rfl) (.of rfl) (by omega))) rfl rfl ?_
            first | refine TrL.stepS 35 (.plain rfl (.convI L.bd_i64 rfl (.of rfl) T.us21 Try.underlying2 (by omega) (by omega))) rfl rfl ?_ | refine TrL.stepS 35 (.plain rfl (.conv rfl (.of rfl) T.us21 Try.underlying2)) rfl rfl ?_
            refine TrL.stepS 36 (.plain rfl (.indexArrP rfl (.of rfl) (.of rfl) Try.underlying22 T.sz21 (by omega) (by omega))) rfl rfl ?_
            refine TrL.stepS 37 (.plain rfl (.loadB 11 rfl (.of rfl) rfl rfl rfl T.sc21)) rfl rfl ?_
            first | refine TrL.stepS 38 (.plain rfl (.quoI L.bd_i32 rfl (.of rfl) (.of rfl) (by omega) (by decide) (by omega) (by omega))) rfl rfl ?_ | refine TrL.stepS 38 (.plain rfl (.quo rfl (.of rfl) (.of rfl) (by omega))) rfl rfl ?_
            first | refine TrL.stepS 39 (.plain rfl (.convI L.bd_i64 rfl (.of rfl) T.us21 Try.underlying2 (by omega) (by omega))) rfl rfl ?_ | refine TrL.stepS 39 (.plain rfl (.conv rfl (.of rfl) T.us21 Try.underlying2)) rfl rfl ?_
            refine TrL.stepS 40 (.plain rfl (.build rfl (.cons (.of rfl) (.cons (.of rfl) .nil)) (T.bd27_0_1 _ _))) rfl rfl ?_
            refine TrL.stepS 41 (.plain rfl (.indexArrP rfl (.of rfl) (.of rfl) Try.underlying28 T.sz27 (by omega) (by omega))) rfl rfl ?_
            refine TrL.storeA 10 (vs := [_, _]) rfl rfl rfl (.of rfl) (.of rfl) rfl rfl T.sz27 rfl rfl ?_
            refine TrL.nil ?_
            refine Fin.keepG (Γ' := [(0, _), (1, _), (2, _), (3, _), (4, _), (6, _), (7, _), (17, _), (18, _), (19, _), (26, _), (27, _), (28, _)]) (.same rfl (.same rfl (.same rfl (.same rfl (.same rfl (.same rfl (.same rfl (.same rfl (.same rfl (.same rfl (.same rfl (.same rfl (.same rfl .nil))))))))))))) ?_
            refine Fin.blockNormal ?_
            refine Fin.next ?_
            refine Tr.region ?_
            first | refine TrL.stepS 42 (.plain rfl (.addI L.bd_i64 rfl (.of rfl) (.of rfl) (by omega) (by omega))) rfl rfl ?_ | refine TrL.stepS 42 (.plain rfl (.add rfl (.of rfl) (.of rfl))) rfl rfl ?_
            refine TrL.stepS 27 (.plain rfl (.move rfl (.of rfl))) rfl rfl ?_
            refine TrL.nil ?_
            refine Fin.keepG (Γ' := [(0, _), (1, _), (2, _), (3, _), (4, _), (6, _), (7, _), (17, _), (18, _), (19, _), (26, _), (27, _), (28, _)]) (.same rfl (.same rfl (.same rfl (.same rfl (.same rfl (.same rfl (.same rfl (.same rfl (.same rfl (.same rfl (.same rfl (.same rfl (.same rfl .nil))))))))))))) ?_
            exact Fin.again (1) (by omega) (by omega) (.cons rfl (fun _ _ h => h) .nil) (.same rfl (.same rfl (.same rfl (.same rfl (.same rfl (.same rfl (.same rfl (.same rfl (.same rfl (.eq rfl (by rfl) .nil))))))))))
          ·
            refine Tr.region ?_
            refine TrL.stepS 29 (.plain rfl (.move rfl (.of rfl))) rfl rfl ?_
            refine TrL.stepS 30 (.plain rfl (.indexV rfl (.of rfl) (.of rfl) (idx23_1 c0 c1 c2 c3 c4 c5))) rfl rfl ?_
            refine TrL.allocS 11 (zs := [.int .i32 0, .int .i32 0]) rfl rfl (by kernel_rfl) 19 rfl rfl rfl fun b11 => ?_
            refine TrL.stepS 18 (.plain rfl (.assign rfl (.of rfl))) rfl rfl ?_
            refine TrL.storeW 11 (vs := [_, _]) rfl rfl rfl (.of rfl) (.of rfl) rfl rfl T.sz22 rfl rfl ?_
            refine TrL.nil ?_
            refine Fin.keepG (Γ' := [(0, _), (1, _), (2, _), (3, _), (4, _), (6, _), (7, _), (17, _), (18, _), (19, _), (26, _), (27, _), (28, _)]) (.same rfl (.same rfl (.same rfl (.same rfl (.same rfl (.same rfl (.same rfl (.same rfl (.same rfl (.same rfl (.same rfl (.same rfl (.same rfl .nil))))))))))))) ?_
            refine Fin.next ?_
            refine Tr.region ?_
            refine TrL.stepS 31 (.plain rfl (.move rfl (.of rfl))) rfl rfl ?_
            refine TrL.stepS 32 (.plain rfl (.indexArrP rfl (.of rfl) (.of rfl) Try.underlying22 T.sz21 (by omega) (by omega))) rfl rfl ?_
            refine TrL.stepS 33 (.plain rfl (.loadB 11 rfl (.of rfl) rfl rfl rfl T.sc21)) rfl rfl ?_
            first | refine TrL.stepS 34 (.plain rfl (.quoI L.bd_i32 rfl (.of rfl) (.of rfl) (by omega) (by decide) (by omega) (by omega))) rfl rfl ?_ | refine TrL.stepS 34 (.plain rfl (.quo rfl (.of rfl) (.of rfl) (by omega))) rfl rfl ?_
            first | refine TrL.stepS 35 (.plain rfl (.convI L.bd_i64 rfl (.of rfl) T.us21 Try.underlying2 (by omega) (by omega))) rfl rfl ?_ | refine TrL.stepS 35 (.plain rfl (.conv rfl (.of rfl) T.us21 Try.underlying2)) rfl rfl ?_
            refine TrL.stepS 36 (.plain rfl (.indexArrP rfl (.of rfl) (.of rfl) Try.underlying22 T.sz21 (by omega) (by omega))) rfl rfl ?_
            refine TrL.stepS 37 (.plain rfl (.loadB 11 rfl (.of rfl) rfl rfl rfl T.sc21)) rfl rfl ?_
            first | refine TrL.stepS 38 (.plain rfl (.quoI L.bd_i32 rfl (.of rfl) (.of rfl) (by omega) (by decide) (by omega) (by omega))) rfl rfl ?_ | refine TrL.stepS 38 (.plain rfl (.quo rfl (.of rfl) (.of rfl) (by omega))) rfl rfl ?_
            first | refine TrL.stepS 39 (.plain rfl (.convI L.bd_i64 rfl (.of rfl) T.us21 Try.underlying2 (by omega) (by omega))) rfl rfl ?_ | refine TrL.stepS 39 (.plain rfl (.conv rfl (.of rfl) T.us21 Try.underlying2)) rfl rfl ?_
            refine TrL.stepS 40 (.plain rfl (.build rfl (.cons (.of rfl) (.cons (.of rfl) .nil)) (T.bd27_0_1 _ _))) rfl rfl ?_
            refine TrL.stepS 41 (.plain rfl (.indexArrP rfl (.of rfl) (.of rfl) Try.underlying28 T.sz27 (by omega) (by omega))) rfl rfl ?_
            refine TrL.storeA 10 (vs := [_, _]) rfl rfl rfl (.of rfl) (.of rfl) rfl rfl T.sz27 rfl rfl ?_
            refine TrL.nil ?_
            refine Fin.keepG (Γ' := [(0, _), (1, _), (2, _), (3, _), (4, _), (6, _), (7, _), (17, _), (18, _), (19, _), (26, _), (27, _), (28, _)]) (.same rfl (.same rfl (.same rfl (.same rfl (.same rfl (.same rfl (.same rfl (.same rfl (.same rfl (.same rfl (.same rfl (.same rfl (.same rfl .nil))))))))))))) ?_
            refine Fin.blockNormal ?_
            refine Fin.next ?_
            refine Tr.region ?_
            first | refine TrL.stepS 42 (.plain rfl (.addI L.bd_i64 rfl (.of rfl) (.of rfl) (by omega) (by omega))) rfl rfl ?_ | refine TrL.stepS 42 (.plain rfl (.add rfl (.of rfl) (.of rfl))) rfl rfl ?_
            refine TrL.stepS 27 (.plain rfl (.move rfl (.of rfl))) rfl rfl ?_
            refine TrL.nil ?_
            refine Fin.keepG (Γ' := [(0, _), (1, _), (2, _), (3, _), (4, _), (6, _), (7, _), (17, _), (18, _), (19, _), (26, _), (27, _), (28, _)]) (.same rfl (.same rfl (.same rfl (.same rfl (.same rfl (.same rfl (.same rfl (.same rfl (.same rfl (.same rfl (.same rfl (.same rfl (.same rfl .nil))))))))))))) ?_
            exact Fin.again (2) (by omega) (by omega) (.cons rfl (fun _ _ h => h) .nil) (.same rfl (.same rfl (.same rfl (.same rfl (.same rfl (.same rfl (.same rfl (.same rfl (.same rfl (.eq rfl (by rfl) .nil))))))))))
          ·
            refine Tr.region ?_
            refine TrL.stepS 29 (.plain rfl (.move rfl (.of rfl))) rfl rfl ?_
            refine TrL.stepS 30 (.plain rfl (.indexV rfl (.of rfl) (.of rfl) (idx23_2 c0 c1 c2 c3 c4 c5))) rfl rfl ?_
            refine TrL.allocS 11 (zs := [.int .i32 0, .int .i32 0]) rfl rfl (by kernel_rfl) 19 rfl rfl rfl fun b11 => ?_
            refine TrL.stepS 18 (.plain rfl (.assign rfl (.of rfl))) rfl rfl ?_
            refine TrL.storeW 11 (vs := [_, _]) rfl rfl rfl (.of rfl) (.of rfl) rfl rfl T.sz22 rfl rfl ?_
            refine TrL.nil ?_
            refine Fin.keepG (Γ' := [(0, _), (1, _), (2, _), (3, _), (4, _), (6, _), (7, _), (17, _), (18, _), (19, _), (26, _), (27, _), (28, _)]) (.same rfl (.same rfl (.same rfl (.same rfl (.same rfl (.same rfl (.same rfl (.same rfl (.same rfl (.same rfl (.same rfl (.same rfl (.same rfl .nil))))))))))))) ?_
            refine Fin.next ?_
            refine Tr.region ?_
            refine TrL.stepS 31 (.plain rfl (.move rfl (.of rfl))) rfl rfl ?_
            refine TrL.stepS 32 (.plain rfl (.indexArrP rfl (.of rfl) (.of rfl) Try.underlying22 T.sz21 (by omega) (by omega))) rfl rfl ?_
            refine TrL.stepS 33 (.plain rfl (.loadB 11 rfl (.of rfl) rfl rfl rfl T.sc21)) rfl rfl ?_
            first | refine TrL.stepS 34 (.plain rfl (.quoI L.bd_i32 rfl (.of rfl) (.of rfl) (by omega) (by decide) (by omega) (by omega))) rfl rfl ?_ | refine TrL.stepS 34 (.plain rfl (.quo rfl (.of rfl) (.of rfl) (by omega))) rfl rfl ?_
            first | refine TrL.stepS 35 (.plain rfl (.convI L.bd_i64 rfl (.of rfl) T.us21 Try.underlying2 (by omega) (by omega))) rfl rfl ?_ | refine TrL.stepS 35 (.plain rfl (.conv rfl (.of rfl) T.us21 Try.underlying2)) rfl rfl ?_
            refine TrL.stepS 36 (.plain rfl (.indexArrP rfl (.of rfl) (.of rfl) Try.underlying22 T.sz21 (by omega) (by omega))) rfl rfl ?_
            refine TrL.stepS 37 (.plain rfl (.loadB 11 rfl (.of rfl) rfl rfl rfl T.sc21)) rfl rfl ?_
            first | refine TrL.stepS 38 (.plain rfl (.quoI L.bd_i32 rfl (.of rfl) (.of rfl) (by omega) (by decide) (by omega) (by omega))) rfl rfl ?_ | refine TrL.stepS 38 (.plain rfl (.quo rfl (.of rfl) (.of rfl) (by omega))) rfl rfl ?_
            first | refine TrL.stepS 39 (.plain rfl (.convI L.bd_i64 rfl (.of rfl) T.us21 Try.underlying2 (by omega) (by omega))) rfl rfl ?_ | refine TrL.stepS 39 (.plain rfl (.conv rfl (.of rfl) T.us21 Try.underlying2)) rfl rfl ?_
            refine TrL.stepS 40 (.plain rfl (.build rfl (.cons (.of rfl) (.cons (.of rfl) .nil)) (T.bd27_0_1 _ _))) rfl rfl ?_
            refine TrL.stepS 41 (.plain rfl (.indexArrP rfl (.of rfl) (.of rfl) Try.underlying28 T.sz27 (by omega) (by omega))) rfl rfl ?_
            refine TrL.storeA 10 (vs := [_, _]) rfl rfl rfl (.of rfl) (.of rfl) rfl rfl T.sz27 rfl rfl ?_
            refine TrL.nil ?_
            refine Fin.keepG (Γ' := [(0, _), (1, _), (2, _), (3, _), (4, _), (6, _), (7, _), (17, _), (18, _), (19, _), (26, _), (27, _), (28, _)]) (.same rfl (.same rfl (.same rfl (.same rfl (.same rfl (.same rfl (.same rfl (.same rfl (.same rfl (.same rfl (.same rfl (.same rfl (.same rfl .nil))))))))))))) ?_
            refine Fin.blockNormal ?_
            refine Fin.next ?_
            refine Tr.region ?_
            first | refine TrL.stepS 42 (.plain rfl (.addI L.bd_i64 rfl (.of rfl) (.of rfl) (by omega) (by omega))) rfl rfl ?_ | refine TrL.stepS 42 (.plain rfl (.add rfl (.of rfl) (.of rfl))) rfl rfl ?_
            refine TrL.stepS 27 (.plain rfl (.move rfl (.of rfl))) rfl rfl ?_
            refine TrL.nil ?_
            refine Fin.keepG (Γ' := [(0, _), (1, _), (2, _), (3, _), (4, _), (6, _), (7, _), (17, _), (18, _), (19, _), (26, _), (27, _), (28, _)]) (.same rfl (.same rfl (.same rfl (.same rfl (.same rfl (.same rfl (.same rfl (.same rfl (.same rfl (.same rfl (.same rfl (.same rfl (.same rfl .nil))))))))))))) ?_
            exact Fin.again (3) (by omega) (by omega) (.cons rfl (fun _ _ h => h) .nil) (.same rfl (.same rfl (.same rfl (.same rfl (.same rfl (.same rfl (.same rfl (.same rfl (.same rfl (.eq rfl (by rfl) .nil))))))))))
        · try simp only [decide_eq_true_eq, decide_eq_false_iff_not, beq_iff_eq, beq_eq_false_iff_ne, bne_iff_ne, bne_eq_false_iff_eq, Bool.and_eq_true, Bool.and_eq_false_iff, Bool.or_eq_true, Bool.or_eq_false_iff, Bool.not_eq_true', Bool.not_eq_false', gt_iff_lt, ge_iff_le, Int.not_lt, Int.not_le, ne_eq, Int.natCast_nonneg, true_and, and_true, Decidable.not_not, not_true_eq_false, not_false_eq_true] at hb1
          refine Tr.exit ?_
          refine Fin.thenExit ?_
          refine Fin.thenExit ?_
          refine Fin.blockOut ?_
          have hk : k = 3 := by omega
          subst hk
          exact Fin.reach (()) (trivial) (.cons rfl (fun _ _ h => h) .nil) (.same rfl (.same rfl (.same rfl (.same rfl (.same rfl (.same rfl (.same rfl (.same rfl .nil))))))))
    case jk9 =>
      intro u hI
      refine Tr.seq ?_
      refine Tr.region ?_
      refine TrL.stepS 43 (.plain rfl (.move rfl (.of rfl))) rfl rfl ?_
      refine TrL.stepS 44 (.plain rfl (.rem rfl (.of rfl) (.of rfl) (by omega))) rfl rfl ?_
      refine TrL.stepS 45 (.plain rfl (.move rfl (.of rfl))) rfl rfl ?_
      refine TrL.stepS 46 (.plain rfl (.move rfl (.of rfl))) rfl rfl ?_
      refine TrL.stepS 47 (.plain rfl (.move rfl (.of rfl))) rfl rfl ?_
      refine TrL.stepS 48 (.plain rfl (.build rfl (.cons (.of rfl) (.cons (.of rfl) (.cons (.of rfl) (.cons (.of rfl) .nil)))) (T.bd30_0_1_2_3 _ _ _ _))) rfl rfl ?_
      refine TrL.allocS 20 (zs := [.int .u8 0, .int .i64 0, .int .i64 0, .int .i64 0]) rfl rfl (by kernel_rfl) 20 rfl rfl rfl fun b20 => ?_
      refine TrL.storeW 20 (vs := [_, _, _, _]) rfl rfl rfl (.of rfl) (.of rfl) rfl rfl T.sz30 rfl rfl ?_
      refine TrL.nil ?_
      refine Fin.keepG (Γ' := [(0, _), (1, _), (2, _), (3, _), (4, _), (6, _), (7, _), (17, _), (20, _)]) (.same rfl (.same rfl (.same rfl (.same rfl (.same rfl (.same rfl (.same rfl (.same rfl (.same rfl .nil))))))))) ?_
      refine Fin.next ?_
      refine Tr.seqJ (γ := Int) (fun _ => True) (fun s' => [(10, Blk b10 [.int .i64 (c0.tdiv 2), .int .i64 (c1.tdiv 2), .int .i64 (c2.tdiv 2), .int .i64 (c3.tdiv 2), .int .i64 (c4.tdiv 2), .int .i64 (c5.tdiv 2)] 28), (20, Blk b20 [.int .u8 (kd.tmod 5), .int .i64 s', .int .i64 l, .int .i64 g] 30)]) (fun s' => [(4, is (.int .i64 t)), (6, is (.int .i64 lt)), (7, Lst (intR .i64) ms), (17, is (.pointer (some ⟨b10, 0, none⟩))), (20, is (.pointer (some ⟨b20, 0, none⟩)))]) ?jx12 ?jk12
      case jx12 =>
        refine Tr.seq ?_
        refine Tr.region ?_
        refine TrL.stepS 49 (.plain rfl (.fieldP rfl (.of rfl) T.fl30_0)) rfl rfl ?_
        refine TrL.stepS 50 (.plain rfl (.loadB 20 rfl (.of rfl) rfl rfl rfl T.sc5)) rfl rfl ?_
        refine TrL.stepS 51 (.plain rfl (.eql rfl (.of rfl) (.of rfl))) rfl rfl ?_
        refine TrL.stepS 52 (.plain rfl (.move rfl (.of rfl))) rfl rfl ?_
        refine TrL.stepS 53 (.guarded rfl rfl rfl fun hg => .fieldP rfl (.of rfl) T.fl30_1) rfl rfl ?_
        refine TrL.stepS 54 (.guarded rfl rfl rfl fun hg => .loadB 20 rfl (.cond rfl hg) rfl rfl rfl T.sc2) rfl rfl ?_
        refine TrL.stepS 55 (.guarded rfl rfl rfl fun hg => .gtr rfl (.cond rfl hg) (.of rfl)) rfl rfl ?_
        refine TrL.stepS 56 (.plain rfl (.and rfl (.of rfl) (.cond rfl fun h => h))) rfl rfl ?_
        refine TrL.stepS 57 (.plain rfl (.move rfl (.of rfl))) rfl rfl ?_
        refine TrL.stepS 58 (.guarded rfl rfl rfl fun hg => .fieldP rfl (.of rfl) T.fl30_1) rfl rfl ?_
        refine TrL.stepS 59 (.guarded rfl rfl rfl fun hg => .loadB 20 rfl (.cond rfl hg) rfl rfl rfl T.sc2) rfl rfl ?_
        refine TrL.stepS 60 (.guarded rfl rfl rfl fun hg => .leq rfl (.cond rfl hg) (.of rfl)) rfl rfl ?_
        refine TrL.stepS 61 (.plain rfl (.and rfl (.of rfl) (.cond rfl fun h => h))) rfl rfl ?_
        refine TrL.nil ?_
        refine Fin.keepG (Γ' := [(0, _), (1, _), (2, _), (3, _), (4, _), (6, _), (7, _), (17, _), (20, _), (61, _)]) (.same rfl (.same rfl (.same rfl (.same rfl (.same rfl (.same rfl (.same rfl (.same rfl (.same rfl (.same rfl .nil)))))))))) ?_
        refine Fin.next ?_
        refine Tr.cond rfl (fun hb2 => ?_) (fun hb2 => ?_)
        · try simp only [decide_eq_true_eq, decide_eq_false_iff_not, beq_iff_eq, beq_eq_false_iff_ne, bne_iff_ne, bne_eq_false_iff_eq, Bool.and_eq_true, Bool.and_eq_false_iff, Bool.or_eq_true, Bool.or_eq_false_iff, Bool.not_eq_true', Bool.not_eq_false', gt_iff_lt, ge_iff_le, Int.not_lt, Int.not_le, ne_eq, Int.natCast_nonneg, true_and, and_true, Decidable.not_not, not_true_eq_false, not_false_eq_true] at hb2
          refine Tr.region ?_
          refine TrL.stepS 62 (.plain rfl (.fieldP rfl (.of rfl) T.fl30_1)) rfl rfl ?_
          refine TrL.stepS 63 (.plain rfl (.loadB 20 rfl (.of rfl) rfl rfl rfl T.sc2)) rfl rfl ?_
          refine TrL.stepS 64 (.plain rfl (.rem rfl (.of rfl) (.of rfl) (by omega))) rfl rfl ?_
          refine TrL.stepS 65 (.plain rfl (.fieldP rfl (.of rfl) T.fl30_1)) rfl rfl ?_
          refine TrL.store1 20 rfl rfl rfl (.of rfl) (.of rfl) rfl rfl rfl T.sz2 rfl rfl ?_
          refine TrL.nil ?_
          refine Fin.keepG (Γ' := [(0, _), (1, _), (2, _), (3, _), (4, _), (6, _), (7, _), (17, _), (20, _), (61, _)]) (.same rfl (.same rfl (.same rfl (.same rfl (.same rfl (.same rfl (.same rfl (.same rfl (.same rfl (.same rfl .nil)))))))))) ?_
          exact Fin.reach (_) (trivial) (.same rfl (.same rfl .nil)) (.same rfl (.same rfl (.same rfl (.same rfl (.same rfl .nil)))))
        · try simp only [decide_eq_true_eq, decide_eq_false_iff_not, beq_iff_eq, beq_eq_false_iff_ne, bne_iff_ne, bne_eq_false_iff_eq, Bool.and_eq_true, Bool.and_eq_false_iff, Bool.or_eq_true, Bool.or_eq_false_iff, Bool.not_eq_true', Bool.not_eq_false', gt_iff_lt, ge_iff_le, Int.not_lt, Int.not_le, ne_eq, Int.natCast_nonneg, true_and, and_true, Decidable.not_not, not_true_eq_false, not_false_eq_true] at hb2
          refine Tr.skip ?_
          exact Fin.reach (_) (trivial) (.same rfl (.same rfl .nil)) (.same rfl (.same rfl (.same rfl (.same rfl (.same rfl .nil)))))
      case jk12 =>
        intro s' hI
        refine Tr.seq ?_
        refine Tr.region ?_
        refine TrL.stepS 66 (.plain rfl (.move rfl (.of rfl))) rfl rfl ?_
        refine TrL.stepS 67 (.plain rfl (.rem rfl (.of rfl) (.of rfl) (by omega))) rfl rfl ?_
        refine TrL.stepS 4 (.plain rfl (.assign rfl (.of rfl))) rfl rfl ?_
        refine TrL.nil ?_
        refine Fin.keepG (Γ' := [(4, _), (6, _), (7, _), (17, _), (20, _)]) (.same rfl (.same rfl (.same rfl (.same rfl (.same rfl .nil))))) ?_
        refine Fin.next ?_
        refine Tr.seq ?_
        refine Tr.region ?_
        refine TrL.stepS 68 (.plain rfl (.indexArrP rfl (.of rfl) (.of rfl) Try.underlying28 T.sz27 (by omega) (by omega))) rfl rfl ?_
        refine TrL.stepS 69 (.plain rfl (.fieldP rfl (.of rfl) T.fl27_0)) rfl rfl ?_
        refine TrL.stepS 70 (.plain rfl (.loadB 10 rfl (.of rfl) rfl rfl rfl T.sc2)) rfl rfl ?_
        refine TrL.stepS 71 (.plain rfl (.indexArrP rfl (.of rfl) (.of rfl) Try.underlying28 T.sz27 (by omega) (by omega))) rfl rfl ?_
        refine TrL.stepS 72 (.plain rfl (.fieldP rfl (.of rfl) T.fl27_0)) rfl rfl ?_
        refine TrL.stepS 73 (.plain rfl (.loadB 10 rfl (.of rfl) rfl rfl rfl T.sc2)) rfl rfl ?_
        refine TrL.stepS 74 (.plain rfl (.indexArrP rfl (.of rfl) (.of rfl) Try.underlying28 T.sz27 (by omega) (by omega))) rfl rfl ?_
        refine TrL.stepS 75 (.plain rfl (.fieldP rfl (.of rfl) T.fl27_0)) rfl rfl ?_
        refine TrL.stepS 76 (.plain rfl (.loadB 10 rfl (.of rfl) rfl rfl rfl T.sc2)) rfl rfl ?_
        refine TrL.stepS 77 (.plain rfl (.min3 rfl (.of rfl) (.of rfl) (.of rfl))) rfl rfl ?_
        refine TrL.stepS 78 (.plain rfl (.indexArrP rfl (.of rfl) (.of rfl) Try.underlying28 T.sz27 (by omega) (by omega))) rfl rfl ?_
        refine TrL.stepS 79 (.plain rfl (.fieldP rfl (.of rfl) T.fl27_1)) rfl rfl ?_
        refine TrL.stepS 80 (.plain rfl (.loadB 10 rfl (.of rfl) rfl rfl rfl T.sc2)) rfl rfl ?_
        refine TrL.stepS 81 (.plain rfl (.indexArrP rfl (.of rfl) (.of rfl) Try.underlying28 T.sz27 (by omega) (by omega))) rfl rfl ?_
        refine TrL.stepS 82 (.plain rfl (.fieldP rfl (.of rfl) T.fl27_1)) rfl rfl ?_
        refine TrL.stepS 83 (.plain rfl (.loadB 10 rfl (.of rfl) rfl rfl rfl T.sc2)) rfl rfl ?_
        refine TrL.stepS 84 (.plain rfl (.indexArrP rfl (.of rfl) (.of rfl) Try.underlying28 T.sz27 (by omega) (by omega))) rfl rfl ?_
        refine TrL.stepS 85 (.plain rfl (.fieldP rfl (.of rfl) T.fl27_1)) rfl rfl ?_
        refine TrL.stepS 86 (.plain rfl (.loadB 10 rfl (.of rfl) rfl rfl rfl T.sc2)) rfl rfl ?_
        refine TrL.stepS 87 (.plain rfl (.max3 rfl (.of rfl) (.of rfl) (.of rfl))) rfl rfl ?_
        refine TrL.stepS 88 (.plain rfl (.build rfl (.cons (.of rfl) (.cons (.of rfl) .nil)) (T.bd27_0_1 _ _))) rfl rfl ?_
        refine TrL.allocS 21 (zs := [.int .i64 0, .int .i64 0]) rfl rfl (by kernel_rfl) 21 rfl rfl rfl fun b21 => ?_
        refine TrL.storeW 21 (vs := [_, _]) rfl rfl rfl (.of rfl) (.of rfl) rfl rfl T.sz27 rfl rfl ?_
        refine TrL.nil ?_
        refine Fin.keepG (Γ' := [(4, _), (6, _), (7, _), (17, _), (20, _), (21, _)]) (.same rfl (.same rfl (.same rfl (.same rfl (.same rfl (.same rfl .nil)))))) ?_
        refine Fin.next ?_
        refine Tr.seq ?_
        refine Tr.seq ?_
        refine Tr.regionK T.mixed (by kernel_rfl) (by kernel_rfl) ?_
        refine ChainK.consS 89 (.plain rfl (.indexArrP rfl (.of rfl) (.of rfl) Try.underlying28 T.sz27 (by omega) (by omega))) rfl ?_
        refine ChainK.consS 90 (.plain rfl (.loadBN 10 (k := 2) (ds := [_, _]) rfl (.of rfl) rfl rfl rfl T.ag27 rfl)) rfl ?_
        refine ChainK.consS 91 (.plain rfl (.indexArrP rfl (.of rfl) (.of rfl) Try.underlying28 T.sz27 (by omega) (by omega))) rfl ?_
        refine ChainK.consS 92 (.plain rfl (.loadBN 10 (k := 2) (ds := [_, _]) rfl (.of rfl) rfl rfl rfl T.ag27 rfl)) rfl ?_
        refine ChainK.consS 93 (.plain rfl (.indexArrP rfl (.of rfl) (.of rfl) Try.underlying28 T.sz27 (by omega) (by omega))) rfl ?_
        refine ChainK.consS 94 (.plain rfl (.loadBN 10 (k := 2) (ds := [_, _]) rfl (.of rfl) rfl rfl rfl T.ag27 rfl)) rfl ?_
        refine ChainK.consS 95 (.plain rfl (.slice (K := spanR) (xs := [_, _, _]) rfl (.cons (.map (.of rfl) (spanR_elem _ _)) (.cons (.map (.of rfl) (spanR_elem _ _)) (.cons (.map (.of rfl) (spanR_elem _ _)) .nil))) Try.underlying60 T.sz27 T.zb27 rfl (by decide))) rfl ?_
        refine ChainK.consS 96 (.plain rfl (.call rfl (F10 _ (by simp)) (.cons (.of rfl) .nil))) rfl ?_
        refine ChainK.consS 97 (.plain rfl (.loadBN 21 (k := 2) (ds := [_, _]) rfl (.of rfl) rfl rfl rfl T.ag27 rfl)) rfl ?_
        refine ChainK.consS 98 (.plain rfl (.neqS rfl (.of rfl) (.of rfl) (by kernel_rfl) (T.eq27 _ _ _ _))) rfl ?_
        refine ChainK.consS 99 (.plain rfl (.move rfl (.of rfl))) rfl ?_
        refine ChainK.consS 100 (.guarded rfl rfl rfl fun hg => .indexArrP rfl (.of rfl) (.of rfl) Try.underlying28 T.sz27 (by first | omega | (simp at hg; omega) | (simp at hg hp; omega)) (by first | omega | (simp at hg; omega) | (simp at hg hp; omega))) rfl ?_
        refine ChainK.consS 101 (.guarded rfl rfl rfl fun hg => .loadBN 10 (k := 2) (ds := [_, _]) rfl (.cond rfl hg) rfl rfl rfl T.ag27 rfl) rfl ?_
        refine ChainK.consS 102 (.guarded rfl rfl rfl fun hg => .indexArrP rfl (.of rfl) (.of rfl) Try.underlying28 T.sz27 (by first | omega | (simp at hg; omega) | (simp at hg hp; omega)) (by first | omega | (simp at hg; omega) | (simp at hg hp; omega))) rfl ?_
        refine ChainK.consS 103 (.guarded rfl rfl rfl fun hg => .loadBN 10 (k := 2) (ds := [_, _]) rfl (.cond rfl hg) rfl rfl rfl T.ag27 rfl) rfl ?_
        refine ChainK.consS 104 (.guarded rfl rfl rfl fun hg => .call rfl (F11 ..) (.cons (.cond rfl hg) (.cons (.cond rfl hg) .nil))) rfl ?_
        refine ChainK.consS 105 (.guarded rfl rfl rfl fun hg => .indexArrP rfl (.of rfl) (.of rfl) Try.underlying28 T.sz27 (by first | omega | (simp at hg; omega) | (simp at hg hp; omega)) (by first | omega | (simp at hg; omega) | (simp at hg hp; omega))) rfl ?_
        refine ChainK.consS 106 (.guarded rfl rfl rfl fun hg => .loadBN 10 (k := 2) (ds := [_, _]) rfl (.cond rfl hg) rfl rfl rfl T.ag27 rfl) rfl ?_
        refine ChainK.consS 107 (.guarded rfl rfl rfl fun hg => .indexArrP rfl (.of rfl) (.of rfl) Try.underlying28 T.sz27 (by first | omega | (simp at hg; omega) | (simp at hg hp; omega)) (by first | omega | (simp at hg; omega) | (simp at hg hp; omega))) rfl ?_
        refine ChainK.consS 108 (.guarded rfl rfl rfl fun hg => .loadBN 10 (k := 2) (ds := [_, _]) rfl (.cond rfl hg) rfl rfl rfl T.ag27 rfl) rfl ?_
        refine ChainK.consS 109 (.guarded rfl rfl rfl fun hg => .call rfl (F12 ..) (.cons (.cond rfl hg) (.cons (.cond rfl hg) .nil))) rfl ?_
        refine ChainK.consS 110 (.guarded rfl rfl rfl fun hg => .neqB rfl (.cond rfl hg) (.cond rfl hg) Try.underlying4) rfl ?_
        refine ChainK.consS 111 (.plain rfl (.or rfl (.of rfl) (.cond rfl fun h => h))) rfl ?_
        refine ChainK.consS 112 (.plain rfl (.move rfl (.of rfl))) rfl ?_
        refine ChainK.consS 113 (.guarded rfl rfl rfl fun hg => .indexArrP rfl (.of rfl) (.of rfl) Try.underlying28 T.sz27 (by first | omega | (simp at hg; omega) | (simp at hg hp; omega)) (by first | omega | (simp at hg; omega) | (simp at hg hp; omega))) rfl ?_
        refine ChainK.consS 114 (.guarded rfl rfl rfl fun hg => .loadBN 10 (k := 2) (ds := [_, _]) rfl (.cond rfl hg) rfl rfl rfl T.ag27 rfl) rfl ?_
        refine ChainK.consS 115 (.guarded rfl rfl rfl fun hg => .indexArrP rfl (.of rfl) (.of rfl) Try.underlying28 T.sz27 (by first | omega | (simp at hg; omega) | (simp at hg hp; omega)) (by first | omega | (simp at hg; omega) | (simp at hg hp; omega))) rfl ?_
        refine ChainK.consS 116 (.guarded rfl rfl rfl fun hg => .loadBN 10 (k := 2) (ds := [_, _]) rfl (.cond rfl hg) rfl rfl rfl T.ag27 rfl) rfl ?_
        refine ChainK.consS 117 (.guarded rfl rfl rfl fun hg => .call rfl (F11 ..) (.cons (.cond rfl hg) (.cons (.cond rfl hg) .nil))) rfl ?_
        refine ChainK.consS 118 (.guarded rfl rfl rfl fun hg => .indexArrP rfl (.of rfl) (.of rfl) Try.underlying28 T.sz27 (by first | omega | (simp at hg; omega) | (simp at hg hp; omega)) (by first | omega | (simp at hg; omega) | (simp at hg hp; omega))) rfl ?_
        refine ChainK.consS 119 (.guarded rfl rfl rfl fun hg => .loadBN 10 (k := 2) (ds := [_, _]) rfl (.cond rfl hg) rfl rfl rfl T.ag27 rfl) rfl ?_
        refine ChainK.consS 120 (.guarded rfl rfl rfl fun hg => .indexArrP rfl (.of rfl) (.of rfl) Try.underlying28 T.sz27 (by first | omega | (simp at hg; omega) | (simp at hg hp; omega)) (by first | omega | (simp at hg; omega) | (simp at hg hp; omega))) rfl ?_
        refine ChainK.consS 121 (.guarded rfl rfl rfl fun hg => .loadBN 10 (k := 2) (ds := [_, _]) rfl (.cond rfl hg) rfl rfl rfl T.ag27 rfl) rfl ?_
        refine ChainK.consS 122 (.guarded rfl rfl rfl fun hg => .call rfl (F12 ..) (.cons (.cond rfl hg) (.cons (.cond rfl hg) .nil))) rfl ?_
        refine ChainK.consS 123 (.guarded rfl rfl rfl fun hg => .neqB rfl (.cond rfl hg) (.cond rfl hg) Try.underlying4) rfl ?_
        refine ChainK.consS 124 (.plain rfl (.or rfl (.of rfl) (.cond rfl fun h => h))) rfl ?_
        refine ChainK.consS 125 (.plain rfl (.move rfl (.of rfl))) rfl ?_
        refine ChainK.consS 126 (.guarded rfl rfl rfl fun hg => .indexArrP rfl (.of rfl) (.of rfl) Try.underlying28 T.sz27 (by first | omega | (simp at hg; omega) | (simp at hg hp; omega)) (by first | omega | (simp at hg; omega) | (simp at hg hp; omega))) rfl ?_
        refine ChainK.consS 127 (.guarded rfl rfl rfl fun hg => .loadBN 10 (k := 2) (ds := [_, _]) rfl (.cond rfl hg) rfl rfl rfl T.ag27 rfl) rfl ?_
        refine ChainK.consS 128 (.guarded rfl rfl rfl fun hg => .move rfl (.of rfl)) rfl ?_
        refine ChainK.consS 129 (.guarded rfl rfl rfl fun hg => .call rfl (F13 ..) (.cons (.cond rfl hg) (.cons (.cond rfl hg) .nil))) rfl ?_
        refine ChainK.consS 130 (.guarded rfl rfl rfl fun hg => .move rfl (.of rfl)) rfl ?_
        refine ChainK.consS 131 (.guarded rfl rfl rfl fun hg => .indexArrP rfl (.of rfl) (.of rfl) Try.underlying28 T.sz27 (by first | omega | (simp at hg; omega) | (simp at hg hp; omega)) (by first | omega | (simp at hg; omega) | (simp at hg hp; omega))) rfl ?_
        refine ChainK.consS 132 (.guarded rfl rfl rfl fun hg => .fieldP rfl (.cond rfl hg) T.fl27_0) rfl ?_
        refine ChainK.consS 133 (.guarded rfl rfl rfl fun hg => .loadB 10 rfl (.cond rfl hg) rfl rfl rfl T.sc2) rfl ?_
        refine ChainK.consS 134 (.guarded rfl rfl rfl fun hg => .geq rfl (.cond rfl hg) (.cond rfl hg)) rfl ?_
        refine ChainK.consS 135 (.guarded rfl rfl rfl fun hg => .move rfl (.cond rfl hg)) rfl ?_
        refine ChainK.consS 136 (.guarded2 rfl rfl rfl fun hp hg => .move rfl (.of rfl)) rfl ?_
        refine ChainK.consS 137 (.guarded2 rfl rfl rfl fun hp hg => .indexArrP rfl (.of rfl) (.of rfl) Try.underlying28 T.sz27 (by first | omega | (simp at hg; omega) | (simp at hg hp; omega)) (by first | omega | (simp at hg; omega) | (simp at hg hp; omega))) rfl ?_
        refine ChainK.consS 138 (.guarded2 rfl rfl rfl fun hp hg => .fieldP rfl (.cond rfl ⟨hp, hg⟩) T.fl27_1) rfl ?_
        refine ChainK.consS 139 (.guarded2 rfl rfl rfl fun hp hg => .loadB 10 rfl (.cond rfl ⟨hp, hg⟩) rfl rfl rfl T.sc2) rfl ?_
        refine ChainK.consS 140 (.guarded2 rfl rfl rfl fun hp hg => .lss rfl (.cond rfl ⟨hp, hg⟩) (.cond rfl ⟨hp, hg⟩)) rfl ?_
        refine ChainK.consS 141 (.guarded rfl rfl rfl fun hg => .and rfl (.cond rfl hg) (.cond rfl fun h => ⟨hg, h⟩)) rfl ?_
        refine ChainK.consS 142 (.guarded rfl rfl rfl fun hg => .neqB rfl (.cond rfl hg) (.cond rfl hg) Try.underlying4) rfl ?_
        refine ChainK.consS 143 (.plain rfl (.or rfl (.of rfl) (.cond rfl fun h => h))) rfl ?_
        refine ChainK.nil ?_
        refine Fin.keepG (Γ' := [(4, _), (6, _), (7, _), (17, _), (20, _), (21, _), (143, _)]) (.same rfl (.same rfl (.same rfl (.same rfl (.same rfl (.same rfl (.same rfl .nil))))))) ?_
        refine Fin.next ?_
        refine Tr.cond rfl (fun hb3 => ?_) (fun hb3 => ?_)
        · exact absurd hb3 (by simp [tog]; try omega)
        · try simp only [decide_eq_true_eq, decide_eq_false_iff_not, beq_iff_eq, beq_eq_false_iff_ne, bne_iff_ne, bne_eq_false_iff_eq, Bool.and_eq_true, Bool.and_eq_false_iff, Bool.or_eq_true, Bool.or_eq_false_iff, Bool.not_eq_true', Bool.not_eq_false', gt_iff_lt, ge_iff_le, Int.not_lt, Int.not_le, ne_eq, Int.natCast_nonneg, true_and, and_true, Decidable.not_not, not_true_eq_false, not_false_eq_true] at hb3
          refine Tr.skip ?_
          refine Fin.next ?_
          refine Tr.seq ?_
          refine Tr.region ?_
          refine TrL.stepS 144 (.plain rfl (.loadBN 20 (k := 4) (ds := [_, _, _, _]) rfl (.of rfl) rfl rfl rfl T.ag30 rfl)) rfl rfl ?_
          refine TrL.stepS 145 (.plain rfl (.move rfl (.of rfl))) rfl rfl ?_
          refine TrL.stepS 146 (.plain rfl (.indexArrP rfl (.of rfl) (.of rfl) Try.underlying28 T.sz27 (by omega) (by omega))) rfl rfl ?_
          refine TrL.stepS 147 (.plain rfl (.loadBN 10 (k := 2) (ds := [_, _]) rfl (.of rfl) rfl rfl rfl T.ag27 rfl)) rfl rfl ?_
          refine TrL.stepS 148 (.plain rfl (.call rfl (F14 _ _ _ _ _ _ _ (by omega) (by omega)) (.cons (.of rfl) (.cons (.of rfl) (.cons (.of rfl) .nil))))) rfl rfl ?_
          refine TrL.stepS 149 (.plain rfl (.move rfl (.of rfl))) rfl rfl ?_
          refine TrL.stepS 150 (.guarded rfl rfl rfl fun hg => .move rfl (.of rfl)) rfl rfl ?_
          refine TrL.stepS 151 (.guarded rfl rfl rfl fun hg => .move rfl (.of rfl)) rfl rfl ?_
          refine TrL.stepS 152 (.guarded rfl rfl rfl fun hg => .move rfl (.of rfl)) rfl rfl ?_
          refine TrL.stepS 153 (.guarded rfl rfl rfl fun hg => .indexArrP rfl (.of rfl) (.of rfl) Try.underlying28 T.sz27 (by first | omega | (simp at hg; omega) | (simp at hg hp; omega)) (by first | omega | (simp at hg; omega) | (simp at hg hp; omega))) rfl rfl ?_
          refine TrL.stepS 154 (.guarded rfl rfl rfl fun hg => .loadBN 10 (k := 2) (ds := [_, _]) rfl (.cond rfl hg) rfl rfl rfl T.ag27 rfl) rfl rfl ?_
          refine TrL.stepS 155 (.guarded rfl rfl rfl fun hg => .call rfl (F15 _ _ _ _ ms hml) (.cons (.cond rfl hg) (.cons (.cond rfl hg) (.cons (.cond rfl hg) (.cons (.cond rfl hg) .nil))))) rfl rfl ?_
          refine TrL.stepS 156 (.plain rfl (.and rfl (.of rfl) (.cond rfl fun h => h))) rfl rfl ?_
          refine TrL.stepS 157 (.plain rfl (.move rfl (.of rfl))) rfl rfl ?_
          refine TrL.stepS 158 (.guarded rfl rfl rfl fun hg => .call rfl F9 .nil) rfl rfl ?_
          refine TrL.stepS 159 (.plain rfl (.and rfl (.of rfl) (.cond rfl fun h => h))) rfl rfl ?_
          refine TrL.stepS 16 (.plain rfl (.assign rfl (.of rfl))) rfl rfl ?_
          refine TrL.nil ?_
          refine Fin.keepG (Γ' := [(4, _), (6, _), (7, _), (16, _), (17, _), (20, _), (21, _), (143, _)]) (.same rfl (.same rfl (.same rfl (.same rfl (.same rfl (.same rfl (.same rfl (.same rfl .nil)))))))) ?_
          refine Fin.next ?_
          refine Tr.ret ?_
          refine Fin.retI (rs := [_]) (Rs' := [is (.bool true)]) rfl (.cons (.tmp rfl) .nil) ?_
          exact (.cons (L.iv rfl) .nil)

end Go.Proofs.Ytemkogoclljhpaa