import Derived.Test.YtemkogoclljhpaaS3
namespace Go.Proofs.Ytemkogoclljhpaa
open Go Go.Proofs.Ytemkogoclljhpaa.L
set_option linter.unusedVariables false
set_option linter.unusedSimpArgs false

namespace T
theorem S4bd122  : Try.prog.built 122 [] = some #[.int .i64 0, .int .i64 0, .int .i64 0, .int .i64 0] := by kernel_rfl
end T


def zk (ys : List Ag) (k : Nat) : List Ag := (ys.take k).filter fun a => !blankA a
theorem zk_len (ys : List Ag) (k : Nat) : (zk ys k).length ≤ k := Nat.le_trans (List.length_filter_le _ _) (by rw [List.length_take]; omega)
theorem zk_same {ys : List Ag} {k : Nat} {a : Ag} (h : ys[k]? = some a) (hb : blankA a = true) : zk ys (k + 1) = zk ys k := by
  unfold zk; rw [filter_take h, hb]; simp
theorem zk_more {ys : List Ag} {k : Nat} {a : Ag} (h : ys[k]? = some a) (hb : blankA a = false) : zk ys (k + 1) = zk ys k ++ [a] := by
  unfold zk; rw [filter_take h, hb]; simp
theorem zk_mem {ys : List Ag} {k : Nat} {a : Ag} (h : a ∈ zk ys k) : a ∈ ys := List.mem_of_mem_take (List.mem_filter.1 h).1
theorem zk_all {ys : List Ag} {k : Nat} (h : ys.length ≤ k) : zk ys k = ys.filter fun a => !blankA a := by unfold zk; rw [List.take_of_length_le h]
theorem map_nil {α β : Type} {f : α → β} {l : List α} (h : ((l.map f).length : Int) = 0) : l = [] := List.eq_nil_of_length_eq_zero (by rw [List.length_map] at h; omega)
def okA (y : Ag) : Prop := (-9223372036854775808 ≤ y.1 ∧ y.1 ≤ 9223372036854775807) ∧ (-9223372036854775808 ≤ y.2.1 ∧ y.2.1 ≤ 9223372036854775807)

/- tidepool/agg.Join -/
set_option maxRecDepth 100000 in
theorem F81 (ys : List Ag) (hl : ys.length ≤ 1000) (hy0 : ∀ y ∈ ys, okA y) : FnP Try.prog 81 [Lst aggR ys] (Tup [is (.agg #[.int .i64 (joinOf ys).1, .int .i64 (joinOf ys).2.1, .int .i64 (joinOf ys).2.2.1, .int .i64 (joinOf ys).2.2.2]), is (.int .i64 (if joinE ys = true then 0 else 30))]) := by
  refine FnP.mk' Try.func81 T.nm81 rfl (N := 66) rfl rfl fun B hB hκ => ?_
  refine Tr.seq ?_
  refine Tr.region ?_
  refine TrL.allocS 20 (zs := [.int .i64 0, .int .i64 0, .int .i64 0, .int .i64 0]) rfl rfl (by kernel_rfl) 2 rfl rfl rfl fun b20 => ?_
  refine TrL.stepS 3 (.plain rfl (.assign rfl (.of rfl))) rfl rfl ?_
  refine TrL.nil ?_
  refine Fin.keepG (Γ' := [(0, _), (2, _)]) (.same rfl (.same rfl .nil)) ?_
  refine Fin.next ?_
  refine Tr.seq ?_
  refine Tr.region ?_
  refine TrL.stepS 4 (.plain rfl (.assign rfl (.of rfl))) rfl rfl ?_
  refine TrL.stepS 5 (.plain rfl (.assign rfl (.of rfl))) rfl rfl ?_
  refine TrL.nil ?_
  refine Fin.next ?_
  refine Tr.seq ?_
  refine Tr.region ?_
  refine TrL.allocS 21 (zs := [.int .i64 0, .int .i64 0, .int .i64 0, .int .i64 0]) rfl rfl (by kernel_rfl) 6 rfl rfl rfl fun b21 => ?_
  refine TrL.nil ?_
  refine Fin.next ?_
  refine Tr.seq ?_
  refine Tr.seq ?_
  refine Tr.own0 30 (intR .i64) 2 rfl ?_
  refine Tr.own0 31 (intR .i64) 2 rfl ?_
  refine Tr.region ?_
  refine TrL.stepS 11 (.plain rfl (.move rfl (.of rfl))) rfl rfl ?_
  refine TrL.stepS 12 (.plain rfl (.len rfl (.of rfl) Try.underlying210)) rfl rfl ?_
  refine TrL.stepS 13 (.plain rfl (.move rfl (.of rfl))) rfl rfl ?_
  refine TrL.nil ?_
  refine Fin.keepG (Γ' := [(2, _), (4, _), (5, _), (6, _), (11, _), (12, _), (13, _)]) (.same rfl (.same rfl (.same rfl (.same rfl (.same rfl (.same rfl (.same rfl .nil))))))) ?_
  refine Fin.next ?_
  refine Tr.block ?_
  refine Tr.loopK (γ := Nat × Value × Value × Int × Int × Int × Int) (Γk := [(2, _), (6, _), (11, _), (12, _)]) (Mk := [(20, _)]) (.same rfl (.same rfl (.same rfl (.same rfl .nil)))) (.same rfl .nil) (fun p => p.1 ≤ ys.length ∧ p.2.2.2.2.2.1 = mn ((zk ys p.1).map (·.2.2.1)) ∧ p.2.2.2.2.2.2 = mx ((zk ys p.1).map (·.2.2.2))) (fun p => fun r => (30, Own (intR .i64) 2 p.2.1 ((zk ys p.1).map (·.1))) :: (31, Own (intR .i64) 2 p.2.2.1 ((zk ys p.1).map (·.2.1))) :: (21, Blk b21 [.int .i64 p.2.2.2.1, .int .i64 p.2.2.2.2.1, .int .i64 p.2.2.2.2.2.1, .int .i64 p.2.2.2.2.2.2] 122) :: r) (fun p => fun r => (4, is p.2.1) :: (5, is p.2.2.1) :: (13, is (.int .i64 p.1)) :: r) (fun p => ys.length - p.1) ((0, .slice none 0 0, .slice none 0 0, 0, 0, 0, 0)) ?h0_0 ?hM_0 ?hG_0 ?hl_0
  case h0_0 => exact ⟨Nat.zero_le _, rfl, rfl⟩
  case hM_0 => exact (.same rfl (.same rfl (.same rfl (.same rfl .nil))))
  case hG_0 => exact (.eq rfl (by first | rfl | (congr 1; first | done | omega | (push_cast; omega) | (push_cast; rfl))) (.eq rfl (by first | rfl | (congr 1; first | done | omega | (push_cast; omega) | (push_cast; rfl))) (.eq rfl (by first | rfl | (congr 1; first | done | omega | (push_cast; omega) | (push_cast; rfl))) (.same rfl (.same rfl (.same rfl (.same rfl .nil)))))))
  case hl_0 =>
    intro p hI
    obtain ⟨k, v4, v5, oc, os, lo, hi⟩ := p
    dsimp only at hI ⊢
    obtain ⟨hk, rfl, rfl⟩ := hI
    refine Tr.seq ?_
    refine Tr.region ?_
    refine TrL.stepS 14 (.plain rfl (.lss rfl (.of rfl) (.of rfl))) rfl rfl ?_
    refine TrL.nil ?_
    refine Fin.next ?_
    refine Tr.seq ?_
    refine Tr.cond rfl (fun hb0 => ?_) (fun hb0 => ?_)
    · try simp only [decide_eq_true_eq, decide_eq_false_iff_not, beq_iff_eq, beq_eq_false_iff_ne, bne_iff_ne, bne_eq_false_iff_eq, Bool.and_eq_true, Bool.and_eq_false_iff, Bool.or_eq_true, Bool.or_eq_false_iff, Bool.not_eq_true', Bool.not_eq_false', gt_iff_lt, ge_iff_le, Int.not_lt, Int.not_le, ne_eq, Int.natCast_nonneg, true_and, and_true, Decidable.not_not, not_true_eq_false, not_false_eq_true] at hb0
      obtain ⟨a, hx⟩ := ex_get (xs := ys) (i := k) (by omega)
      have hzl := zk_len ys k
      refine Tr.skip ?_
      refine Fin.next ?_
      refine Tr.seq ?_
      refine Tr.block ?_
      refine Tr.seq ?_
      refine Tr.region ?_
      refine TrL.stepS 15 (.plain rfl (.indexE rfl (.of rfl) (.of rfl) Try.underlying210 T.sz122 (by omega) hx)) rfl rfl ?_
      refine TrL.stepS 16 (.plain rfl (.load4 rfl (.of rfl) T.ag122)) rfl rfl ?_
      refine TrL.allocS 22 (zs := [.int .i64 0, .int .i64 0, .int .i64 0, .int .i64 0]) rfl rfl (by kernel_rfl) 8 rfl rfl rfl fun b22 => ?_
      refine TrL.storeW 22 (vs := [_, _, _, _]) rfl rfl rfl (.of rfl) (.of rfl) rfl rfl T.sz122 rfl rfl ?_
      refine TrL.nil ?_
      refine Fin.keepG (Γ' := [(2, _), (4, _), (5, _), (6, _), (8, _), (11, _), (12, _), (13, _)]) (.same rfl (.same rfl (.same rfl (.same rfl (.same rfl (.same rfl (.same rfl (.same rfl .nil)))))))) ?_
      refine Fin.next ?_
      refine Tr.seq ?_
      refine Tr.seq ?_
      refine Tr.region ?_
      refine TrL.stepS 17 (.plain rfl (.loadBN 22 (k := 4) (ds := [_, _, _, _]) rfl (.of rfl) rfl rfl rfl T.ag122 rfl)) rfl rfl ?_
      refine TrL.stepS 18 (.plain rfl (.call rfl (F88 a) (.cons (.of rfl) .nil))) rfl rfl ?_
      refine TrL.nil ?_
      refine Fin.keepG (Γ' := [(2, _), (4, _), (5, _), (6, _), (8, _), (11, _), (12, _), (13, _), (18, _)]) (.same rfl (.same rfl (.same rfl (.same rfl (.same rfl (.same rfl (.same rfl (.same rfl (.same rfl .nil))))))))) ?_
      refine Fin.next ?_
      refine Tr.cond rfl (fun hb1 => ?_) (fun hb1 => ?_)
      · try simp only [decide_eq_true_eq, decide_eq_false_iff_not, beq_iff_eq, beq_eq_false_iff_ne, bne_iff_ne, bne_eq_false_iff_eq, Bool.and_eq_true, Bool.and_eq_false_iff, Bool.or_eq_true, Bool.or_eq_false_iff, Bool.not_eq_true', Bool.not_eq_false', gt_iff_lt, ge_iff_le, Int.not_lt, Int.not_le, ne_eq, Int.natCast_nonneg, true_and, and_true, Decidable.not_not, not_true_eq_false, not_false_eq_true] at hb1
        have hz := zk_same hx hb1
        refine Tr.exit ?_
        refine Fin.thenExit ?_
        refine Fin.blockOut ?_
        refine Fin.next ?_
        refine Tr.region ?_
        first | refine TrL.stepS 45 (.plain rfl (.addI L.bd_i64 rfl (.of rfl) (.of rfl) (by omega) (by omega))) rfl rfl ?_ | refine TrL.stepS 45 (.plain rfl (.add rfl (.of rfl) (.of rfl))) rfl rfl ?_
        refine TrL.stepS 13 (.plain rfl (.move rfl (.of rfl))) rfl rfl ?_
        refine TrL.nil ?_
        refine Fin.keepG (Γ' := [(2, _), (4, _), (5, _), (6, _), (11, _), (12, _), (13, _)]) (.same rfl (.same rfl (.same rfl (.same rfl (.same rfl (.same rfl (.same rfl .nil))))))) ?_
        exact Fin.again ((k + 1, v4, v5, oc, os, mn ((zk ys k).map (·.2.2.1)), mx ((zk ys k).map (·.2.2.2)))) (⟨by dsimp only; omega, by show _ = mn ((zk ys (k + 1)).map (·.2.2.1)); rw [hz], by show _ = mx ((zk ys (k + 1)).map (·.2.2.2)); rw [hz]⟩) (by dsimp only; omega) (.cons rfl (fun F L w h => by dsimp only; rw [hz]; exact h) (.cons rfl (fun F L w h => by dsimp only; rw [hz]; exact h) (.same rfl (.same rfl .nil)))) (.eq rfl (by first | rfl | (congr 1; first | done | omega | (push_cast; omega) | (push_cast; rfl))) (.eq rfl (by first | rfl | (congr 1; first | done | omega | (push_cast; omega) | (push_cast; rfl))) (.eq rfl (by first | rfl | (congr 1; first | done | omega | (push_cast; omega) | (push_cast; rfl))) (.same rfl (.same rfl (.same rfl (.same rfl .nil)))))))
      · try simp only [decide_eq_true_eq, decide_eq_false_iff_not, beq_iff_eq, beq_eq_false_iff_ne, bne_iff_ne, bne_eq_false_iff_eq, Bool.and_eq_true, Bool.and_eq_false_iff, Bool.or_eq_true, Bool.or_eq_false_iff, Bool.not_eq_true', Bool.not_eq_false', gt_iff_lt, ge_iff_le, Int.not_lt, Int.not_le, ne_eq, Int.natCast_nonneg, true_and, and_true, Decidable.not_not, not_true_eq_false, not_false_eq_true] at hb1
        have hz := zk_more hx hb1
        refine Tr.skip ?_
        refine Fin.next ?_
        refine Tr.seq ?_
        refine Tr.seq ?_
        refine Tr.region ?_
        refine TrL.stepS 19 (.plain rfl (.move rfl (.of rfl))) rfl rfl ?_
        refine TrL.stepS 20 (.plain rfl (.lenV 31 rfl (.of rfl) rfl Own.view rfl Try.underlying24)) rfl rfl ?_
        refine TrL.stepS 21 (.plain rfl (.eql rfl (.of rfl) (.of rfl))) rfl rfl ?_
        refine TrL.nil ?_
        refine Fin.keepG (Γ' := [(2, _), (4, _), (5, _), (6, _), (8, _), (11, _), (12, _), (13, _), (21, _)]) (.same rfl (.same rfl (.same rfl (.same rfl (.same rfl (.same rfl (.same rfl (.same rfl (.same rfl .nil))))))))) ?_
        refine Fin.next ?_
        refine Tr.cond rfl (fun hb2 => ?_) (fun hb2 => ?_)
        · try simp only [decide_eq_true_eq, decide_eq_false_iff_not, beq_iff_eq, beq_eq_false_iff_ne, bne_iff_ne, bne_eq_false_iff_eq, Bool.and_eq_true, Bool.and_eq_false_iff, Bool.or_eq_true, Bool.or_eq_false_iff, Bool.not_eq_true', Bool.not_eq_false', gt_iff_lt, ge_iff_le, Int.not_lt, Int.not_le, ne_eq, Int.natCast_nonneg, true_and, and_true, Decidable.not_not, not_true_eq_false, not_false_eq_true] at hb2
          have hze := map_nil hb2
          refine Tr.region ?_
          refine TrL.stepS 22 (.plain rfl (.loadBN 22 (k := 4) (ds := [_, _, _, _]) rfl (.of rfl) rfl rfl rfl T.ag122 rfl)) rfl rfl ?_
          refine TrL.storeW 21 (vs := [_, _, _, _]) rfl rfl rfl (.of rfl) (.of rfl) rfl rfl T.sz122 rfl rfl ?_
          refine TrL.nil ?_
          refine Fin.keepG (Γ' := [(2, _), (4, _), (5, _), (6, _), (8, _), (11, _), (12, _), (13, _)]) (.same rfl (.same rfl (.same rfl (.same rfl (.same rfl (.same rfl (.same rfl (.same rfl .nil)))))))) ?_
          refine Fin.next ?_
          refine Tr.seq ?_
          refine Tr.regionW [([], [], []), ([22], [], []), ([22], [], []), ([], [], []), ([30], [30], [27]), ([], [], []), ([22], [], []), ([22], [], []), ([], [], []), ([31], [31], [32]), ([], [], [27]), ([], [], [32])] T.mixed (by kernel_rfl) (by kernel_rfl) (by kernel_rfl) (by kernel_rfl) ?_
          refine AChain.rd 23 rfl (fun σ => .plain rfl (.move rfl (.of rfl))) rfl rfl (fun _ _ => rfl) (L.Dep.const) ?_
          refine AChain.rd 24 rfl (fun σ => .plain rfl (.fieldP rfl (.of rfl) T.fl122_0)) rfl rfl (fun _ _ => rfl) (L.Dep.const) ?_
          refine AChain.rd 25 rfl (fun σ => .plain rfl (.loadB 22 rfl (.of rfl) rfl rfl rfl T.sc2)) rfl rfl (fun _ _ => rfl) (L.Dep.const) ?_
          refine AChain.rd 26 rfl (fun σ => .plain rfl (.slice (K := intR .i64) (xs := [_]) rfl (.cons (.map (.of rfl) (intR_elem _)) .nil) Try.underlying24 T.sz2 T.zb2 rfl (by decide))) rfl rfl (fun _ _ => rfl) (L.Dep.const) ?_
          refine AChain.appendD 30 27 (bytes := 8) rfl rfl rfl rfl rfl rfl (fun σ => (.of rfl)) (fun σ => rfl) (fun σ => (.of rfl)) Try.underlying24 T.sz2 T.el2 (by simp; omega) (by simp only [maxLen, List.length_append, List.length_cons, List.length_nil, List.length_map, List.length_take]; omega) (L.depS (by decide)) (L.depO (by decide)) ?_
          refine AChain.rd 28 rfl (fun σ => .plain rfl (.move rfl (.of rfl))) rfl rfl (fun _ _ => rfl) (L.Dep.const) ?_
          refine AChain.rd 29 rfl (fun σ => .plain rfl (.fieldP rfl (.of rfl) T.fl122_1)) rfl rfl (fun _ _ => rfl) (L.Dep.const) ?_
          refine AChain.rd 30 rfl (fun σ => .plain rfl (.loadB 22 rfl (.of rfl) rfl rfl rfl T.sc2)) rfl rfl (fun _ _ => rfl) (L.Dep.const) ?_
          refine AChain.rd 31 rfl (fun σ => .plain rfl (.slice (K := intR .i64) (xs := [_]) rfl (.cons (.map (.of rfl) (intR_elem _)) .nil) Try.underlying24 T.sz2 T.zb2 rfl (by decide))) rfl rfl (fun _ _ => rfl) (L.Dep.const) ?_
          refine AChain.appendD 31 32 (bytes := 8) rfl rfl rfl rfl rfl rfl (fun σ => (.of rfl)) (fun σ => rfl) (fun σ => (.of rfl)) Try.underlying24 T.sz2 T.el2 (by simp; omega) (by simp only [maxLen, List.length_append, List.length_cons, List.length_nil, List.length_map, List.length_take]; omega) (L.depS (by decide)) (L.depO (by decide)) ?_
          refine AChain.rd 4 rfl (fun σ => .plain rfl (.assign rfl (.of rfl))) rfl rfl (fun _ _ => rfl) (fun σ σ' h => by simp only [h 27 (by decide)]) ?_
          refine AChain.rd 5 rfl (fun σ => .plain rfl (.assign rfl (.of rfl))) rfl rfl (fun _ _ => rfl) (fun σ σ' h => by simp only [h 32 (by decide)]) ?_
          refine AChain.nil ?_
          intro s9
          refine Fin.keepG (Γ' := [(2, _), (4, _), (5, _), (6, _), (8, _), (11, _), (12, _), (13, _)]) (.same rfl (.same rfl (.same rfl (.same rfl (.same rfl (.same rfl (.same rfl (.same rfl .nil)))))))) ?_
          refine Fin.next ?_
          refine Tr.regionW [([21], [], []), ([21], [], []), ([22], [], []), ([22], [], []), ([], [], []), ([21], [], []), ([21], [], []), ([22], [], []), ([22], [], []), ([], [], []), ([21], [], []), ([21], [21], []), ([21], [], []), ([21], [21], [])] T.mixed (by kernel_rfl) (by kernel_rfl) (by kernel_rfl) (by kernel_rfl) ?_
          refine AChain.rd 33 rfl (fun σ => .plain rfl (.fieldP rfl (.of rfl) T.fl122_2)) rfl rfl (fun _ _ => rfl) (L.Dep.const) ?_
          refine AChain.rd 34 rfl (fun σ => .plain rfl (.loadB 21 rfl (.of rfl) rfl rfl rfl T.sc2)) rfl rfl (fun _ _ => rfl) (L.Dep.const) ?_
          refine AChain.rd 35 rfl (fun σ => .plain rfl (.fieldP rfl (.of rfl) T.fl122_2)) rfl rfl (fun _ _ => rfl) (L.Dep.const) ?_
          refine AChain.rd 36 rfl (fun σ => .plain rfl (.loadB 22 rfl (.of rfl) rfl rfl rfl T.sc2)) rfl rfl (fun _ _ => rfl) (L.Dep.const) ?_
          refine AChain.rd 37 rfl (fun σ => .plain rfl (.min2 rfl (.of rfl) (.of rfl))) rfl rfl (fun _ _ => rfl) (L.Dep.const) ?_
          refine AChain.rd 38 rfl (fun σ => .plain rfl (.fieldP rfl (.of rfl) T.fl122_3)) rfl rfl (fun _ _ => rfl) (L.Dep.const) ?_
          refine AChain.rd 39 rfl (fun σ => .plain rfl (.loadB 21 rfl (.of rfl) rfl rfl rfl T.sc2)) rfl rfl (fun _ _ => rfl) (L.Dep.const) ?_
          refine AChain.rd 40 rfl (fun σ => .plain rfl (.fieldP rfl (.of rfl) T.fl122_3)) rfl rfl (fun _ _ => rfl) (L.Dep.const) ?_
          refine AChain.rd 41 rfl (fun σ => .plain rfl (.loadB 22 rfl (.of rfl) rfl rfl rfl T.sc2)) rfl rfl (fun _ _ => rfl) (L.Dep.const) ?_
          refine AChain.rd 42 rfl (fun σ => .plain rfl (.max2 rfl (.of rfl) (.of rfl))) rfl rfl (fun _ _ => rfl) (L.Dep.const) ?_
          refine AChain.rd 43 rfl (fun σ => .plain rfl (.fieldP rfl (.of rfl) T.fl122_2)) rfl rfl (fun _ _ => rfl) (L.Dep.const) ?_
          refine AChain.wr1 21 rfl rfl rfl rfl (fun w0 κ0 σ => TrL.store1 21 rfl rfl rfl (.of rfl) (.of rfl) rfl rfl rfl T.sz2 rfl rfl (TrL.done0 (.free rfl .nil))) ?_
          refine AChain.rd 44 rfl (fun σ => .plain rfl (.fieldP rfl (.of rfl) T.fl122_3)) rfl rfl (fun _ _ => rfl) (L.Dep.const) ?_
          refine AChain.wr1 21 rfl rfl rfl rfl (fun w0 κ0 σ => TrL.store1 21 rfl rfl rfl (.of rfl) (.of rfl) rfl rfl rfl T.sz2 rfl rfl (TrL.done0 (.free rfl .nil))) ?_
          refine AChain.nil ?_
          intro s10
          refine Fin.keepG (Γ' := [(2, _), (4, _), (5, _), (6, _), (11, _), (12, _), (13, _)]) (.same rfl (.same rfl (.same rfl (.same rfl (.same rfl (.same rfl (.same rfl .nil))))))) ?_
          refine Fin.blockNormal ?_
          refine Fin.next ?_
          refine Tr.region ?_
          first | refine TrL.stepS 45 (.plain rfl (.addI L.bd_i64 rfl (.of rfl) (.of rfl) (by omega) (by omega))) rfl rfl ?_ | refine TrL.stepS 45 (.plain rfl (.add rfl (.of rfl) (.of rfl))) rfl rfl ?_
          refine TrL.stepS 13 (.plain rfl (.move rfl (.of rfl))) rfl rfl ?_
          refine TrL.nil ?_
          refine Fin.keepG (Γ' := [(2, _), (4, _), (5, _), (6, _), (11, _), (12, _), (13, _)]) (.same rfl (.same rfl (.same rfl (.same rfl (.same rfl (.same rfl (.same rfl .nil))))))) ?_
          exact Fin.again ((k + 1, s9 27, s9 32, a.1, a.2.1, mn ((zk ys (k + 1)).map (·.2.2.1)), mx ((zk ys (k + 1)).map (·.2.2.2)))) (⟨by dsimp only; omega, rfl, rfl⟩) (by dsimp only; omega) (.cons rfl (fun F L w h => by dsimp only; rw [hz, List.map_append]; exact h) (.cons rfl (fun F L w h => by dsimp only; rw [hz, List.map_append]; exact h) (.cons rfl (fun F L w h => by dsimp only; rw [hz, hze]; simpa [mn, mx] using h) (.same rfl .nil)))) (.eq rfl (by first | rfl | (congr 1; first | done | omega | (push_cast; omega) | (push_cast; rfl))) (.eq rfl (by first | rfl | (congr 1; first | done | omega | (push_cast; omega) | (push_cast; rfl))) (.eq rfl (by first | rfl | (congr 1; first | done | omega | (push_cast; omega) | (push_cast; rfl))) (.same rfl (.same rfl (.same rfl (.same rfl .nil)))))))
        · try simp only [decide_eq_true_eq, decide_eq_false_iff_not, beq_iff_eq, beq_eq_false_iff_ne, bne_iff_ne, bne_eq_false_iff_eq, Bool.and_eq_true, Bool.and_eq_false_iff, Bool.or_eq_true, Bool.or_eq_false_iff, Bool.not_eq_true', Bool.not_eq_false', gt_iff_lt, ge_iff_le, Int.not_lt, Int.not_le, ne_eq, Int.natCast_nonneg, true_and, and_true, Decidable.not_not, not_true_eq_false, not_false_eq_true] at hb2
          have hze : zk ys k ≠ [] := by intro e; rw [e] at hb2; simp at hb2
          refine Tr.skip ?_
          refine Fin.next ?_
          refine Tr.seq ?_
          refine Tr.regionW [([], [], []), ([22], [], []), ([22], [], []), ([], [], []), ([30], [30], [27]), ([], [], []), ([22], [], []), ([22], [], []), ([], [], []), ([31], [31], [32]), ([], [], [27]), ([], [], [32])] T.mixed (by kernel_rfl) (by kernel_rfl) (by kernel_rfl) (by kernel_rfl) ?_
          refine AChain.rd 23 rfl (fun σ => .plain rfl (.move rfl (.of rfl))) rfl rfl (fun _ _ => rfl) (L.Dep.const) ?_
          refine AChain.rd 24 rfl (fun σ => .plain rfl (.fieldP rfl (.of rfl) T.fl122_0)) rfl rfl (fun _ _ => rfl) (L.Dep.const) ?_
          refine AChain.rd 25 rfl (fun σ => .plain rfl (.loadB 22 rfl (.of rfl) rfl rfl rfl T.sc2)) rfl rfl (fun _ _ => rfl) (L.Dep.const) ?_
          refine AChain.rd 26 rfl (fun σ => .plain rfl (.slice (K := intR .i64) (xs := [_]) rfl (.cons (.map (.of rfl) (intR_elem _)) .nil) Try.underlying24 T.sz2 T.zb2 rfl (by decide))) rfl rfl (fun _ _ => rfl) (L.Dep.const) ?_
          refine AChain.appendD 30 27 (bytes := 8) rfl rfl rfl rfl rfl rfl (fun σ => (.of rfl)) (fun σ => rfl) (fun σ => (.of rfl)) Try.underlying24 T.sz2 T.el2 (by simp; omega) (by simp only [maxLen, List.length_append, List.length_cons, List.length_nil, List.length_map, List.length_take]; omega) (L.depS (by decide)) (L.depO (by decide)) ?_
          refine AChain.rd 28 rfl (fun σ => .plain rfl (.move rfl (.of rfl))) rfl rfl (fun _ _ => rfl) (L.Dep.const) ?_
          refine AChain.rd 29 rfl (fun σ => .plain rfl (.fieldP rfl (.of rfl) T.fl122_1)) rfl rfl (fun _ _ => rfl) (L.Dep.const) ?_
          refine AChain.rd 30 rfl (fun σ => .plain rfl (.loadB 22 rfl (.of rfl) rfl rfl rfl T.sc2)) rfl rfl (fun _ _ => rfl) (L.Dep.const) ?_
          refine AChain.rd 31 rfl (fun σ => .plain rfl (.slice (K := intR .i64) (xs := [_]) rfl (.cons (.map (.of rfl) (intR_elem _)) .nil) Try.underlying24 T.sz2 T.zb2 rfl (by decide))) rfl rfl (fun _ _ => rfl) (L.Dep.const) ?_
          refine AChain.appendD 31 32 (bytes := 8) rfl rfl rfl rfl rfl rfl (fun σ => (.of rfl)) (fun σ => rfl) (fun σ => (.of rfl)) Try.underlying24 T.sz2 T.el2 (by simp; omega) (by simp only [maxLen, List.length_append, List.length_cons, List.length_nil, List.length_map, List.length_take]; omega) (L.depS (by decide)) (L.depO (by decide)) ?_
          refine AChain.rd 4 rfl (fun σ => .plain rfl (.assign rfl (.of rfl))) rfl rfl (fun _ _ => rfl) (fun σ σ' h => by simp only [h 27 (by decide)]) ?_
          refine AChain.rd 5 rfl (fun σ => .plain rfl (.assign rfl (.of rfl))) rfl rfl (fun _ _ => rfl) (fun σ σ' h => by simp only [h 32 (by decide)]) ?_
          refine AChain.nil ?_
          intro s9
          refine Fin.keepG (Γ' := [(2, _), (4, _), (5, _), (6, _), (8, _), (11, _), (12, _), (13, _)]) (.same rfl (.same rfl (.same rfl (.same rfl (.same rfl (.same rfl (.same rfl (.same rfl .nil)))))))) ?_
          refine Fin.next ?_
          refine Tr.regionW [([21], [], []), ([21], [], []), ([22], [], []), ([22], [], []), ([], [], []), ([21], [], []), ([21], [], []), ([22], [], []), ([22], [], []), ([], [], []), ([21], [], []), ([21], [21], []), ([21], [], []), ([21], [21], [])] T.mixed (by kernel_rfl) (by kernel_rfl) (by kernel_rfl) (by kernel_rfl) ?_
          refine AChain.rd 33 rfl (fun σ => .plain rfl (.fieldP rfl (.of rfl) T.fl122_2)) rfl rfl (fun _ _ => rfl) (L.Dep.const) ?_
          refine AChain.rd 34 rfl (fun σ => .plain rfl (.loadB 21 rfl (.of rfl) rfl rfl rfl T.sc2)) rfl rfl (fun _ _ => rfl) (L.Dep.const) ?_
          refine AChain.rd 35 rfl (fun σ => .plain rfl (.fieldP rfl (.of rfl) T.fl122_2)) rfl rfl (fun _ _ => rfl) (L.Dep.const) ?_
          refine AChain.rd 36 rfl (fun σ => .plain rfl (.loadB 22 rfl (.of rfl) rfl rfl rfl T.sc2)) rfl rfl (fun _ _ => rfl) (L.Dep.const) ?_
          refine AChain.rd 37 rfl (fun σ => .plain rfl (.min2 rfl (.of rfl) (.of rfl))) rfl rfl (fun _ _ => rfl) (L.Dep.const) ?_
          refine AChain.rd 38 rfl (fun σ => .plain rfl (.fieldP rfl (.of rfl) T.fl122_3)) rfl rfl (fun _ _ => rfl) (L.Dep.const) ?_
          refine AChain.rd 39 rfl (fun σ => .plain rfl (.loadB 21 rfl (.of rfl) rfl rfl rfl T.sc2)) rfl rfl (fun _ _ => rfl) (L.Dep.const) ?_
          refine AChain.rd 40 rfl (fun σ => .plain rfl (.fieldP rfl (.of rfl) T.fl122_3)) rfl rfl (fun _ _ => rfl) (L.Dep.const) ?_
          refine AChain.rd 41 rfl (fun σ => .plain rfl (.loadB 22 rfl (.of rfl) rfl rfl rfl T.sc2)) rfl rfl (fun _ _ => rfl) (L.Dep.const) ?_
          refine AChain.rd 42 rfl (fun σ => .plain rfl (.max2 rfl (.of rfl) (.of rfl))) rfl rfl (fun _ _ => rfl) (L.Dep.const) ?_
          refine AChain.rd 43 rfl (fun σ => .plain rfl (.fieldP rfl (.of rfl) T.fl122_2)) rfl rfl (fun _ _ => rfl) (L.Dep.const) ?_
          refine AChain.wr1 21 rfl rfl rfl rfl (fun w0 κ0 σ => TrL.store1 21 rfl rfl rfl (.of rfl) (.of rfl) rfl rfl rfl T.sz2 rfl rfl (TrL.done0 (.free rfl .nil))) ?_
          refine AChain.rd 44 rfl (fun σ => .plain rfl (.fieldP rfl (.of rfl) T.fl122_3)) rfl rfl (fun _ _ => rfl) (L.Dep.const) ?_
          refine AChain.wr1 21 rfl rfl rfl rfl (fun w0 κ0 σ => TrL.store1 21 rfl rfl rfl (.of rfl) (.of rfl) rfl rfl rfl T.sz2 rfl rfl (TrL.done0 (.free rfl .nil))) ?_
          refine AChain.nil ?_
          intro s10
          refine Fin.keepG (Γ' := [(2, _), (4, _), (5, _), (6, _), (11, _), (12, _), (13, _)]) (.same rfl (.same rfl (.same rfl (.same rfl (.same rfl (.same rfl (.same rfl .nil))))))) ?_
          refine Fin.blockNormal ?_
          refine Fin.next ?_
          refine Tr.region ?_
          first | refine TrL.stepS 45 (.plain rfl (.addI L.bd_i64 rfl (.of rfl) (.of rfl) (by omega) (by omega))) rfl rfl ?_ | refine TrL.stepS 45 (.plain rfl (.add rfl (.of rfl) (.of rfl))) rfl rfl ?_
          refine TrL.stepS 13 (.plain rfl (.move rfl (.of rfl))) rfl rfl ?_
          refine TrL.nil ?_
          refine Fin.keepG (Γ' := [(2, _), (4, _), (5, _), (6, _), (11, _), (12, _), (13, _)]) (.same rfl (.same rfl (.same rfl (.same rfl (.same rfl (.same rfl (.same rfl .nil))))))) ?_
          exact Fin.again ((k + 1, s9 27, s9 32, oc, os, mn ((zk ys (k + 1)).map (·.2.2.1)), mx ((zk ys (k + 1)).map (·.2.2.2)))) (⟨by dsimp only; omega, rfl, rfl⟩) (by dsimp only; omega) (.cons rfl (fun F L w h => by dsimp only; rw [hz, List.map_append]; exact h) (.cons rfl (fun F L w h => by dsimp only; rw [hz, List.map_append]; exact h) (.cons rfl (fun F L w h => by dsimp only; rw [hz, List.map_append, List.map_append, List.map_cons, List.map_nil, List.map_cons, List.map_nil, mn_snoc (by simpa using hze), mx_snoc (by simpa using hze)]; exact h) (.same rfl .nil)))) (.eq rfl (by first | rfl | (congr 1; first | done | omega | (push_cast; omega) | (push_cast; rfl))) (.eq rfl (by first | rfl | (congr 1; first | done | omega | (push_cast; omega) | (push_cast; rfl))) (.eq rfl (by first | rfl | (congr 1; first | done | omega | (push_cast; omega) | (push_cast; rfl))) (.same rfl (.same rfl (.same rfl (.same rfl .nil)))))))
    · try simp only [decide_eq_true_eq, decide_eq_false_iff_not, beq_iff_eq, beq_eq_false_iff_ne, bne_iff_ne, bne_eq_false_iff_eq, Bool.and_eq_true, Bool.and_eq_false_iff, Bool.or_eq_true, Bool.or_eq_false_iff, Bool.not_eq_true', Bool.not_eq_false', gt_iff_lt, ge_iff_le, Int.not_lt, Int.not_le, ne_eq, Int.natCast_nonneg, true_and, and_true, Decidable.not_not, not_true_eq_false, not_false_eq_true] at hb0
      have hzl := zk_len ys k
      refine Tr.exit ?_
      refine Fin.thenExit ?_
      refine Fin.thenExit ?_
      refine Fin.blockOut ?_
      refine Fin.next ?_
      refine Tr.seq ?_
      refine Tr.region ?_
      refine TrL.stepS 9 (.plain rfl (.assign rfl (.of rfl))) rfl rfl ?_
      refine TrL.stepS 10 (.plain rfl (.assign rfl (.of rfl))) rfl rfl ?_
      refine TrL.nil ?_
      refine Fin.keepG (Γ' := [(2, _), (4, _), (5, _), (6, _)]) (.same rfl (.same rfl (.same rfl (.same rfl .nil)))) ?_
      refine Fin.next ?_
      refine Tr.seq ?_
      rw [zk_all (show ys.length ≤ k by omega)]
      refine Tr.freezeF 30 (R := Lst (intR .i64) ((ys.filter fun a => !blankA a).map (·.1))) rfl (fun F L w h => Own.lst h) rfl ?_
      refine Tr.freezeF 31 (R := Lst (intR .i64) ((ys.filter fun a => !blankA a).map (·.2.1))) rfl (fun F L w h => Own.lst h) rfl ?_
      refine Tr.region ?_
      refine TrL.stepS 47 (.plain rfl (.move rfl (.fact 30 rfl rfl rfl))) rfl rfl ?_
      refine TrL.stepS 48 (.plain rfl (.call rfl (F73 _ (by rw [List.length_map]; exact Nat.le_trans (List.length_filter_le _ _) hl) (by intro x hx; obtain ⟨y, hy, rfl⟩ := List.mem_map.1 hx; exact (hy0 y (List.mem_filter.1 hy).1).1)) (.cons (.of rfl) .nil))) rfl rfl ?_
      refine TrL.stepS 46 (.plain rfl (.move rfl (.of rfl))) rfl rfl ?_
      refine TrL.stepS 49 (.plain rfl (.extract rfl (.of rfl) rfl)) rfl rfl ?_
      refine TrL.stepS 50 (.plain rfl (.extract rfl (.of rfl) rfl)) rfl rfl ?_
      refine TrL.stepS 51 (.plain rfl (.fieldP rfl (.of rfl) T.fl122_0)) rfl rfl ?_
      refine TrL.store1 21 rfl rfl rfl (.of rfl) (.of rfl) rfl rfl rfl T.sz2 rfl rfl ?_
      refine TrL.stepS 9 (.plain rfl (.assign rfl (.of rfl))) rfl rfl ?_
      refine TrL.nil ?_
      refine Fin.keepG (Γ' := [(2, _), (5, _), (6, _), (9, _)]) (.same rfl (.same rfl (.same rfl (.same rfl .nil)))) ?_
      refine Fin.next ?_
      refine Tr.seq ?_
      refine Tr.region ?_
      refine TrL.stepS 53 (.plain rfl (.move rfl (.fact 31 rfl rfl rfl))) rfl rfl ?_
      refine TrL.stepS 54 (.plain rfl (.call rfl (F73 _ (by rw [List.length_map]; exact Nat.le_trans (List.length_filter_le _ _) hl) (by intro x hx; obtain ⟨y, hy, rfl⟩ := List.mem_map.1 hx; exact (hy0 y (List.mem_filter.1 hy).1).2)) (.cons (.of rfl) .nil))) rfl rfl ?_
      refine TrL.stepS 52 (.plain rfl (.move rfl (.of rfl))) rfl rfl ?_
      refine TrL.stepS 55 (.plain rfl (.extract rfl (.of rfl) rfl)) rfl rfl ?_
      refine TrL.stepS 56 (.plain rfl (.extract rfl (.of rfl) rfl)) rfl rfl ?_
      refine TrL.stepS 57 (.plain rfl (.fieldP rfl (.of rfl) T.fl122_1)) rfl rfl ?_
      refine TrL.store1 21 rfl rfl rfl (.of rfl) (.of rfl) rfl rfl rfl T.sz2 rfl rfl ?_
      refine TrL.stepS 10 (.plain rfl (.assign rfl (.of rfl))) rfl rfl ?_
      refine TrL.nil ?_
      refine Fin.keepG (Γ' := [(2, _), (6, _), (9, _), (10, _)]) (.same rfl (.same rfl (.same rfl (.same rfl .nil)))) ?_
      refine Fin.next ?_
      refine Tr.seq ?_
      refine Tr.seq ?_
      refine Tr.region ?_
      refine TrL.stepS 58 (.plain rfl (.move rfl (.of rfl))) rfl rfl ?_
      refine TrL.stepS 59 (.plain rfl (.neq rfl (.of rfl) (.of rfl))) rfl rfl ?_
      refine TrL.stepS 60 (.plain rfl (.move rfl (.of rfl))) rfl rfl ?_
      refine TrL.stepS 61 (.guarded rfl rfl rfl fun hg => .move rfl (.of rfl)) rfl rfl ?_
      refine TrL.stepS 62 (.guarded rfl rfl rfl fun hg => .neq rfl (.cond rfl hg) (.of rfl)) rfl rfl ?_
      refine TrL.stepS 63 (.plain rfl (.or rfl (.of rfl) (.cond rfl fun h => h))) rfl rfl ?_
      refine TrL.nil ?_
      refine Fin.keepG (Γ' := [(2, _), (6, _), (63, _)]) (.same rfl (.same rfl (.same rfl .nil))) ?_
      refine Fin.next ?_
      refine Tr.cond rfl (fun hb3 => ?_) (fun hb3 => ?_)
      · have hr3 := hb3; try simp only [decide_eq_true_eq, decide_eq_false_iff_not, beq_iff_eq, beq_eq_false_iff_ne, bne_iff_ne, bne_eq_false_iff_eq, Bool.and_eq_true, Bool.and_eq_false_iff, Bool.or_eq_true, Bool.or_eq_false_iff, Bool.not_eq_true', Bool.not_eq_false', gt_iff_lt, ge_iff_le, Int.not_lt, Int.not_le, ne_eq, Int.natCast_nonneg, true_and, and_true, Decidable.not_not, not_true_eq_false, not_false_eq_true] at hb3
        refine Tr.seq ?_
        refine Tr.region ?_
        refine TrL.stepS 64 (.plain rfl (.build rfl .nil (T.S4bd122))) rfl rfl ?_
        refine TrL.storeW 20 (vs := [_, _, _, _]) rfl rfl rfl (.of rfl) (.of rfl) rfl rfl T.sz122 rfl rfl ?_
        refine TrL.stepS 3 (.plain rfl (.assign rfl (.of rfl))) rfl rfl ?_
        refine TrL.nil ?_
        refine Fin.keepG (Γ' := [(2, _), (3, _)]) (.same rfl (.same rfl .nil)) ?_
        refine Fin.next ?_
        refine Tr.ret ?_
        refine Fin.thenRet ?_
        refine Fin.retI (rs := [_, _]) (Rs' := [is (.agg #[.int .i64 (joinOf ys).1, .int .i64 (joinOf ys).2.1, .int .i64 (joinOf ys).2.2.1, .int .i64 (joinOf ys).2.2.2]), is (.int .i64 (if joinE ys = true then 0 else 30))]) rfl (.cons (.cellB 20 (k := 4) (ds := [_, _, _, _]) rfl rfl rfl rfl T.ag122 rfl) (.cons (.tmp rfl) .nil)) (.cons (L.iv ?_) (.cons (L.iv ?_) .nil))
        · have hj : joinE ys = false := by
            simp only [joinE]
            cases h1 : fit ((ys.filter fun a => !blankA a).map (·.1)).sum <;> cases h2 : fit ((ys.filter fun a => !blankA a).map (·.2.1)).sum <;> simp [h1, h2] at hr3 ⊢
          have hj' := hj; simp only [joinE] at hj'; simp [joinOf, hj']
        · have hj : joinE ys = false := by
            simp only [joinE]
            cases h1 : fit ((ys.filter fun a => !blankA a).map (·.1)).sum <;> cases h2 : fit ((ys.filter fun a => !blankA a).map (·.2.1)).sum <;> simp [h1, h2] at hr3 ⊢
          simp [hj]
      · have hr3 := hb3; try simp only [decide_eq_true_eq, decide_eq_false_iff_not, beq_iff_eq, beq_eq_false_iff_ne, bne_iff_ne, bne_eq_false_iff_eq, Bool.and_eq_true, Bool.and_eq_false_iff, Bool.or_eq_true, Bool.or_eq_false_iff, Bool.not_eq_true', Bool.not_eq_false', gt_iff_lt, ge_iff_le, Int.not_lt, Int.not_le, ne_eq, Int.natCast_nonneg, true_and, and_true, Decidable.not_not, not_true_eq_false, not_false_eq_true] at hb3
        refine Tr.skip ?_
        refine Fin.next ?_
        refine Tr.seq ?_
        refine Tr.region ?_
        refine TrL.stepS 65 (.plain rfl (.loadBN 21 (k := 4) (ds := [_, _, _, _]) rfl (.of rfl) rfl rfl rfl T.ag122 rfl)) rfl rfl ?_
        refine TrL.storeW 20 (vs := [_, _, _, _]) rfl rfl rfl (.of rfl) (.of rfl) rfl rfl T.sz122 rfl rfl ?_
        refine TrL.stepS 3 (.plain rfl (.assign rfl (.of rfl))) rfl rfl ?_
        refine TrL.nil ?_
        refine Fin.keepG (Γ' := [(2, _), (3, _)]) (.same rfl (.same rfl .nil)) ?_
        refine Fin.next ?_
        refine Tr.ret ?_
        refine Fin.retI (rs := [_, _]) (Rs' := [is (.agg #[.int .i64 (joinOf ys).1, .int .i64 (joinOf ys).2.1, .int .i64 (joinOf ys).2.2.1, .int .i64 (joinOf ys).2.2.2]), is (.int .i64 (if joinE ys = true then 0 else 30))]) rfl (.cons (.cellB 20 (k := 4) (ds := [_, _, _, _]) rfl rfl rfl rfl T.ag122 rfl) (.cons (.tmp rfl) .nil)) (.cons (L.iv ?_) (.cons (L.iv ?_) .nil))
        · have hj : joinE ys = true := by
            simp only [joinE]
            cases h1 : fit ((ys.filter fun a => !blankA a).map (·.1)).sum <;> cases h2 : fit ((ys.filter fun a => !blankA a).map (·.2.1)).sum <;> simp [h1, h2] at hr3 ⊢
          have hj' := hj; simp only [joinE, Bool.and_eq_true] at hj'; simp [joinOf, hj'.1, hj'.2, cl]
        · have hj : joinE ys = true := by
            simp only [joinE]
            cases h1 : fit ((ys.filter fun a => !blankA a).map (·.1)).sum <;> cases h2 : fit ((ys.filter fun a => !blankA a).map (·.2.1)).sum <;> simp [h1, h2] at hr3 ⊢
          simp [hj]

/- (tidepool/agg.Agg).Put -/
set_option maxRecDepth 100000 in
theorem F80 (a : Ag) (v : Int) (ha : okA a) (hv : -9223372036854775808 ≤ v ∧ v ≤ 9223372036854775807) : FnP Try.prog 80 [is (.agg #[.int .i64 (a).1, .int .i64 (a).2.1, .int .i64 (a).2.2.1, .int .i64 (a).2.2.2]), is (.int .i64 v)] (Tup [is (.agg #[.int .i64 ((if joinE [a, (1, v, v, v)] = true then joinOf [a, (1, v, v, v)] else a)).1, .int .i64 ((if joinE [a, (1, v, v, v)] = true then joinOf [a, (1, v, v, v)] else a)).2.1, .int .i64 ((if joinE [a, (1, v, v, v)] = true then joinOf [a, (1, v, v, v)] else a)).2.2.1, .int .i64 ((if joinE [a, (1, v, v, v)] = true then joinOf [a, (1, v, v, v)] else a)).2.2.2]), is (.int .i64 (if joinE [a, (1, v, v, v)] = true then 0 else 30))]) := by
  refine FnP.mk' Try.func80 T.nm80 rfl (N := 21) rfl rfl fun B hB hκ => ?_
  refine Tr.seq ?_
  refine Tr.region ?_
  refine TrL.stepS 2 (.plain rfl (.boxR rfl (.of rfl))) rfl rfl ?_
  refine TrL.allocS 20 (zs := [.int .i64 0, .int .i64 0, .int .i64 0, .int .i64 0]) rfl rfl (by kernel_rfl) 4 rfl rfl rfl fun b20 => ?_
  refine TrL.stepS 5 (.plain rfl (.assign rfl (.of rfl))) rfl rfl ?_
  refine TrL.nil ?_
  refine Fin.keepG (Γ' := [(1, _), (2, _), (4, _)]) (.same rfl (.same rfl (.same rfl .nil))) ?_
  refine Fin.next ?_
  refine Tr.seq ?_
  refine Tr.regionW [([], [], []), ([], [], []), ([], [], []), ([], [], []), ([], [], []), ([], [], []), ([], [], []), ([], [], []), ([], [21], [6]), ([21], [21], [6]), ([], [], [])] T.mixed (by kernel_rfl) (by kernel_rfl) (by kernel_rfl) (by kernel_rfl) ?_
  refine AChain.rd 9 rfl (fun σ => .plain rfl (.load4 rfl (.of rfl) T.ag122)) rfl rfl (fun _ _ => rfl) (L.Dep.const) ?_
  refine AChain.rd 10 rfl (fun σ => .plain rfl (.move rfl (.of rfl))) rfl rfl (fun _ _ => rfl) (L.Dep.const) ?_
  refine AChain.rd 11 rfl (fun σ => .plain rfl (.call rfl (F79 v) (.cons (.of rfl) .nil))) rfl rfl (fun _ _ => rfl) (L.Dep.const) ?_
  refine AChain.rd 12 rfl (fun σ => .plain rfl (.slice (K := aggR) (xs := [_, _]) rfl (.cons (.map (.of rfl) (aggR_elem' _ _ _ _)) (.cons (.map (.of rfl) (aggR_elem' _ _ _ _)) .nil)) Try.underlying210 T.sz122 T.zb122 rfl (by decide))) rfl rfl (fun _ _ => rfl) (L.Dep.const) ?_
  refine AChain.rd 13 rfl (fun σ => .plain rfl (.call rfl (F81 [a, (1, v, v, v)] (by simp) (by simp [ha]; simp [okA]; omega)) (.cons (.of rfl) .nil))) rfl rfl (fun _ _ => rfl) (L.Dep.const) ?_
  refine AChain.rd 8 rfl (fun σ => .plain rfl (.move rfl (.of rfl))) rfl rfl (fun _ _ => rfl) (L.Dep.const) ?_
  refine AChain.rd 14 rfl (fun σ => .plain rfl (.extract rfl (.of rfl) rfl)) rfl rfl (fun _ _ => rfl) (L.Dep.const) ?_
  refine AChain.rd 15 rfl (fun σ => .plain rfl (.extract rfl (.of rfl) rfl)) rfl rfl (fun _ _ => rfl) (L.Dep.const) ?_
  refine AChain.allocD 21 6 (zs := [.int .i64 0, .int .i64 0, .int .i64 0, .int .i64 0]) rfl rfl rfl rfl rfl rfl (by kernel_rfl) (L.depS (by decide)) (L.depP (by decide)) ?_
  refine AChain.storeDA (vs := [_, _, _, _]) 21 6 rfl rfl rfl rfl rfl (fun σ _ => (.of rfl)) (fun σ _ => (.of rfl)) rfl (fun σ => rfl) T.sz122 rfl (L.depP (by decide)) ?_
  refine AChain.rd 7 rfl (fun σ => .plain rfl (.assign rfl (.of rfl))) rfl rfl (fun _ _ => rfl) (L.Dep.const) ?_
  refine AChain.nil ?_
  intro s1
  refine Fin.openPB (vs := [_, _, _, _]) 21 6 rfl rfl rfl fun b6 hb6_ => ?_
  refine Fin.keepG (Γ' := [(2, _), (4, _), (6, _), (7, _)]) (.same rfl (.same rfl (.same rfl (.same rfl .nil)))) ?_
  refine Fin.next ?_
  refine Tr.seq ?_
  refine Tr.seq ?_
  refine Tr.region ?_
  refine TrL.stepS 16 (.plain rfl (.move rfl (.of rfl))) rfl rfl ?_
  refine TrL.stepS 17 (.plain rfl (.neq rfl (.of rfl) (.of rfl))) rfl rfl ?_
  refine TrL.nil ?_
  refine Fin.keepG (Γ' := [(2, _), (4, _), (6, _), (7, _), (17, _)]) (.same rfl (.same rfl (.same rfl (.same rfl (.same rfl .nil))))) ?_
  refine Fin.next ?_
  refine Tr.cond rfl (fun hb0 => ?_) (fun hb0 => ?_)
  · try simp only [decide_eq_true_eq, decide_eq_false_iff_not, beq_iff_eq, beq_eq_false_iff_ne, bne_iff_ne, bne_eq_false_iff_eq, Bool.and_eq_true, Bool.and_eq_false_iff, Bool.or_eq_true, Bool.or_eq_false_iff, Bool.not_eq_true', Bool.not_eq_false', gt_iff_lt, ge_iff_le, Int.not_lt, Int.not_le, ne_eq, Int.natCast_nonneg, true_and, and_true, Decidable.not_not, not_true_eq_false, not_false_eq_true] at hb0
    have hj : joinE [a, (1, v, v, v)] = false := by cases h : joinE [a, (1, v, v, v)] with | false => rfl | true => simp [h] at hb0
    refine Tr.seq ?_
    refine Tr.region ?_
    refine TrL.stepS 18 (.plain rfl (.load4 rfl (.of rfl) T.ag122)) rfl rfl ?_
    refine TrL.stepS 19 (.plain rfl (.move rfl (.of rfl))) rfl rfl ?_
    refine TrL.storeW 20 (vs := [_, _, _, _]) rfl rfl rfl (.of rfl) (.of rfl) rfl rfl T.sz122 rfl rfl ?_
    refine TrL.stepS 5 (.plain rfl (.assign rfl (.of rfl))) rfl rfl ?_
    refine TrL.nil ?_
    refine Fin.keepG (Γ' := [(4, _), (5, _)]) (.same rfl (.same rfl .nil)) ?_
    refine Fin.next ?_
    refine Tr.ret ?_
    refine Fin.thenRet ?_
    refine Fin.retI (rs := [_, _]) (Rs' := [is (.agg #[.int .i64 ((if joinE [a, (1, v, v, v)] = true then joinOf [a, (1, v, v, v)] else a)).1, .int .i64 ((if joinE [a, (1, v, v, v)] = true then joinOf [a, (1, v, v, v)] else a)).2.1, .int .i64 ((if joinE [a, (1, v, v, v)] = true then joinOf [a, (1, v, v, v)] else a)).2.2.1, .int .i64 ((if joinE [a, (1, v, v, v)] = true then joinOf [a, (1, v, v, v)] else a)).2.2.2]), is (.int .i64 (if joinE [a, (1, v, v, v)] = true then 0 else 30))]) rfl (.cons (.cellB 20 (k := 4) (ds := [_, _, _, _]) rfl rfl rfl rfl T.ag122 rfl) (.cons (.tmp rfl) .nil)) (.cons (L.iv ?_) (.cons (L.iv ?_) .nil))
    · simp [hj]
    · simp [hj]
  · try simp only [decide_eq_true_eq, decide_eq_false_iff_not, beq_iff_eq, beq_eq_false_iff_ne, bne_iff_ne, bne_eq_false_iff_eq, Bool.and_eq_true, Bool.and_eq_false_iff, Bool.or_eq_true, Bool.or_eq_false_iff, Bool.not_eq_true', Bool.not_eq_false', gt_iff_lt, ge_iff_le, Int.not_lt, Int.not_le, ne_eq, Int.natCast_nonneg, true_and, and_true, Decidable.not_not, not_true_eq_false, not_false_eq_true] at hb0
    have hj : joinE [a, (1, v, v, v)] = true := by cases h : joinE [a, (1, v, v, v)] with | true => rfl | false => simp [h] at hb0
    refine Tr.skip ?_
    refine Fin.next ?_
    refine Tr.seq ?_
    refine Tr.region ?_
    refine TrL.stepS 20 (.plain rfl (.loadBN 21 (k := 4) (ds := [_, _, _, _]) rfl (.of rfl) rfl rfl rfl T.ag122 rfl)) rfl rfl ?_
    refine TrL.storeW 20 (vs := [_, _, _, _]) rfl rfl rfl (.of rfl) (.of rfl) rfl rfl T.sz122 rfl rfl ?_
    refine TrL.stepS 5 (.plain rfl (.assign rfl (.of rfl))) rfl rfl ?_
    refine TrL.nil ?_
    refine Fin.keepG (Γ' := [(4, _), (5, _)]) (.same rfl (.same rfl .nil)) ?_
    refine Fin.next ?_
    refine Tr.ret ?_
    refine Fin.retI (rs := [_, _]) (Rs' := [is (.agg #[.int .i64 ((if joinE [a, (1, v, v, v)] = true then joinOf [a, (1, v, v, v)] else a)).1, .int .i64 ((if joinE [a, (1, v, v, v)] = true then joinOf [a, (1, v, v, v)] else a)).2.1, .int .i64 ((if joinE [a, (1, v, v, v)] = true then joinOf [a, (1, v, v, v)] else a)).2.2.1, .int .i64 ((if joinE [a, (1, v, v, v)] = true then joinOf [a, (1, v, v, v)] else a)).2.2.2]), is (.int .i64 (if joinE [a, (1, v, v, v)] = true then 0 else 30))]) rfl (.cons (.cellB 20 (k := 4) (ds := [_, _, _, _]) rfl rfl rfl rfl T.ag122 rfl) (.cons (.tmp rfl) .nil)) (.cons (L.iv ?_) (.cons (L.iv ?_) .nil))
    · simp [hj]
    · simp [hj]

end Go.Proofs.Ytemkogoclljhpaa