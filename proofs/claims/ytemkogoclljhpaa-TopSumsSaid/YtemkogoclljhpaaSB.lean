import Derived.Test.YtemkogoclljhpaaSA
namespace Go.Proofs.Ytemkogoclljhpaa
open Go Go.Proofs.Ytemkogoclljhpaa.L
set_option linter.unusedVariables false
set_option linter.unusedSimpArgs false

namespace T
theorem SBbd140_0_1_2 (c0 : ByteArray) (c1 : Int) (c2 : Int) : Try.prog.built 140 [(0, .string c0), (1, .int .i64 c1), (2, .int .i64 c2)] = some #[.string c0, .int .i64 c1, .int .i64 c2] := by kernel_rfl
theorem SBbd142_0_1 (c0_0 : ByteArray) (c0_1 : Int) (c0_2 : Int) (c1_0 : Int) (c1_1 : Int) (c1_2 : Int) (c1_3 : Int) : Try.prog.built 142 [(0, .agg #[.string c0_0, .int .i64 c0_1, .int .i64 c0_2]), (1, .agg #[.int .i64 c1_0, .int .i64 c1_1, .int .i64 c1_2, .int .i64 c1_3])] = some #[.string c0_0, .int .i64 c0_1, .int .i64 c0_2, .int .i64 c1_0, .int .i64 c1_1, .int .i64 c1_2, .int .i64 c1_3] := by kernel_rfl
end T


abbrev Ln := ByteArray × Int × Int × Int
def lineP : PRep Ln := ⟨4, fun r => [.string r.1, .int .i8 r.2.1, .int .i8 r.2.2.1, .int .i64 r.2.2.2], fun _ => rfl, fun _ => rfl, by decide, (ByteArray.empty, 0, 0, 0)⟩
def lineR : Rep Ln := lineP.rep
theorem lineR_elem (s : ByteArray) (a b c : Int) : ∀ v w, is (.agg #[.string s, .int .i8 a, .int .i8 b, .int .i64 c]) v w → ElemV lineR (s, a, b, c) v w := by
  rintro v w rfl
  exact .cons rfl (.cons rfl (.cons rfl (.cons rfl .nil)))
def rowOf (x : Ln) : Rw := ((x.1, IntKind.i64.wrap (x.2.2.1.tmod 4), IntKind.i64.wrap (x.2.1.tmod 4)), (1, x.2.2.2, x.2.2.2, x.2.2.2))
theorem map_take {α β : Type} {f : α → β} {xs : List α} {k : Nat} {x : α} (h : xs[k]? = some x) : (xs.take (k + 1)).map f = (xs.take k).map f ++ [f x] := by
  rw [take_snoc h]; simp
theorem drop_ne {α : Type} {xs : List α} (h : 0 < xs.length) : xs ≠ xs.drop 1 := by
  intro e
  have := congrArg List.length e
  rw [List.length_drop] at this; omega
theorem ordR (s : Bool) : Ord3 (fun a b : Rw => cmpP s a.1 b.1) := ord_at (ordP s) (fun r : Rw => r.1)

/- tidepool/tidepooltop.sorted33 -/
set_option maxRecDepth 100000 in
theorem F23 (ls : List Ln) (hl : ls.length ≤ 20) : FnP Try.prog 23 [Lst lineR ls] (is (.bool true)) := by
  refine FnP.mk' Try.func23 T.nm23 rfl (N := 136) rfl rfl fun B hB hκ => ?_
  refine Tr.seq ?_
  refine Tr.region ?_
  refine TrL.stepS 2 (.plain rfl (.assign rfl (.of rfl))) rfl rfl ?_
  refine TrL.nil ?_
  refine Fin.keepG (Γ' := [(0, _)]) (.same rfl .nil) ?_
  refine Fin.next ?_
  refine Tr.seq ?_
  refine Tr.region ?_
  refine TrL.stepS 3 (.plain rfl (.assign rfl (.of rfl))) rfl rfl ?_
  refine TrL.nil ?_
  refine Fin.next ?_
  refine Tr.seq ?_
  refine Tr.seq ?_
  refine Tr.own0 30 rowR 142 rfl ?_
  refine Tr.region ?_
  refine TrL.stepS 15 (.plain rfl (.move rfl (.of rfl))) rfl rfl ?_
  refine TrL.stepS 16 (.plain rfl (.len rfl (.of rfl) Try.underlying47)) rfl rfl ?_
  refine TrL.stepS 17 (.plain rfl (.move rfl (.of rfl))) rfl rfl ?_
  refine TrL.nil ?_
  refine Fin.keepG (Γ' := [(3, _), (15, _), (16, _), (17, _)]) (.same rfl (.same rfl (.same rfl (.same rfl .nil)))) ?_
  refine Fin.next ?_
  refine Tr.block ?_
  refine Tr.loopK (γ := Nat × Value) (Γk := [(15, _), (16, _)]) (Mk := []) (.same rfl (.same rfl .nil)) .nil (fun p => p.1 ≤ ls.length) (fun p => fun r => (30, Own rowR 142 p.2 ((ls.take p.1).map rowOf)) :: r) (fun p => fun r => (3, is p.2) :: (17, is (.int .i64 p.1)) :: r) (fun p => ls.length - p.1) ((0, .slice none 0 0)) ?h0_0 ?hM_0 ?hG_0 ?hl_0
  case h0_0 => exact Nat.zero_le _
  case hM_0 => exact (.same rfl .nil)
  case hG_0 => exact (.eq rfl (by first | rfl | (congr 1; first | done | omega | (push_cast; omega) | (push_cast; rfl))) (.eq rfl (by first | rfl | (congr 1; first | done | omega | (push_cast; omega) | (push_cast; rfl))) (.same rfl (.same rfl .nil))))
  case hl_0 =>
    intro p hI
    obtain ⟨k, v3⟩ := p
    dsimp only at hI ⊢
    refine Tr.seq ?_
    refine Tr.region ?_
    refine TrL.stepS 18 (.plain rfl (.lss rfl (.of rfl) (.of rfl))) rfl rfl ?_
    refine TrL.nil ?_
    refine Fin.next ?_
    refine Tr.seq ?_
    refine Tr.cond rfl (fun hb0 => ?_) (fun hb0 => ?_)
    · try simp only [decide_eq_true_eq, decide_eq_false_iff_not, beq_iff_eq, beq_eq_false_iff_ne, bne_iff_ne, bne_eq_false_iff_eq, Bool.and_eq_true, Bool.and_eq_false_iff, Bool.or_eq_true, Bool.or_eq_false_iff, Bool.not_eq_true', Bool.not_eq_false', gt_iff_lt, ge_iff_le, Int.not_lt, Int.not_le, ne_eq, Int.natCast_nonneg, true_and, and_true, Decidable.not_not, not_true_eq_false, not_false_eq_true] at hb0
      obtain ⟨x, hx⟩ := ex_get (xs := ls) (i := k) (by omega)
      refine Tr.skip ?_
      refine Fin.next ?_
      refine Tr.seq ?_
      refine Tr.block ?_
      refine Tr.seq ?_
      refine Tr.region ?_
      refine TrL.stepS 19 (.plain rfl (.indexE rfl (.of rfl) (.of rfl) Try.underlying47 T.sz49 (by omega) hx)) rfl rfl ?_
      refine TrL.stepS 20 (.plain rfl (.load4 rfl (.of rfl) T.ag49)) rfl rfl ?_
      refine TrL.allocS 29 (zs := [.string ⟨#[]⟩, .int .i8 0, .int .i8 0, .int .i64 0]) rfl rfl (by kernel_rfl) 5 rfl rfl rfl fun b29 => ?_
      refine TrL.storeW 29 (vs := [_, _, _, _]) rfl rfl rfl (.of rfl) (.of rfl) rfl rfl T.sz49 rfl rfl ?_
      refine TrL.nil ?_
      refine Fin.keepG (Γ' := [(3, _), (5, _), (15, _), (16, _), (17, _)]) (.same rfl (.same rfl (.same rfl (.same rfl (.same rfl .nil))))) ?_
      refine Fin.next ?_
      refine Tr.regionW [([], [], []), ([29], [], []), ([29], [], []), ([29], [], []), ([29], [], []), ([], [], []), ([], [], []), ([29], [], []), ([29], [], []), ([], [], []), ([], [], []), ([], [], []), ([29], [], []), ([29], [], []), ([], [], []), ([], [], []), ([], [], []), ([30], [30], [38]), ([], [], [38])] T.mixed (by kernel_rfl) (by kernel_rfl) (by kernel_rfl) (by kernel_rfl) ?_
      refine AChain.rd 21 rfl (fun σ => .plain rfl (.move rfl (.of rfl))) rfl rfl (fun _ _ => rfl) (L.Dep.const) ?_
      refine AChain.rd 22 rfl (fun σ => .plain rfl (.fieldP rfl (.of rfl) T.fl49_0)) rfl rfl (fun _ _ => rfl) (L.Dep.const) ?_
      refine AChain.rd 23 rfl (fun σ => .plain rfl (.loadB 29 rfl (.of rfl) rfl rfl rfl T.sc9)) rfl rfl (fun _ _ => rfl) (L.Dep.const) ?_
      refine AChain.rd 24 rfl (fun σ => .plain rfl (.fieldP rfl (.of rfl) T.fl49_2)) rfl rfl (fun _ _ => rfl) (L.Dep.const) ?_
      refine AChain.rd 25 rfl (fun σ => .plain rfl (.loadB 29 rfl (.of rfl) rfl rfl rfl T.sc42)) rfl rfl (fun _ _ => rfl) (L.Dep.const) ?_
      refine AChain.rd 26 rfl (fun σ => .plain rfl (OpM.rem rfl (.of rfl) (.of rfl) (by decide))) rfl rfl (fun _ _ => rfl) (L.Dep.const) ?_
      refine AChain.rd 27 rfl (fun σ => .plain rfl (.conv rfl (.of rfl) T.us42 Try.underlying2)) rfl rfl (fun _ _ => rfl) (L.Dep.const) ?_
      refine AChain.rd 28 rfl (fun σ => .plain rfl (.fieldP rfl (.of rfl) T.fl49_1)) rfl rfl (fun _ _ => rfl) (L.Dep.const) ?_
      refine AChain.rd 29 rfl (fun σ => .plain rfl (.loadB 29 rfl (.of rfl) rfl rfl rfl T.sc42)) rfl rfl (fun _ _ => rfl) (L.Dep.const) ?_
      refine AChain.rd 30 rfl (fun σ => .plain rfl (OpM.rem rfl (.of rfl) (.of rfl) (by decide))) rfl rfl (fun _ _ => rfl) (L.Dep.const) ?_
      refine AChain.rd 31 rfl (fun σ => .plain rfl (.conv rfl (.of rfl) T.us42 Try.underlying2)) rfl rfl (fun _ _ => rfl) (L.Dep.const) ?_
      refine AChain.rd 32 rfl (fun σ => .plain rfl (.build rfl (.cons (.of rfl) (.cons (.of rfl) (.cons (.of rfl) .nil))) (T.SBbd140_0_1_2 _ _ _))) rfl rfl (fun _ _ => rfl) (L.Dep.const) ?_
      refine AChain.rd 33 rfl (fun σ => .plain rfl (.fieldP rfl (.of rfl) T.fl49_3)) rfl rfl (fun _ _ => rfl) (L.Dep.const) ?_
      refine AChain.rd 34 rfl (fun σ => .plain rfl (.loadB 29 rfl (.of rfl) rfl rfl rfl T.sc2)) rfl rfl (fun _ _ => rfl) (L.Dep.const) ?_
      refine AChain.rd 35 rfl (fun σ => .plain rfl (.call rfl (F79 x.2.2.2) (.cons (.of rfl) .nil))) rfl rfl (fun _ _ => rfl) (L.Dep.const) ?_
      refine AChain.rd 36 rfl (fun σ => .plain rfl (.build rfl (.cons (.of rfl) (.cons (.of rfl) .nil)) (T.SBbd142_0_1 _ _ _ _ _ _ _))) rfl rfl (fun _ _ => rfl) (L.Dep.const) ?_
      refine AChain.rd 37 rfl (fun σ => .plain rfl (.slice (K := rowR) (xs := [_]) rfl (.cons (.map (.of rfl) (rowR_elem _ _ _ _ _ _ _)) .nil) Try.underlying138 T.sz142 T.zb142 rfl (by decide))) rfl rfl (fun _ _ => rfl) (L.Dep.const) ?_
      refine AChain.appendD 30 38 (bytes := 64) rfl rfl rfl rfl rfl rfl (fun σ => (.of rfl)) (fun σ => rfl) (fun σ => (.of rfl)) Try.underlying138 T.sz142 T.el142 (by simp [isort_len]; omega) (by simp only [maxLen, List.length_append, List.length_cons, List.length_nil, List.length_map, List.length_take, isort_len]; omega) (L.depS (by decide)) (L.depO (by decide)) ?_
      refine AChain.rd 3 rfl (fun σ => .plain rfl (.assign rfl (.of rfl))) rfl rfl (fun _ _ => rfl) (fun σ σ' h => by simp only [h 38 (by decide)]) ?_
      refine AChain.nil ?_
      intro s5
      refine Fin.keepG (Γ' := [(3, _), (15, _), (16, _), (17, _)]) (.same rfl (.same rfl (.same rfl (.same rfl .nil)))) ?_
      refine Fin.blockNormal ?_
      refine Fin.next ?_
      refine Tr.region ?_
      first | refine TrL.stepS 39 (.plain rfl (.addI L.bd_i64 rfl (.of rfl) (.of rfl) (by omega) (by omega))) rfl rfl ?_ | refine TrL.stepS 39 (.plain rfl (.add rfl (.of rfl) (.of rfl))) rfl rfl ?_
      refine TrL.stepS 17 (.plain rfl (.move rfl (.of rfl))) rfl rfl ?_
      refine TrL.nil ?_
      refine Fin.keepG (Γ' := [(3, _), (15, _), (16, _), (17, _)]) (.same rfl (.same rfl (.same rfl (.same rfl .nil)))) ?_
      exact Fin.again ((k + 1, s5 38)) (by dsimp only; omega) (by dsimp only; omega) (.cons rfl (fun F L w h => by dsimp only; rw [map_take hx]; exact h) .nil) (.eq rfl (by first | rfl | (congr 1; first | done | omega | (push_cast; omega) | (push_cast; rfl))) (.eq rfl (by first | rfl | (congr 1; first | done | omega | (push_cast; omega) | (push_cast; rfl))) (.same rfl (.same rfl .nil))))
    · try simp only [decide_eq_true_eq, decide_eq_false_iff_not, beq_iff_eq, beq_eq_false_iff_ne, bne_iff_ne, bne_eq_false_iff_eq, Bool.and_eq_true, Bool.and_eq_false_iff, Bool.or_eq_true, Bool.or_eq_false_iff, Bool.not_eq_true', Bool.not_eq_false', gt_iff_lt, ge_iff_le, Int.not_lt, Int.not_le, ne_eq, Int.natCast_nonneg, true_and, and_true, Decidable.not_not, not_true_eq_false, not_false_eq_true] at hb0
      refine Tr.exit ?_
      refine Fin.thenExit ?_
      refine Fin.thenExit ?_
      refine Fin.blockOut ?_
      refine Fin.next ?_
      refine Tr.seq ?_
      refine Tr.seq ?_
      obtain ⟨rows, hrows⟩ : ∃ rows, rows = ls.map rowOf := ⟨_, rfl⟩
      have hrl : rows.length ≤ 20 := by rw [hrows, List.length_map]; exact hl
      refine Tr.freezeF 30 (R := Lst rowR rows) rfl (fun F L w h => by rw [List.take_of_length_le (by omega), ← hrows] at h; exact Own.lst h) rfl ?_
      refine Tr.region ?_
      refine TrL.stepS 40 (.plain rfl (.slice (K := boolR) (xs := [_, _]) rfl (.cons (.map (.of rfl) (boolR_elem _)) (.cons (.map (.of rfl) (boolR_elem _)) .nil)) Try.underlying143 T.sz4 T.zb4 rfl (by decide))) rfl rfl ?_
      refine TrL.stepS 41 (.plain rfl (.len rfl (.of rfl) Try.underlying143)) rfl rfl ?_
      refine TrL.stepS 42 (.plain rfl (.move rfl (.of rfl))) rfl rfl ?_
      refine TrL.nil ?_
      refine Fin.keepG (Γ' := [(3, _), (40, _), (41, _), (42, _)]) (.same rfl (.same rfl (.same rfl (.same rfl .nil)))) ?_
      refine Fin.next ?_
      refine Tr.block ?_
      refine Tr.loopK (γ := Nat) (Γk := [(3, _), (40, _), (41, _)]) (Mk := [(30, _)]) (.same rfl (.same rfl (.same rfl .nil))) (.same rfl .nil) (fun n => n ≤ 2) (fun n => fun r => r) (fun n => fun r => (42, is (.int .i64 n)) :: r) (fun n => 2 - n) (0) ?h0_1 ?hM_1 ?hG_1 ?hl_1
      case h0_1 => exact Nat.zero_le _
      case hM_1 => exact (.same rfl .nil)
      case hG_1 => exact (.eq rfl (by first | rfl | (congr 1; first | done | omega | (push_cast; omega) | (push_cast; rfl))) (.same rfl (.same rfl (.same rfl .nil))))
      case hl_1 =>
        intro n hn
        refine Tr.seq ?_
        refine Tr.region ?_
        refine TrL.stepS 43 (.plain rfl (.lss rfl (.of rfl) (.of rfl))) rfl rfl ?_
        refine TrL.nil ?_
        refine Fin.next ?_
        refine Tr.seq ?_
        refine Tr.cond rfl (fun hb1 => ?_) (fun hb1 => ?_)
        · try simp only [decide_eq_true_eq, decide_eq_false_iff_not, beq_iff_eq, beq_eq_false_iff_ne, bne_iff_ne, bne_eq_false_iff_eq, Bool.and_eq_true, Bool.and_eq_false_iff, Bool.or_eq_true, Bool.or_eq_false_iff, Bool.not_eq_true', Bool.not_eq_false', gt_iff_lt, ge_iff_le, Int.not_lt, Int.not_le, ne_eq, Int.natCast_nonneg, true_and, and_true, Decidable.not_not, not_true_eq_false, not_false_eq_true] at hb1
          have hn2 : n < 2 := by simp only [List.length_cons, List.length_nil] at hb1; omega
          obtain ⟨second, hs⟩ := ex_get (xs := [false, true]) (i := n) hn2
          have hos := ordR second
          refine Tr.skip ?_
          refine Fin.next ?_
          refine Tr.seq ?_
          refine Tr.block ?_
          refine Tr.seq ?_
          refine Tr.region ?_
          refine TrL.stepS 44 (.plain rfl (.indexE rfl (.of rfl) (.of rfl) Try.underlying143 T.sz4 (by omega) hs)) rfl rfl ?_
          refine TrL.stepS 45 (.plain rfl (.load1 rfl (.of rfl) T.sc4)) rfl rfl ?_
          refine TrL.stepS 7 (.plain rfl (.assign rfl (.of rfl))) rfl rfl ?_
          refine TrL.nil ?_
          refine Fin.keepG (Γ' := [(3, _), (7, _), (40, _), (41, _), (42, _)]) (.same rfl (.same rfl (.same rfl (.same rfl (.same rfl .nil))))) ?_
          refine Fin.next ?_
          refine Tr.seq ?_
          refine Tr.region ?_
          refine TrL.stepS 46 (.plain rfl (.move rfl (.of rfl))) rfl rfl ?_
          refine TrL.stepS 47 (.plain rfl (.move rfl (.fact 30 rfl rfl rfl))) rfl rfl ?_
          refine TrL.stepS 48 (.plain rfl (.call rfl (F90 second rows hrl) (.cons (.of rfl) (.cons (.of rfl) .nil)))) rfl rfl ?_
          refine TrL.stepS 8 (.plain rfl (.assign rfl (.of rfl))) rfl rfl ?_
          refine TrL.nil ?_
          refine Fin.keepG (Γ' := [(3, _), (7, _), (8, _), (40, _), (41, _), (42, _)]) (.same rfl (.same rfl (.same rfl (.same rfl (.same rfl (.same rfl .nil)))))) ?_
          refine Fin.next ?_
          refine Tr.seq ?_
          refine Tr.seq ?_
          refine Tr.region ?_
          refine TrL.stepS 49 (.plain rfl (.move rfl (.of rfl))) rfl rfl ?_
          refine TrL.stepS 50 (.plain rfl (.len rfl (.of rfl) Try.underlying138)) rfl rfl ?_
          refine TrL.stepS 51 (.plain rfl (.move rfl (.fact 30 rfl rfl rfl))) rfl rfl ?_
          refine TrL.stepS 52 (.plain rfl (.len rfl (.of rfl) Try.underlying138)) rfl rfl ?_
          refine TrL.stepS 53 (.plain rfl (.neq rfl (.of rfl) (.of rfl))) rfl rfl ?_
          refine TrL.nil ?_
          refine Fin.keepG (Γ' := [(3, _), (7, _), (8, _), (40, _), (41, _), (42, _), (53, _)]) (.same rfl (.same rfl (.same rfl (.same rfl (.same rfl (.same rfl (.same rfl .nil))))))) ?_
          refine Fin.next ?_
          refine Tr.cond rfl (fun hb2 => ?_) (fun hb2 => ?_)
          · try simp only [decide_eq_true_eq, decide_eq_false_iff_not, beq_iff_eq, beq_eq_false_iff_ne, bne_iff_ne, bne_eq_false_iff_eq, Bool.and_eq_true, Bool.and_eq_false_iff, Bool.or_eq_true, Bool.or_eq_false_iff, Bool.not_eq_true', Bool.not_eq_false', gt_iff_lt, ge_iff_le, Int.not_lt, Int.not_le, ne_eq, Int.natCast_nonneg, true_and, and_true, Decidable.not_not, not_true_eq_false, not_false_eq_true] at hb2
            simp [isort_len] at hb2
          · try simp only [decide_eq_true_eq, decide_eq_false_iff_not, beq_iff_eq, beq_eq_false_iff_ne, bne_iff_ne, bne_eq_false_iff_eq, Bool.and_eq_true, Bool.and_eq_false_iff, Bool.or_eq_true, Bool.or_eq_false_iff, Bool.not_eq_true', Bool.not_eq_false', gt_iff_lt, ge_iff_le, Int.not_lt, Int.not_le, ne_eq, Int.natCast_nonneg, true_and, and_true, Decidable.not_not, not_true_eq_false, not_false_eq_true] at hb2
            refine Tr.skip ?_
            refine Fin.next ?_
            refine Tr.seq ?_
            refine Tr.seq ?_
            refine Tr.region ?_
            refine TrL.stepS 54 (.plain rfl (.move rfl (.fact 30 rfl rfl rfl))) rfl rfl ?_
            refine TrL.stepS 55 (.plain rfl (.len rfl (.of rfl) Try.underlying138)) rfl rfl ?_
            refine TrL.stepS 56 (.plain rfl (.move rfl (.of rfl))) rfl rfl ?_
            refine TrL.nil ?_
            refine Fin.keepG (Γ' := [(3, _), (7, _), (8, _), (40, _), (41, _), (42, _), (54, _), (55, _), (56, _)]) (.same rfl (.same rfl (.same rfl (.same rfl (.same rfl (.same rfl (.same rfl (.same rfl (.same rfl .nil))))))))) ?_
            refine Fin.next ?_
            refine Tr.block ?_
            refine Tr.loopK (γ := Nat) (Γk := [(3, _), (7, _), (8, _), (40, _), (41, _), (42, _), (54, _), (55, _)]) (Mk := [(30, _)]) (.same rfl (.same rfl (.same rfl (.same rfl (.same rfl (.same rfl (.same rfl (.same rfl .nil)))))))) (.same rfl .nil) (fun i => i ≤ rows.length) (fun i => fun r => r) (fun i => fun r => (56, is (.int .i64 i)) :: r) (fun i => rows.length - i) (0) ?h0_2 ?hM_2 ?hG_2 ?hl_2
            case h0_2 => exact Nat.zero_le _
            case hM_2 => exact (.same rfl .nil)
            case hG_2 => exact (.eq rfl (by first | rfl | (congr 1; first | done | omega | (push_cast; omega) | (push_cast; rfl))) (.same rfl (.same rfl (.same rfl (.same rfl (.same rfl (.same rfl (.same rfl (.same rfl .nil)))))))))
            case hl_2 =>
              intro i hi
              refine Tr.seq ?_
              refine Tr.region ?_
              refine TrL.stepS 57 (.plain rfl (.lss rfl (.of rfl) (.of rfl))) rfl rfl ?_
              refine TrL.nil ?_
              refine Fin.next ?_
              refine Tr.seq ?_
              refine Tr.cond rfl (fun hb3 => ?_) (fun hb3 => ?_)
              · try simp only [decide_eq_true_eq, decide_eq_false_iff_not, beq_iff_eq, beq_eq_false_iff_ne, bne_iff_ne, bne_eq_false_iff_eq, Bool.and_eq_true, Bool.and_eq_false_iff, Bool.or_eq_true, Bool.or_eq_false_iff, Bool.not_eq_true', Bool.not_eq_false', gt_iff_lt, ge_iff_le, Int.not_lt, Int.not_le, ne_eq, Int.natCast_nonneg, true_and, and_true, Decidable.not_not, not_true_eq_false, not_false_eq_true] at hb3
                obtain ⟨a, ha⟩ := ex_get (xs := rows) (i := i) (by omega)
                refine Tr.skip ?_
                refine Fin.next ?_
                refine Tr.seq ?_
                refine Tr.block ?_
                refine Tr.seq ?_
                refine Tr.region ?_
                refine TrL.stepS 58 (.plain rfl (.move rfl (.of rfl))) rfl rfl ?_
                refine TrL.stepS 59 (.plain rfl (.indexE rfl (.of rfl) (.of rfl) Try.underlying138 T.sz142 (by omega) ha)) rfl rfl ?_
                refine TrL.stepS 60 (.plain rfl (.load7 rfl (.of rfl) T.ag142)) rfl rfl ?_
                refine TrL.allocS 31 (zs := [.string ⟨#[]⟩, .int .i64 0, .int .i64 0, .int .i64 0, .int .i64 0, .int .i64 0, .int .i64 0]) rfl rfl (by kernel_rfl) 10 rfl rfl rfl fun b31 => ?_
                refine TrL.stepS 9 (.plain rfl (.assign rfl (.of rfl))) rfl rfl ?_
                refine TrL.storeW 31 (vs := [_, _, _, _, _, _, _]) rfl rfl rfl (.of rfl) (.of rfl) rfl rfl T.sz142 rfl rfl ?_
                refine TrL.nil ?_
                refine Fin.keepG (Γ' := [(3, _), (7, _), (8, _), (9, _), (10, _), (40, _), (41, _), (42, _), (54, _), (55, _), (56, _)]) (.same rfl (.same rfl (.same rfl (.same rfl (.same rfl (.same rfl (.same rfl (.same rfl (.same rfl (.same rfl (.same rfl .nil))))))))))) ?_
                refine Fin.next ?_
                refine Tr.seq ?_
                refine Tr.region ?_
                refine TrL.stepS 11 (.plain rfl (.assign rfl (.of rfl))) rfl rfl ?_
                refine TrL.nil ?_
                refine Fin.next ?_
                refine Tr.seq ?_
                refine Tr.seq ?_
                refine Tr.region ?_
                refine TrL.stepS 61 (.plain rfl (.move rfl (.fact 30 rfl rfl rfl))) rfl rfl ?_
                refine TrL.stepS 62 (.plain rfl (.len rfl (.of rfl) Try.underlying138)) rfl rfl ?_
                refine TrL.stepS 63 (.plain rfl (.move rfl (.of rfl))) rfl rfl ?_
                refine TrL.nil ?_
                refine Fin.next ?_
                refine Tr.block ?_
                refine Tr.loopK (γ := Nat) (Γk := [(3, _), (7, _), (8, _), (9, _), (10, _), (40, _), (41, _), (42, _), (54, _), (55, _), (56, _), (61, _), (62, _)]) (Mk := [(30, _), (31, _)]) (.same rfl (.same rfl (.same rfl (.same rfl (.same rfl (.same rfl (.same rfl (.same rfl (.same rfl (.same rfl (.same rfl (.same rfl (.same rfl .nil))))))))))))) (.same rfl (.same rfl .nil)) (fun j => j ≤ rows.length) (fun j => fun r => r) (fun j => fun r => (11, is (.int .i64 (rank (fun a b : Rw => cmpP second a.1 b.1) (rows.take j) i a : Nat))) :: (63, is (.int .i64 j)) :: r) (fun j => rows.length - j) (0) ?h0_3 ?hM_3 ?hG_3 ?hl_3
                case h0_3 => exact Nat.zero_le _
                case hM_3 => exact (.same rfl (.same rfl .nil))
                case hG_3 => exact (.eq rfl (by simp [rank]) (.eq rfl (by first | rfl | (congr 1; first | done | omega | (push_cast; omega) | (push_cast; rfl))) (.same rfl (.same rfl (.same rfl (.same rfl (.same rfl (.same rfl (.same rfl (.same rfl (.same rfl (.same rfl (.same rfl (.same rfl (.same rfl .nil)))))))))))))))
                case hl_3 =>
                  intro j hj
                  refine Tr.seq ?_
                  refine Tr.region ?_
                  refine TrL.stepS 64 (.plain rfl (.lss rfl (.of rfl) (.of rfl))) rfl rfl ?_
                  refine TrL.nil ?_
                  refine Fin.next ?_
                  refine Tr.seq ?_
                  refine Tr.cond rfl (fun hb4 => ?_) (fun hb4 => ?_)
                  · try simp only [decide_eq_true_eq, decide_eq_false_iff_not, beq_iff_eq, beq_eq_false_iff_ne, bne_iff_ne, bne_eq_false_iff_eq, Bool.and_eq_true, Bool.and_eq_false_iff, Bool.or_eq_true, Bool.or_eq_false_iff, Bool.not_eq_true', Bool.not_eq_false', gt_iff_lt, ge_iff_le, Int.not_lt, Int.not_le, ne_eq, Int.natCast_nonneg, true_and, and_true, Decidable.not_not, not_true_eq_false, not_false_eq_true] at hb4
                    obtain ⟨y, hy⟩ := ex_get (xs := rows) (i := j) (by omega)
                    have hrb : rank (fun a b : Rw => cmpP second a.1 b.1) (rows.take j) i a ≤ 20 := Nat.le_trans rank_le (by rw [List.length_take]; omega)
                    have hrt := rank_take (c := fun a b : Rw => cmpP second a.1 b.1) (i := i) (x := a) hy
                    refine Tr.skip ?_
                    refine Fin.next ?_
                    refine Tr.seq ?_
                    refine Tr.block ?_
                    refine Tr.seq ?_
                    refine Tr.region ?_
                    refine TrL.stepS 65 (.plain rfl (.move rfl (.of rfl))) rfl rfl ?_
                    refine TrL.stepS 66 (.plain rfl (.indexE rfl (.of rfl) (.of rfl) Try.underlying138 T.sz142 (by omega) hy)) rfl rfl ?_
                    refine TrL.stepS 67 (.plain rfl (.load7 rfl (.of rfl) T.ag142)) rfl rfl ?_
                    refine TrL.allocS 32 (zs := [.string ⟨#[]⟩, .int .i64 0, .int .i64 0, .int .i64 0, .int .i64 0, .int .i64 0, .int .i64 0]) rfl rfl (by kernel_rfl) 13 rfl rfl rfl fun b32 => ?_
                    refine TrL.stepS 12 (.plain rfl (.assign rfl (.of rfl))) rfl rfl ?_
                    refine TrL.storeW 32 (vs := [_, _, _, _, _, _, _]) rfl rfl rfl (.of rfl) (.of rfl) rfl rfl T.sz142 rfl rfl ?_
                    refine TrL.nil ?_
                    refine Fin.keepG (Γ' := [(3, _), (7, _), (8, _), (9, _), (10, _), (11, _), (12, _), (13, _), (40, _), (41, _), (42, _), (54, _), (55, _), (56, _), (61, _), (62, _), (63, _)]) (.same rfl (.same rfl (.same rfl (.same rfl (.same rfl (.same rfl (.same rfl (.same rfl (.same rfl (.same rfl (.same rfl (.same rfl (.same rfl (.same rfl (.same rfl (.same rfl (.same rfl .nil))))))))))))))))) ?_
                    refine Fin.next ?_
                    refine Tr.seq ?_
                    refine Tr.region ?_
                    refine TrL.stepS 68 (.plain rfl (.fieldP rfl (.of rfl) T.fl142_0)) rfl rfl ?_
                    refine TrL.stepS 69 (.plain rfl (.loadBN 32 (k := 3) (ds := [_, _, _]) rfl (.of rfl) rfl rfl rfl T.ag140 rfl)) rfl rfl ?_
                    refine TrL.stepS 70 (.plain rfl (.fieldP rfl (.of rfl) T.fl142_0)) rfl rfl ?_
                    refine TrL.stepS 71 (.plain rfl (.loadBN 31 (k := 3) (ds := [_, _, _]) rfl (.of rfl) rfl rfl rfl T.ag140 rfl)) rfl rfl ?_
                    refine TrL.stepS 72 (.plain rfl (.move rfl (.of rfl))) rfl rfl ?_
                    refine TrL.stepS 73 (.plain rfl (.call rfl (F91 y.1 a.1 second) (.cons (.of rfl) (.cons (.of rfl) (.cons (.of rfl) .nil))))) rfl rfl ?_
                    refine TrL.stepS 14 (.plain rfl (.assign rfl (.of rfl))) rfl rfl ?_
                    refine TrL.nil ?_
                    refine Fin.keepG (Γ' := [(3, _), (7, _), (8, _), (9, _), (10, _), (11, _), (12, _), (13, _), (14, _), (40, _), (41, _), (42, _), (54, _), (55, _), (56, _), (61, _), (62, _), (63, _)]) (.same rfl (.same rfl (.same rfl (.same rfl (.same rfl (.same rfl (.same rfl (.same rfl (.same rfl (.same rfl (.same rfl (.same rfl (.same rfl (.same rfl (.same rfl (.same rfl (.same rfl (.same rfl .nil)))))))))))))))))) ?_
                    refine Fin.next ?_
                    refine Tr.seqJK (γ := Unit) (Γk := [(3, _), (7, _), (8, _), (9, _), (10, _), (13, _), (14, _), (40, _), (41, _), (42, _), (54, _), (55, _), (56, _), (61, _), (62, _), (63, _)]) (Mk := [(30, _), (31, _), (32, _)]) (.same rfl (.same rfl (.same rfl (.same rfl (.same rfl (.same rfl (.same rfl (.same rfl (.same rfl (.same rfl (.same rfl (.same rfl (.same rfl (.same rfl (.same rfl (.same rfl .nil)))))))))))))))) (.same rfl (.same rfl (.same rfl .nil))) (fun _ => True) (fun _ => fun r => r) (fun _ => fun r => (11, is (.int .i64 (rank (fun a b : Rw => cmpP second a.1 b.1) (rows.take (j + 1)) i a : Nat))) :: r) ?jx23 ?jk23
                    case jx23 =>
                      refine Tr.seq ?_
                      refine Tr.region ?_
                      refine TrL.stepS 74 (.plain rfl (.move rfl (.of rfl))) rfl rfl ?_
                      refine TrL.stepS 75 (.plain rfl (.lss rfl (.of rfl) (.of rfl))) rfl rfl ?_
                      refine TrL.stepS 76 (.plain rfl (.move rfl (.of rfl))) rfl rfl ?_
                      refine TrL.stepS 77 (.guarded rfl rfl rfl fun hg => .move rfl (.of rfl)) rfl rfl ?_
                      refine TrL.stepS 78 (.guarded rfl rfl rfl fun hg => .eql rfl (.cond rfl hg) (.of rfl)) rfl rfl ?_
                      refine TrL.stepS 79 (.guarded rfl rfl rfl fun hg => .move rfl (.cond rfl hg)) rfl rfl ?_
                      refine TrL.stepS 80 (.guarded2 rfl rfl rfl fun hp hg => .move rfl (.of rfl)) rfl rfl ?_
                      refine TrL.stepS 81 (.guarded2 rfl rfl rfl fun hp hg => .move rfl (.of rfl)) rfl rfl ?_
                      refine TrL.stepS 82 (.guarded2 rfl rfl rfl fun hp hg => .lss rfl (.cond rfl ⟨hp, hg⟩) (.cond rfl ⟨hp, hg⟩)) rfl rfl ?_
                      refine TrL.stepS 83 (.guarded rfl rfl rfl fun hg => .and rfl (.cond rfl hg) (.cond rfl fun h => ⟨hg, h⟩)) rfl rfl ?_
                      refine TrL.stepS 84 (.plain rfl (.or rfl (.of rfl) (.cond rfl fun h => h))) rfl rfl ?_
                      refine TrL.nil ?_
                      refine Fin.keepG (Γ' := [(3, _), (7, _), (8, _), (9, _), (10, _), (11, _), (13, _), (14, _), (40, _), (41, _), (42, _), (54, _), (55, _), (56, _), (61, _), (62, _), (63, _), (84, _)]) (.same rfl (.same rfl (.same rfl (.same rfl (.same rfl (.same rfl (.same rfl (.same rfl (.same rfl (.same rfl (.same rfl (.same rfl (.same rfl (.same rfl (.same rfl (.same rfl (.same rfl (.same rfl .nil)))))))))))))))))) ?_
                      refine Fin.next ?_
                      refine Tr.cond rfl (fun hb5 => ?_) (fun hb5 => ?_)
                      · try simp only [decide_eq_true_eq, decide_eq_false_iff_not, beq_iff_eq, beq_eq_false_iff_ne, bne_iff_ne, bne_eq_false_iff_eq, Bool.and_eq_true, Bool.and_eq_false_iff, Bool.or_eq_true, Bool.or_eq_false_iff, Bool.not_eq_true', Bool.not_eq_false', gt_iff_lt, ge_iff_le, Int.not_lt, Int.not_le, ne_eq, Int.natCast_nonneg, true_and, and_true, Decidable.not_not, not_true_eq_false, not_false_eq_true] at hb5
                        refine Tr.region ?_
                        refine TrL.stepS 85 (.plain rfl (.move rfl (.of rfl))) rfl rfl ?_
                        first | refine TrL.stepS 86 (.plain rfl (.addI L.bd_i64 rfl (.of rfl) (.of rfl) (by omega) (by omega))) rfl rfl ?_ | refine TrL.stepS 86 (.plain rfl (.add rfl (.of rfl) (.of rfl))) rfl rfl ?_
                        refine TrL.stepS 11 (.plain rfl (.assign rfl (.of rfl))) rfl rfl ?_
                        refine TrL.nil ?_
                        refine Fin.keepG (Γ' := [(3, _), (7, _), (8, _), (9, _), (10, _), (11, _), (13, _), (14, _), (40, _), (41, _), (42, _), (54, _), (55, _), (56, _), (61, _), (62, _), (63, _)]) (.same rfl (.same rfl (.same rfl (.same rfl (.same rfl (.same rfl (.same rfl (.same rfl (.same rfl (.same rfl (.same rfl (.same rfl (.same rfl (.same rfl (.same rfl (.same rfl (.same rfl .nil))))))))))))))))) ?_
                        exact Fin.reach (()) (trivial) (.same rfl (.same rfl (.same rfl .nil))) (.eq rfl (by rw [hrt, if_pos (by omega)]; push_cast; rfl) (.same rfl (.same rfl (.same rfl (.same rfl (.same rfl (.same rfl (.same rfl (.same rfl (.same rfl (.same rfl (.same rfl (.same rfl (.same rfl (.same rfl (.same rfl (.same rfl .nil)))))))))))))))))
                      · try simp only [decide_eq_true_eq, decide_eq_false_iff_not, beq_iff_eq, beq_eq_false_iff_ne, bne_iff_ne, bne_eq_false_iff_eq, Bool.and_eq_true, Bool.and_eq_false_iff, Bool.or_eq_true, Bool.or_eq_false_iff, Bool.not_eq_true', Bool.not_eq_false', gt_iff_lt, ge_iff_le, Int.not_lt, Int.not_le, ne_eq, Int.natCast_nonneg, true_and, and_true, Decidable.not_not, not_true_eq_false, not_false_eq_true] at hb5
                        refine Tr.skip ?_
                        exact Fin.reach (()) (trivial) (.same rfl (.same rfl (.same rfl .nil))) (.eq rfl (by rw [hrt, if_neg (by omega)]; rfl) (.same rfl (.same rfl (.same rfl (.same rfl (.same rfl (.same rfl (.same rfl (.same rfl (.same rfl (.same rfl (.same rfl (.same rfl (.same rfl (.same rfl (.same rfl (.same rfl .nil)))))))))))))))))
                    case jk23 =>
                      intro _ hI
                      refine Tr.seq ?_
                      refine Tr.region ?_
                      refine TrL.stepS 87 (.plain rfl (.move rfl (.of rfl))) rfl rfl ?_
                      refine TrL.stepS 88 (.plain rfl (.move rfl (.of rfl))) rfl rfl ?_
                      refine TrL.stepS 89 (.guarded rfl rfl rfl fun hg => .fieldP rfl (.of rfl) T.fl142_0) rfl rfl ?_
                      refine TrL.stepS 90 (.guarded rfl rfl rfl fun hg => .loadBN 32 (k := 3) (ds := [_, _, _]) rfl (.cond rfl hg) rfl rfl rfl T.ag140 rfl) rfl rfl ?_
                      refine TrL.stepS 91 (.guarded rfl rfl rfl fun hg => .fieldP rfl (.of rfl) T.fl142_0) rfl rfl ?_
                      refine TrL.stepS 92 (.guarded rfl rfl rfl fun hg => .loadBN 31 (k := 3) (ds := [_, _, _]) rfl (.cond rfl hg) rfl rfl rfl T.ag140 rfl) rfl rfl ?_
                      refine TrL.stepS 93 (.guarded rfl rfl rfl fun hg => .call rfl (F92 y.1 a.1) (.cons (.cond rfl hg) (.cons (.cond rfl hg) .nil))) rfl rfl ?_
                      refine TrL.stepS 94 (.guarded rfl rfl rfl fun hg => .move rfl (.of rfl)) rfl rfl ?_
                      refine TrL.stepS 95 (.guarded rfl rfl rfl fun hg => .neq rfl (.cond rfl hg) (.cond rfl hg)) rfl rfl ?_
                      refine TrL.stepS 96 (.plain rfl (.and rfl (.of rfl) (.cond rfl fun h => h))) rfl rfl ?_
                      refine TrL.stepS 97 (.plain rfl (.move rfl (.of rfl))) rfl rfl ?_
                      refine TrL.stepS 98 (.guarded rfl rfl rfl fun hg => .move rfl (.of rfl)) rfl rfl ?_
                      refine TrL.stepS 99 (.guarded rfl rfl rfl fun hg => .not rfl (.cond rfl hg)) rfl rfl ?_
                      refine TrL.stepS 100 (.guarded rfl rfl rfl fun hg => .move rfl (.cond rfl hg)) rfl rfl ?_
                      refine TrL.stepS 101 (.guarded2 rfl rfl rfl fun hp hg => .fieldP rfl (.of rfl) T.fl142_0) rfl rfl ?_
                      refine TrL.stepS 102 (.guarded2 rfl rfl rfl fun hp hg => .loadBN 32 (k := 3) (ds := [_, _, _]) rfl (.cond rfl ⟨hp, hg⟩) rfl rfl rfl T.ag140 rfl) rfl rfl ?_
                      refine TrL.stepS 103 (.guarded2 rfl rfl rfl fun hp hg => .fieldP rfl (.of rfl) T.fl142_0) rfl rfl ?_
                      refine TrL.stepS 104 (.guarded2 rfl rfl rfl fun hp hg => .loadBN 31 (k := 3) (ds := [_, _, _]) rfl (.cond rfl ⟨hp, hg⟩) rfl rfl rfl T.ag140 rfl) rfl rfl ?_
                      refine TrL.stepS 105 (.guarded2 rfl rfl rfl fun hp hg => .call rfl (F93 y.1 a.1) (.cons (.cond rfl ⟨hp, hg⟩) (.cons (.cond rfl ⟨hp, hg⟩) .nil))) rfl rfl ?_
                      refine TrL.stepS 106 (.guarded2 rfl rfl rfl fun hp hg => .move rfl (.of rfl)) rfl rfl ?_
                      refine TrL.stepS 107 (.guarded2 rfl rfl rfl fun hp hg => .neq rfl (.cond rfl ⟨hp, hg⟩) (.cond rfl ⟨hp, hg⟩)) rfl rfl ?_
                      refine TrL.stepS 108 (.guarded rfl rfl rfl fun hg => .and rfl (.cond rfl hg) (.cond rfl fun h => ⟨hg, h⟩)) rfl rfl ?_
                      refine TrL.stepS 109 (.plain rfl (.or rfl (.of rfl) (.cond rfl fun h => h))) rfl rfl ?_
                      refine TrL.nil ?_
                      refine Fin.keepG (Γ' := [(3, _), (7, _), (8, _), (9, _), (10, _), (11, _), (40, _), (41, _), (42, _), (54, _), (55, _), (56, _), (61, _), (62, _), (63, _), (109, _)]) (.same rfl (.same rfl (.same rfl (.same rfl (.same rfl (.same rfl (.same rfl (.same rfl (.same rfl (.same rfl (.same rfl (.same rfl (.same rfl (.same rfl (.same rfl (.same rfl .nil)))))))))))))))) ?_
                      refine Fin.next ?_
                      refine Tr.cond rfl (fun hb6 => ?_) (fun hb6 => ?_)
                      · try simp only [decide_eq_true_eq, decide_eq_false_iff_not, beq_iff_eq, beq_eq_false_iff_ne, bne_iff_ne, bne_eq_false_iff_eq, Bool.and_eq_true, Bool.and_eq_false_iff, Bool.or_eq_true, Bool.or_eq_false_iff, Bool.not_eq_true', Bool.not_eq_false', gt_iff_lt, ge_iff_le, Int.not_lt, Int.not_le, ne_eq, Int.natCast_nonneg, true_and, and_true, Decidable.not_not, not_true_eq_false, not_false_eq_true] at hb6
                        exfalso; cases second <;> simp at hb6
                      · try simp only [decide_eq_true_eq, decide_eq_false_iff_not, beq_iff_eq, beq_eq_false_iff_ne, bne_iff_ne, bne_eq_false_iff_eq, Bool.and_eq_true, Bool.and_eq_false_iff, Bool.or_eq_true, Bool.or_eq_false_iff, Bool.not_eq_true', Bool.not_eq_false', gt_iff_lt, ge_iff_le, Int.not_lt, Int.not_le, ne_eq, Int.natCast_nonneg, true_and, and_true, Decidable.not_not, not_true_eq_false, not_false_eq_true] at hb6
                        refine Tr.skip ?_
                        refine Fin.blockNormal ?_
                        refine Fin.next ?_
                        refine Tr.region ?_
                        first | refine TrL.stepS 110 (.plain rfl (.addI L.bd_i64 rfl (.of rfl) (.of rfl) (by omega) (by omega))) rfl rfl ?_ | refine TrL.stepS 110 (.plain rfl (.add rfl (.of rfl) (.of rfl))) rfl rfl ?_
                        refine TrL.stepS 63 (.plain rfl (.move rfl (.of rfl))) rfl rfl ?_
                        refine TrL.nil ?_
                        refine Fin.keepG (Γ' := [(3, _), (7, _), (8, _), (9, _), (10, _), (11, _), (40, _), (41, _), (42, _), (54, _), (55, _), (56, _), (61, _), (62, _), (63, _)]) (.same rfl (.same rfl (.same rfl (.same rfl (.same rfl (.same rfl (.same rfl (.same rfl (.same rfl (.same rfl (.same rfl (.same rfl (.same rfl (.same rfl (.same rfl .nil))))))))))))))) ?_
                        exact Fin.again (j + 1) (by omega) (by omega) (.same rfl (.same rfl .nil)) (.eq rfl (by rfl) (.eq rfl (by first | rfl | (congr 1; first | done | omega | (push_cast; omega) | (push_cast; rfl))) (.same rfl (.same rfl (.same rfl (.same rfl (.same rfl (.same rfl (.same rfl (.same rfl (.same rfl (.same rfl (.same rfl (.same rfl (.same rfl .nil)))))))))))))))
                  · try simp only [decide_eq_true_eq, decide_eq_false_iff_not, beq_iff_eq, beq_eq_false_iff_ne, bne_iff_ne, bne_eq_false_iff_eq, Bool.and_eq_true, Bool.and_eq_false_iff, Bool.or_eq_true, Bool.or_eq_false_iff, Bool.not_eq_true', Bool.not_eq_false', gt_iff_lt, ge_iff_le, Int.not_lt, Int.not_le, ne_eq, Int.natCast_nonneg, true_and, and_true, Decidable.not_not, not_true_eq_false, not_false_eq_true] at hb4
                    have htk : rows.take j = rows := List.take_of_length_le (by omega)
                    have hat := isort_at hos ha
                    have hrk := rank_le (c := fun a b : Rw => cmpP second a.1 b.1) (l := rows) (i := i) (x := a)
                    refine Tr.exit ?_
                    refine Fin.thenExit ?_
                    refine Fin.thenExit ?_
                    refine Fin.blockOut ?_
                    refine Fin.next ?_
                    refine Tr.seq ?_
                    rw [htk]
                    refine Tr.regionK T.mixed (by kernel_rfl) (by kernel_rfl) ?_
                    refine ChainK.consS 111 (.plain rfl (.move rfl (.of rfl))) rfl ?_
                    refine ChainK.consS 112 (.plain rfl (.move rfl (.of rfl))) rfl ?_
                    refine ChainK.consS 113 (.plain rfl (.indexE rfl (.of rfl) (.of rfl) Try.underlying138 T.sz142 (by omega) hat)) rfl ?_
                    refine ChainK.consS 114 (.plain rfl (.load7 rfl (.of rfl) T.ag142)) rfl ?_
                    refine ChainK.consS 115 (.plain rfl (.loadBN 31 (k := 7) (ds := [_, _, _, _, _, _, _]) rfl (.of rfl) rfl rfl rfl T.ag142 rfl)) rfl ?_
                    refine ChainK.consS 116 (.plain rfl (.neqS rfl (.of rfl) (.of rfl) (by kernel_rfl) (T.eq142 _ _ _ _ _ _ _ _ _ _ _ _ _ _))) rfl ?_
                    refine ChainK.nil ?_
                    refine Fin.keepG (Γ' := [(3, _), (7, _), (8, _), (40, _), (41, _), (42, _), (54, _), (55, _), (56, _), (116, _)]) (.same rfl (.same rfl (.same rfl (.same rfl (.same rfl (.same rfl (.same rfl (.same rfl (.same rfl (.same rfl .nil)))))))))) ?_
                    refine Fin.next ?_
                    refine Tr.cond rfl (fun hb7 => ?_) (fun hb7 => ?_)
                    · try simp only [decide_eq_true_eq, decide_eq_false_iff_not, beq_iff_eq, beq_eq_false_iff_ne, bne_iff_ne, bne_eq_false_iff_eq, Bool.and_eq_true, Bool.and_eq_false_iff, Bool.or_eq_true, Bool.or_eq_false_iff, Bool.not_eq_true', Bool.not_eq_false', gt_iff_lt, ge_iff_le, Int.not_lt, Int.not_le, ne_eq, Int.natCast_nonneg, true_and, and_true, Decidable.not_not, not_true_eq_false, not_false_eq_true] at hb7
                      simp at hb7
                    · try simp only [decide_eq_true_eq, decide_eq_false_iff_not, beq_iff_eq, beq_eq_false_iff_ne, bne_iff_ne, bne_eq_false_iff_eq, Bool.and_eq_true, Bool.and_eq_false_iff, Bool.or_eq_true, Bool.or_eq_false_iff, Bool.not_eq_true', Bool.not_eq_false', gt_iff_lt, ge_iff_le, Int.not_lt, Int.not_le, ne_eq, Int.natCast_nonneg, true_and, and_true, Decidable.not_not, not_true_eq_false, not_false_eq_true] at hb7
                      refine Tr.skip ?_
                      refine Fin.blockNormal ?_
                      refine Fin.next ?_
                      refine Tr.region ?_
                      first | refine TrL.stepS 117 (.plain rfl (.addI L.bd_i64 rfl (.of rfl) (.of rfl) (by omega) (by omega))) rfl rfl ?_ | refine TrL.stepS 117 (.plain rfl (.add rfl (.of rfl) (.of rfl))) rfl rfl ?_
                      refine TrL.stepS 56 (.plain rfl (.move rfl (.of rfl))) rfl rfl ?_
                      refine TrL.nil ?_
                      refine Fin.keepG (Γ' := [(3, _), (7, _), (8, _), (40, _), (41, _), (42, _), (54, _), (55, _), (56, _)]) (.same rfl (.same rfl (.same rfl (.same rfl (.same rfl (.same rfl (.same rfl (.same rfl (.same rfl .nil))))))))) ?_
                      exact Fin.again (i + 1) (by omega) (by omega) (.same rfl .nil) (.eq rfl (by first | rfl | (congr 1; first | done | omega | (push_cast; omega) | (push_cast; rfl))) (.same rfl (.same rfl (.same rfl (.same rfl (.same rfl (.same rfl (.same rfl (.same rfl .nil)))))))))
              · try simp only [decide_eq_true_eq, decide_eq_false_iff_not, beq_iff_eq, beq_eq_false_iff_ne, bne_iff_ne, bne_eq_false_iff_eq, Bool.and_eq_true, Bool.and_eq_false_iff, Bool.or_eq_true, Bool.or_eq_false_iff, Bool.not_eq_true', Bool.not_eq_false', gt_iff_lt, ge_iff_le, Int.not_lt, Int.not_le, ne_eq, Int.natCast_nonneg, true_and, and_true, Decidable.not_not, not_true_eq_false, not_false_eq_true] at hb3
                refine Tr.exit ?_
                refine Fin.thenExit ?_
                refine Fin.thenExit ?_
                refine Fin.blockOut ?_
                refine Fin.next ?_
                refine Tr.seq ?_
                refine Tr.region ?_
                refine TrL.stepS 118 (.plain rfl (.move rfl (.of rfl))) rfl rfl ?_
                refine TrL.sliceOwn 33 (K := rowR) (xs := []) rfl rfl 119 rfl rfl .nil Try.underlying138 T.sz142 T.zb142 rfl (by decide) rfl fun v119 hv119 => ?_
                refine TrL.stepS 120 (.plain rfl (.move rfl (.of rfl))) rfl rfl ?_
                refine TrL.appendG 33 (bytes := 64) rfl rfl 121 rfl rfl (.of rfl) rfl rfl (.of rfl) Try.underlying138 T.sz142 T.el142 (by simp [isort_len]; omega) (by simp only [maxLen, List.length_append, List.length_cons, List.length_nil, List.length_map, List.length_take, isort_len]; omega) fun v121 => ?_
                refine TrL.freezeF 33 (R := Lst rowR (isort (fun a b => cmpP second a.1 b.1) rows)) rfl (fun F L w h => by have := Own.lst h; simpa using this) rfl ?_
                refine TrL.stepS 122 (.plain rfl (.call rfl (F94 _ _ (by rw [isort_len]; omega) (by rw [isort_len]; omega)) (.cons (.of rfl) (.cons (.fact 33 rfl rfl rfl) .nil)))) rfl rfl ?_
                refine TrL.stepS 123 (.plain rfl (.not rfl (.of rfl))) rfl rfl ?_
                refine TrL.stepS 124 (.plain rfl (.move rfl (.of rfl))) rfl rfl ?_
                refine TrL.stepS 125 (.guarded rfl rfl rfl fun hg => .move rfl (.of rfl)) rfl rfl ?_
                refine TrL.stepS 126 (.guarded rfl rfl rfl fun hg => .len rfl (.cond rfl hg) Try.underlying138) rfl rfl ?_
                refine TrL.stepS 127 (.guarded rfl rfl rfl fun hg => .gtr rfl (.cond rfl hg) (.of rfl)) rfl rfl ?_
                refine TrL.stepS 128 (.guarded rfl rfl rfl fun hg => .move rfl (.cond rfl hg)) rfl rfl ?_
                refine TrL.stepS 129 (.guarded2 rfl rfl rfl fun hp hg => .move rfl (.of rfl)) rfl rfl ?_
                refine TrL.stepS 130 (.guarded2 rfl rfl rfl fun hp hg => .move rfl (.of rfl)) rfl rfl ?_
                refine TrL.stepS 131 (.guarded2 rfl rfl rfl fun hp hg => .sliceFrom rfl (.cond rfl ⟨hp, hg⟩) (.of rfl) Try.underlying138 T.sz142 (by first | omega | (simp at hg; omega) | (simp at hg hp; omega)) (by first | omega | (simp at hg; omega) | (simp at hg hp; omega))) rfl rfl ?_
                refine TrL.stepS 132 (.guarded2 rfl rfl rfl fun hp hg => .call rfl (F94 _ _ (by rw [isort_len]; omega) (by rw [List.length_drop, isort_len]; omega)) (.cons (.cond rfl ⟨hp, hg⟩) (.cons (.cond rfl ⟨hp, hg⟩) .nil))) rfl rfl ?_
                refine TrL.stepS 133 (.guarded rfl rfl rfl fun hg => .and rfl (.cond rfl hg) (.cond rfl fun h => ⟨hg, h⟩)) rfl rfl ?_
                refine TrL.stepS 134 (.plain rfl (.or rfl (.of rfl) (.cond rfl fun h => h))) rfl rfl ?_
                refine TrL.nil ?_
                refine Fin.keepG (Γ' := [(3, _), (40, _), (41, _), (42, _), (134, _)]) (.same rfl (.same rfl (.same rfl (.same rfl (.same rfl .nil))))) ?_
                refine Fin.next ?_
                refine Tr.cond rfl (fun hb8 => ?_) (fun hb8 => ?_)
                · try simp only [decide_eq_true_eq, decide_eq_false_iff_not, beq_iff_eq, beq_eq_false_iff_ne, bne_iff_ne, bne_eq_false_iff_eq, Bool.and_eq_true, Bool.and_eq_false_iff, Bool.or_eq_true, Bool.or_eq_false_iff, Bool.not_eq_true', Bool.not_eq_false', gt_iff_lt, ge_iff_le, Int.not_lt, Int.not_le, ne_eq, Int.natCast_nonneg, true_and, and_true, Decidable.not_not, not_true_eq_false, not_false_eq_true] at hb8
                  exfalso; simp [isort_len] at hb8; have h1 := congrArg List.length hb8.2; have h2 := hb8.1; simp only [List.length_tail, isort_len] at h1; omega
                · try simp only [decide_eq_true_eq, decide_eq_false_iff_not, beq_iff_eq, beq_eq_false_iff_ne, bne_iff_ne, bne_eq_false_iff_eq, Bool.and_eq_true, Bool.and_eq_false_iff, Bool.or_eq_true, Bool.or_eq_false_iff, Bool.not_eq_true', Bool.not_eq_false', gt_iff_lt, ge_iff_le, Int.not_lt, Int.not_le, ne_eq, Int.natCast_nonneg, true_and, and_true, Decidable.not_not, not_true_eq_false, not_false_eq_true] at hb8
                  refine Tr.skip ?_
                  refine Fin.blockNormal ?_
                  refine Fin.next ?_
                  refine Tr.region ?_
                  first | refine TrL.stepS 135 (.plain rfl (.addI L.bd_i64 rfl (.of rfl) (.of rfl) (by omega) (by omega))) rfl rfl ?_ | refine TrL.stepS 135 (.plain rfl (.add rfl (.of rfl) (.of rfl))) rfl rfl ?_
                  refine TrL.stepS 42 (.plain rfl (.move rfl (.of rfl))) rfl rfl ?_
                  refine TrL.nil ?_
                  refine Fin.keepG (Γ' := [(3, _), (40, _), (41, _), (42, _)]) (.same rfl (.same rfl (.same rfl (.same rfl .nil)))) ?_
                  exact Fin.again (n + 1) (by omega) (by omega) (.same rfl .nil) (.eq rfl (by first | rfl | (congr 1; first | done | omega | (push_cast; omega) | (push_cast; rfl))) (.same rfl (.same rfl (.same rfl .nil))))
        · try simp only [decide_eq_true_eq, decide_eq_false_iff_not, beq_iff_eq, beq_eq_false_iff_ne, bne_iff_ne, bne_eq_false_iff_eq, Bool.and_eq_true, Bool.and_eq_false_iff, Bool.or_eq_true, Bool.or_eq_false_iff, Bool.not_eq_true', Bool.not_eq_false', gt_iff_lt, ge_iff_le, Int.not_lt, Int.not_le, ne_eq, Int.natCast_nonneg, true_and, and_true, Decidable.not_not, not_true_eq_false, not_false_eq_true] at hb1
          refine Tr.exit ?_
          refine Fin.thenExit ?_
          refine Fin.thenExit ?_
          refine Fin.blockOut ?_
          refine Fin.next ?_
          refine Tr.seq ?_
          refine Tr.region ?_
          refine TrL.stepS 2 (.plain rfl (.assign rfl (.of rfl))) rfl rfl ?_
          refine TrL.nil ?_
          refine Fin.keepG (Γ' := [(2, _)]) (.same rfl .nil) ?_
          refine Fin.next ?_
          refine Tr.ret ?_
          exact Fin.retI (rs := [_]) (Rs' := [is (.bool true)]) rfl (.cons (.tmp rfl) .nil) (.cons (L.iv rfl) .nil)

end Go.Proofs.Ytemkogoclljhpaa