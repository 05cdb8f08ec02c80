import Derived.Test.YtemkogoclljhpaaS8
namespace Go.Proofs.Ytemkogoclljhpaa
open Go Go.Proofs.Ytemkogoclljhpaa.L
set_option linter.unusedVariables false
set_option linter.unusedSimpArgs false

namespace T
theorem S9bd213_0 (c0 : Fn) (c0f : Array Value) (c0c : Array Value) : Try.prog.built 213 [(0, .func c0 c0f c0c)] = some #[.func c0 c0f c0c] := by kernel_rfl
theorem S9bd219_0_1_2 (c0 : Int) (c1 : Int) (c2 : Int) : Try.prog.built 219 [(0, .int .i64 c0), (1, .int .i64 c1), (2, .int .i64 c2)] = some #[.int .i64 c0, .int .i64 c1, .int .i64 c2] := by kernel_rfl
end T


theorem decide_rows (x y : Rw) : decide (x = y) = decide (x.1.1.toList = y.1.1.toList ∧ x.1.2.1 = y.1.2.1 ∧ x.1.2.2 = y.1.2.2 ∧ x.2.1 = y.2.1 ∧ x.2.2.1 = y.2.2.1 ∧ x.2.2.2.1 = y.2.2.2.1 ∧ x.2.2.2.2 = y.2.2.2.2) := by
  obtain ⟨⟨a, b, c⟩, d, e, f, g⟩ := x
  obtain ⟨⟨a', b', c'⟩, d', e', f', g'⟩ := y
  have := bytes_same a a'
  simp only [Prod.mk.injEq]
  rw [decide_eq_decide]
  have h : a.toList = a'.toList ↔ a = a' := by
    have h2 : (a.toList == a'.toList) = decide (a = a') := this
    constructor
    · intro h; simpa [h] using h2.symm
    · rintro rfl; rfl
  rw [h]; simp [and_assoc]
theorem row_eq {x y : Rw} (h : (x.1.1.toList == y.1.1.toList && (x.1.2.1 == y.1.2.1) && (x.1.2.2 == y.1.2.2) && (x.2.1 == y.2.1) && (x.2.2.1 == y.2.2.1) && (x.2.2.2.1 == y.2.2.2.1) && (x.2.2.2.2 == y.2.2.2.2)) = true) : x = y := by
  have h2 := decide_rows x y
  simp only [Bool.and_eq_true, beq_iff_eq, and_assoc] at h
  rw [decide_eq_true h] at h2
  simpa using h2
theorem row_ne {x y : Rw} (h : (x.1.1.toList == y.1.1.toList && (x.1.2.1 == y.1.2.1) && (x.1.2.2 == y.1.2.2) && (x.2.1 == y.2.1) && (x.2.2.1 == y.2.2.1) && (x.2.2.2.1 == y.2.2.2.1) && (x.2.2.2.2 == y.2.2.2.2)) = false) : x ≠ y := by
  rintro rfl
  simp at h
theorem idx219_0 (a b c : Int) : ∀ w, (Instr.index 219 (.agg #[.int .i64 a, .int .i64 b, .int .i64 c]) (.int .i64 0)).run Try.prog w = .ok (.int .i64 a) w := by
  intro w
  kernel_rfl
theorem idx219_1 (a b c : Int) : ∀ w, (Instr.index 219 (.agg #[.int .i64 a, .int .i64 b, .int .i64 c]) (.int .i64 1)).run Try.prog w = .ok (.int .i64 b) w := by
  intro w
  kernel_rfl
theorem idx219_2 (a b c : Int) : ∀ w, (Instr.index 219 (.agg #[.int .i64 a, .int .i64 b, .int .i64 c]) (.int .i64 2)).run Try.prog w = .ok (.int .i64 c) w := by
  intro w
  kernel_rfl

/- slices.Equal[[]tidepool/agg.Row,tidepool/agg.Row] -/
set_option maxRecDepth 100000 in
theorem F147 (xs ys : List Rw) (hx0 : xs.length ≤ 1048576) (hy0 : ys.length ≤ 1048576) : FnP Try.prog 147 [Lst rowR xs, Lst rowR ys] (is (.bool (decide (xs = ys)))) := by
  refine FnP.mk' Try.func147 T.nm147 rfl (N := 26) rfl rfl fun B hB hκ => ?_
  refine Tr.seq ?_
  refine Tr.region ?_
  refine TrL.stepS 4 (.plain rfl (.assign rfl (.of rfl))) rfl rfl ?_
  refine TrL.nil ?_
  refine Fin.keepG (Γ' := [(0, _), (1, _)]) (.same rfl (.same rfl .nil)) ?_
  refine Fin.next ?_
  refine Tr.seq ?_
  refine Tr.seq ?_
  refine Tr.region ?_
  refine TrL.stepS 6 (.plain rfl (.move rfl (.of rfl))) rfl rfl ?_
  refine TrL.stepS 7 (.plain rfl (.len rfl (.of rfl) Try.underlying138)) rfl rfl ?_
  refine TrL.stepS 8 (.plain rfl (.move rfl (.of rfl))) rfl rfl ?_
  refine TrL.stepS 9 (.plain rfl (.len rfl (.of rfl) Try.underlying138)) rfl rfl ?_
  refine TrL.stepS 10 (.plain rfl (.neq rfl (.of rfl) (.of rfl))) rfl rfl ?_
  refine TrL.nil ?_
  refine Fin.keepG (Γ' := [(0, _), (1, _), (10, _)]) (.same rfl (.same rfl (.same rfl .nil))) ?_
  refine Fin.next ?_
  refine Tr.cond rfl (fun hb0 => ?_) (fun hb0 => ?_)
  · try simp only [decide_eq_true_eq, decide_eq_false_iff_not, beq_iff_eq, beq_eq_false_iff_ne, bne_iff_ne, bne_eq_false_iff_eq, Bool.and_eq_true, Bool.and_eq_false_iff, Bool.or_eq_true, Bool.or_eq_false_iff, Bool.not_eq_true', Bool.not_eq_false', gt_iff_lt, ge_iff_le, Int.not_lt, Int.not_le, ne_eq, Int.natCast_nonneg, true_and, and_true, Decidable.not_not, not_true_eq_false, not_false_eq_true] at hb0
    refine Tr.seq ?_
    refine Tr.region ?_
    refine TrL.stepS 4 (.plain rfl (.assign rfl (.of rfl))) rfl rfl ?_
    refine TrL.nil ?_
    refine Fin.keepG (Γ' := [(4, _)]) (.same rfl .nil) ?_
    refine Fin.next ?_
    refine Tr.ret ?_
    refine Fin.thenRet ?_
    refine Fin.retI (rs := [_]) (Rs' := [is (.bool (decide (xs = ys)))]) rfl (.cons (.tmp rfl) .nil) (.cons (L.iv ?_) .nil)
    · congr 1; symm; exact decide_eq_false (fun h => by rw [h] at hb0; exact hb0 rfl)
  · try simp only [decide_eq_true_eq, decide_eq_false_iff_not, beq_iff_eq, beq_eq_false_iff_ne, bne_iff_ne, bne_eq_false_iff_eq, Bool.and_eq_true, Bool.and_eq_false_iff, Bool.or_eq_true, Bool.or_eq_false_iff, Bool.not_eq_true', Bool.not_eq_false', gt_iff_lt, ge_iff_le, Int.not_lt, Int.not_le, ne_eq, Int.natCast_nonneg, true_and, and_true, Decidable.not_not, not_true_eq_false, not_false_eq_true] at hb0
    have hle : xs.length = ys.length := by omega
    refine Tr.skip ?_
    refine Fin.next ?_
    refine Tr.seq ?_
    refine Tr.seq ?_
    refine Tr.region ?_
    refine TrL.stepS 11 (.plain rfl (.move rfl (.of rfl))) rfl rfl ?_
    refine TrL.stepS 12 (.plain rfl (.len rfl (.of rfl) Try.underlying138)) rfl rfl ?_
    refine TrL.stepS 13 (.plain rfl (.move rfl (.of rfl))) rfl rfl ?_
    refine TrL.nil ?_
    refine Fin.keepG (Γ' := [(0, _), (1, _), (12, _), (13, _)]) (.same rfl (.same rfl (.same rfl (.same rfl .nil)))) ?_
    refine Fin.next ?_
    refine Tr.block ?_
    refine Tr.loopK (γ := Nat) (Γk := [(0, _), (1, _), (12, _)]) (Mk := []) (.same rfl (.same rfl (.same rfl .nil))) .nil (fun i => i ≤ xs.length ∧ xs.take i = ys.take i) (fun i => fun r => r) (fun i => fun r => (13, is (.int .i64 i)) :: r) (fun i => xs.length - i) (0) ?h0_0 ?hM_0 ?hG_0 ?hl_0
    case h0_0 => exact ⟨Nat.zero_le _, rfl⟩
    case hM_0 => exact .nil
    case hG_0 => exact (.eq rfl (by first | rfl | (congr 1; first | done | omega | (push_cast; omega) | (push_cast; rfl))) (.same rfl (.same rfl (.same rfl .nil))))
    case hl_0 =>
      intro i hI
      obtain ⟨hi, hI⟩ := hI
      refine Tr.seq ?_
      refine Tr.region ?_
      refine TrL.stepS 14 (.plain rfl (.lss rfl (.of rfl) (.of rfl))) rfl rfl ?_
      refine TrL.nil ?_
      refine Fin.next ?_
      refine Tr.seq ?_
      refine Tr.cond rfl (fun hb1 => ?_) (fun hb1 => ?_)
      · try simp only [decide_eq_true_eq, decide_eq_false_iff_not, beq_iff_eq, beq_eq_false_iff_ne, bne_iff_ne, bne_eq_false_iff_eq, Bool.and_eq_true, Bool.and_eq_false_iff, Bool.or_eq_true, Bool.or_eq_false_iff, Bool.not_eq_true', Bool.not_eq_false', gt_iff_lt, ge_iff_le, Int.not_lt, Int.not_le, ne_eq, Int.natCast_nonneg, true_and, and_true, Decidable.not_not, not_true_eq_false, not_false_eq_true] at hb1
        obtain ⟨x, hx⟩ := ex_get (xs := xs) (i := i) (by omega)
        obtain ⟨y, hy⟩ := ex_get (xs := ys) (i := i) (by omega)
        refine Tr.skip ?_
        refine Fin.next ?_
        refine Tr.seq ?_
        refine Tr.block ?_
        refine Tr.seq ?_
        refine Tr.region ?_
        refine TrL.stepS 15 (.plain rfl (.move rfl (.of rfl))) rfl rfl ?_
        refine TrL.stepS 5 (.plain rfl (.assign rfl (.of rfl))) rfl rfl ?_
        refine TrL.nil ?_
        refine Fin.keepG (Γ' := [(0, _), (1, _), (5, _), (12, _), (13, _)]) (.same rfl (.same rfl (.same rfl (.same rfl (.same rfl .nil))))) ?_
        refine Fin.next ?_
        refine Tr.seq ?_
        refine Tr.regionK T.mixed (by kernel_rfl) (by kernel_rfl) ?_
        refine ChainK.consS 16 (.plain rfl (.move rfl (.of rfl))) rfl ?_
        refine ChainK.consS 17 (.plain rfl (.move rfl (.of rfl))) rfl ?_
        refine ChainK.consS 18 (.plain rfl (.indexE rfl (.of rfl) (.of rfl) Try.underlying138 T.sz142 (by omega) hx)) rfl ?_
        refine ChainK.consS 19 (.plain rfl (.load7 rfl (.of rfl) T.ag142)) rfl ?_
        refine ChainK.consS 20 (.plain rfl (.move rfl (.of rfl))) rfl ?_
        refine ChainK.consS 21 (.plain rfl (.move rfl (.of rfl))) rfl ?_
        refine ChainK.consS 22 (.plain rfl (.indexE rfl (.of rfl) (.of rfl) Try.underlying138 T.sz142 (by omega) hy)) rfl ?_
        refine ChainK.consS 23 (.plain rfl (.load7 rfl (.of rfl) T.ag142)) rfl ?_
        refine ChainK.consS 24 (.plain rfl (.neqS rfl (.of rfl) (.of rfl) (by kernel_rfl) (T.eq142 _ _ _ _ _ _ _ _ _ _ _ _ _ _))) rfl ?_
        refine ChainK.nil ?_
        refine Fin.keepG (Γ' := [(0, _), (1, _), (12, _), (13, _), (24, _)]) (.same rfl (.same rfl (.same rfl (.same rfl (.same rfl .nil))))) ?_
        refine Fin.next ?_
        refine Tr.cond rfl (fun hb2 => ?_) (fun hb2 => ?_)
        · have hr2 := hb2; try simp only [decide_eq_true_eq, decide_eq_false_iff_not, beq_iff_eq, beq_eq_false_iff_ne, bne_iff_ne, bne_eq_false_iff_eq, Bool.and_eq_true, Bool.and_eq_false_iff, Bool.or_eq_true, Bool.or_eq_false_iff, Bool.not_eq_true', Bool.not_eq_false', gt_iff_lt, ge_iff_le, Int.not_lt, Int.not_le, ne_eq, Int.natCast_nonneg, true_and, and_true, Decidable.not_not, not_true_eq_false, not_false_eq_true] at hb2
          have hxy : x ≠ y := row_ne (by rw [Bool.not_eq_true'] at hr2; exact hr2)
          refine Tr.seq ?_
          refine Tr.region ?_
          refine TrL.stepS 4 (.plain rfl (.assign rfl (.of rfl))) rfl rfl ?_
          refine TrL.nil ?_
          refine Fin.keepG (Γ' := [(4, _)]) (.same rfl .nil) ?_
          refine Fin.next ?_
          refine Tr.ret ?_
          refine Fin.blockRet ?_
          refine Fin.thenRet ?_
          refine Fin.thenRet ?_
          refine Fin.blockRet ?_
          refine Fin.thenRet ?_
          refine Fin.retI (rs := [_]) (Rs' := [is (.bool (decide (xs = ys)))]) rfl (.cons (.tmp rfl) .nil) (.cons (L.iv ?_) .nil)
          · congr 1; symm; exact decide_eq_false (fun h => by subst h; rw [hx] at hy; cases hy; exact hxy rfl)
        · have hr2 := hb2; try simp only [decide_eq_true_eq, decide_eq_false_iff_not, beq_iff_eq, beq_eq_false_iff_ne, bne_iff_ne, bne_eq_false_iff_eq, Bool.and_eq_true, Bool.and_eq_false_iff, Bool.or_eq_true, Bool.or_eq_false_iff, Bool.not_eq_true', Bool.not_eq_false', gt_iff_lt, ge_iff_le, Int.not_lt, Int.not_le, ne_eq, Int.natCast_nonneg, true_and, and_true, Decidable.not_not, not_true_eq_false, not_false_eq_true] at hb2
          have hxy : x = y := row_eq (by simpa using hr2)
          refine Tr.skip ?_
          refine Fin.blockNormal ?_
          refine Fin.next ?_
          refine Tr.region ?_
          first | refine TrL.stepS 25 (.plain rfl (.addI L.bd_i64 rfl (.of rfl) (.of rfl) (by omega) (by omega))) rfl rfl ?_ | refine TrL.stepS 25 (.plain rfl (.add rfl (.of rfl) (.of rfl))) rfl rfl ?_
          refine TrL.stepS 13 (.plain rfl (.move rfl (.of rfl))) rfl rfl ?_
          refine TrL.nil ?_
          refine Fin.keepG (Γ' := [(0, _), (1, _), (12, _), (13, _)]) (.same rfl (.same rfl (.same rfl (.same rfl .nil)))) ?_
          exact Fin.again (i + 1) (⟨by omega, by rw [take_snoc hx, take_snoc hy, hI, hxy]⟩) (by omega) .nil (.eq rfl (by first | rfl | (congr 1; first | done | omega | (push_cast; omega) | (push_cast; rfl))) (.same rfl (.same rfl (.same rfl .nil))))
      · try simp only [decide_eq_true_eq, decide_eq_false_iff_not, beq_iff_eq, beq_eq_false_iff_ne, bne_iff_ne, bne_eq_false_iff_eq, Bool.and_eq_true, Bool.and_eq_false_iff, Bool.or_eq_true, Bool.or_eq_false_iff, Bool.not_eq_true', Bool.not_eq_false', gt_iff_lt, ge_iff_le, Int.not_lt, Int.not_le, ne_eq, Int.natCast_nonneg, true_and, and_true, Decidable.not_not, not_true_eq_false, not_false_eq_true] at hb1
        refine Tr.exit ?_
        refine Fin.thenExit ?_
        refine Fin.thenExit ?_
        refine Fin.blockOut ?_
        refine Fin.next ?_
        refine Tr.seq ?_
        refine Tr.region ?_
        refine TrL.stepS 4 (.plain rfl (.assign rfl (.of rfl))) rfl rfl ?_
        refine TrL.nil ?_
        refine Fin.keepG (Γ' := [(4, _)]) (.same rfl .nil) ?_
        refine Fin.next ?_
        refine Tr.ret ?_
        refine Fin.retI (rs := [_]) (Rs' := [is (.bool (decide (xs = ys)))]) rfl (.cons (.tmp rfl) .nil) (.cons (L.iv ?_) .nil)
        · congr 1; symm; exact decide_eq_true (by rwa [List.take_of_length_le (by omega), List.take_of_length_le (by omega)] at hI)

/- tidepool/agg.Same -/
set_option maxRecDepth 100000 in
theorem F94 (xs ys : List Rw) (hx0 : xs.length ≤ 1048576) (hy0 : ys.length ≤ 1048576) : FnP Try.prog 94 [Lst rowR xs, Lst rowR ys] (is (.bool (decide (xs = ys)))) := by
  refine FnP.mk' Try.func94 T.nm94 rfl (N := 8) rfl rfl fun B hB hκ => ?_
  refine Tr.seq ?_
  refine Tr.region ?_
  refine TrL.stepS 4 (.plain rfl (.assign rfl (.of rfl))) rfl rfl ?_
  refine TrL.nil ?_
  refine Fin.keepG (Γ' := [(0, _), (1, _)]) (.same rfl (.same rfl .nil)) ?_
  refine Fin.next ?_
  refine Tr.seq ?_
  refine Tr.region ?_
  refine TrL.stepS 5 (.plain rfl (.move rfl (.of rfl))) rfl rfl ?_
  refine TrL.stepS 6 (.plain rfl (.move rfl (.of rfl))) rfl rfl ?_
  refine TrL.stepS 7 (.plain rfl (.call rfl (F147 xs ys hx0 hy0) (.cons (.of rfl) (.cons (.of rfl) .nil)))) rfl rfl ?_
  refine TrL.stepS 4 (.plain rfl (.assign rfl (.of rfl))) rfl rfl ?_
  refine TrL.nil ?_
  refine Fin.keepG (Γ' := [(4, _)]) (.same rfl .nil) ?_
  refine Fin.next ?_
  refine Tr.ret ?_
  exact Fin.retI (rs := [_]) (Rs' := [is (.bool (decide (xs = ys)))]) rfl (.cons (.tmp rfl) .nil) (.cons (L.iv rfl) .nil)

/- tidepool/agg.Sort -/
set_option maxRecDepth 100000 in
theorem F90 (second : Bool) (xs : List Rw) (hl : xs.length ≤ 20) : FnP Try.prog 90 [is (.bool second), Lst rowR xs] (Lst rowR (isort (fun a b => cmpP second a.1 b.1) xs)) := by
  have hfo : ∀ x y : Pn, FnP Try.prog (if second = true then 92 else 93) [is (.agg #[.string x.1, .int .i64 x.2.1, .int .i64 x.2.2]), is (.agg #[.string y.1, .int .i64 y.2.1, .int .i64 y.2.2])] (is (.int .i64 (cmpP second x y))) := by
    intro x y
    cases second
    · exact F93 x y
    · exact F92 x y
  refine FnP.mk' Try.func90 T.nm90 rfl (N := 17) rfl rfl fun B hB hκ => ?_
  refine Tr.seq ?_
  refine Tr.region ?_
  refine TrL.stepS 4 (.plain rfl (.assign rfl (.of rfl))) rfl rfl ?_
  refine TrL.nil ?_
  refine Fin.keepG (Γ' := [(0, _), (1, _)]) (.same rfl (.same rfl .nil)) ?_
  refine Fin.next ?_
  refine Tr.seq ?_
  refine Tr.region ?_
  refine TrL.stepS 7 (.plain rfl (.build rfl (.cons (.of rfl) .nil) (T.S9bd213_0 _ _ _))) rfl rfl ?_
  refine TrL.allocS 20 (zs := [.nilFunc]) rfl rfl (by kernel_rfl) 5 rfl rfl rfl fun b20 => ?_
  refine TrL.storeW 20 (vs := [_]) rfl rfl rfl (.of rfl) (.of rfl) rfl rfl T.sz213 rfl rfl ?_
  refine TrL.nil ?_
  refine Fin.keepG (Γ' := [(0, _), (1, _), (5, _)]) (.same rfl (.same rfl (.same rfl .nil))) ?_
  refine Fin.next ?_
  refine Tr.seqJK (γ := Unit) (Γk := [(1, _), (5, _)]) (Mk := []) (.same rfl (.same rfl .nil)) .nil (fun _ => True) (fun _ => fun r => (20, Blk b20 [.func (.func (if second = true then 92 else 93)) #[] #[]] 213) :: r) (fun _ => fun r => r) ?jx4 ?jk4
  case jx4 =>
    refine Tr.seq ?_
    refine Tr.region ?_
    refine TrL.stepS 8 (.plain rfl (.move rfl (.of rfl))) rfl rfl ?_
    refine TrL.nil ?_
    refine Fin.keepG (Γ' := [(1, _), (5, _), (8, _)]) (.same rfl (.same rfl (.same rfl .nil))) ?_
    refine Fin.next ?_
    refine Tr.cond rfl (fun hb0 => ?_) (fun hb0 => ?_)
    · try simp only [decide_eq_true_eq, decide_eq_false_iff_not, beq_iff_eq, beq_eq_false_iff_ne, bne_iff_ne, bne_eq_false_iff_eq, Bool.and_eq_true, Bool.and_eq_false_iff, Bool.or_eq_true, Bool.or_eq_false_iff, Bool.not_eq_true', Bool.not_eq_false', gt_iff_lt, ge_iff_le, Int.not_lt, Int.not_le, ne_eq, Int.natCast_nonneg, true_and, and_true, Decidable.not_not, not_true_eq_false, not_false_eq_true] at hb0
      refine Tr.region ?_
      refine TrL.stepS 9 (.plain rfl (.fieldP rfl (.of rfl) T.fl213_0)) rfl rfl ?_
      refine TrL.store1 20 rfl rfl rfl (.of rfl) (.of rfl) rfl rfl rfl T.sz146 rfl rfl ?_
      refine TrL.nil ?_
      refine Fin.keepG (Γ' := [(1, _), (5, _)]) (.same rfl (.same rfl .nil)) ?_
      exact Fin.reach (()) (trivial) (.cons rfl (fun F L w h => by rw [if_pos hb0]; exact h) .nil) (.same rfl (.same rfl .nil))
    · try simp only [decide_eq_true_eq, decide_eq_false_iff_not, beq_iff_eq, beq_eq_false_iff_ne, bne_iff_ne, bne_eq_false_iff_eq, Bool.and_eq_true, Bool.and_eq_false_iff, Bool.or_eq_true, Bool.or_eq_false_iff, Bool.not_eq_true', Bool.not_eq_false', gt_iff_lt, ge_iff_le, Int.not_lt, Int.not_le, ne_eq, Int.natCast_nonneg, true_and, and_true, Decidable.not_not, not_true_eq_false, not_false_eq_true] at hb0
      refine Tr.skip ?_
      exact Fin.reach (()) (trivial) (.cons rfl (fun F L w h => by rw [if_neg (by simp [hb0])]; exact h) .nil) (.same rfl (.same rfl .nil))
  case jk4 =>
    intro _ hI
    refine Tr.seq ?_
    refine Tr.region ?_
    refine TrL.stepS 10 (.plain rfl (.move rfl (.of rfl))) rfl rfl ?_
    refine TrL.callG [] [] [21] rfl rfl 11 rfl rfl (F139 xs (by omega)) (.cons (.of rfl) .nil) .nil rfl rfl (fun _ => rfl) fun v11 => ?_
    refine TrL.stepS 6 (.plain rfl (.assign rfl (.of rfl))) rfl rfl ?_
    refine TrL.nil ?_
    refine Fin.keepG (Γ' := [(5, _), (6, _)]) (.same rfl (.same rfl .nil)) ?_
    refine Fin.next ?_
    refine Tr.seq ?_
    refine Tr.region ?_
    refine TrL.stepS 12 (.plain rfl (.move rfl (.of rfl))) rfl rfl ?_
    refine TrL.stepS 13 (.plain rfl (.loadBN 20 (k := 1) (ds := [_]) rfl (.of rfl) rfl rfl rfl T.ag213 rfl)) rfl rfl ?_
    refine TrL.stepS 14 (.plain rfl (.func1 rfl (.cons (.of rfl) .nil) .nil)) rfl rfl ?_
    refine TrL.callG [] [21] [21] rfl rfl 15 rfl rfl (F140 (fun a b => cmpP second a.1 b.1) 141 [.agg #[.func (.func (if second = true then 92 else 93)) #[] #[]]] [] (fun x y => F141 (cmpP second) (if second = true then 92 else 93) hfo x y) v11 xs hl) (.cons (.of rfl) (.cons (.of rfl) .nil)) (.same rfl .nil) rfl rfl (fun _ => rfl) fun _ => ?_
    refine TrL.nil ?_
    refine Fin.keepG (Γ' := [(6, _)]) (.same rfl .nil) ?_
    refine Fin.next ?_
    refine Tr.seq ?_
    refine Tr.region ?_
    refine TrL.stepS 16 (.plain rfl (.move rfl (.of rfl))) rfl rfl ?_
    refine TrL.stepS 4 (.plain rfl (.assign rfl (.of rfl))) rfl rfl ?_
    refine TrL.nil ?_
    refine Fin.keepG (Γ' := [(4, _)]) (.same rfl .nil) ?_
    refine Fin.next ?_
    refine Tr.ret ?_
    refine Fin.freeze 21 4 rfl rfl rfl ?_
    exact Fin.retI (rs := [_]) (Rs' := [Lst rowR (isort (fun a b => cmpP second a.1 b.1) xs)]) rfl (.cons (.tmp rfl) .nil) (.cons (fun _ _ h => h) .nil)

/- tidepool/tidepooltop.ahead33 -/
set_option maxRecDepth 100000 in
theorem F91 (a b : Pn) (second : Bool) : FnP Try.prog 91 [is (.agg #[.string a.1, .int .i64 a.2.1, .int .i64 a.2.2]), is (.agg #[.string b.1, .int .i64 b.2.1, .int .i64 b.2.2]), is (.bool second)] (is (.int .i64 (cmpP second a b))) := by
  refine FnP.mk' Try.func91 T.nm91 rfl (N := 46) rfl rfl fun B hB hκ => ?_
  refine Tr.seq ?_
  refine Tr.region ?_
  refine TrL.stepS 3 (.plain rfl (.boxR rfl (.of rfl))) rfl rfl ?_
  refine TrL.stepS 4 (.plain rfl (.boxR rfl (.of rfl))) rfl rfl ?_
  refine TrL.stepS 6 (.plain rfl (.assign rfl (.of rfl))) rfl rfl ?_
  refine TrL.nil ?_
  refine Fin.keepG (Γ' := [(2, _), (3, _), (4, _)]) (.same rfl (.same rfl (.same rfl .nil))) ?_
  refine Fin.next ?_
  refine Tr.seq ?_
  refine Tr.region ?_
  refine TrL.stepS 7 (.plain rfl (.assign rfl (.of rfl))) rfl rfl ?_
  refine TrL.nil ?_
  refine Fin.next ?_
  refine Tr.seq ?_
  refine Tr.region ?_
  refine TrL.stepS 8 (.plain rfl (.assign rfl (.of rfl))) rfl rfl ?_
  refine TrL.nil ?_
  refine Fin.next ?_
  refine Tr.seq ?_
  refine Tr.regionW [([], [], []), ([], [], []), ([], [], []), ([], [], []), ([], [], []), ([], [], []), ([], [], []), ([], [], []), ([], [], []), ([], [], []), ([], [], []), ([], [], []), ([], [], []), ([], [], []), ([], [], []), ([], [], []), ([], [], []), ([], [], []), ([], [], []), ([], [20], [9]), ([20], [20], [9])] T.mixed (by kernel_rfl) (by kernel_rfl) (by kernel_rfl) (by kernel_rfl) ?_
  refine AChain.rd 12 rfl (fun σ => .plain rfl (.move rfl (.of rfl))) rfl rfl (fun _ _ => rfl) (L.Dep.const) ?_
  refine AChain.rd 13 rfl (fun σ => .plain rfl (.fieldC rfl (.of rfl) T.fl140_0)) rfl rfl (fun _ _ => rfl) (L.Dep.const) ?_
  refine AChain.rd 14 rfl (fun σ => .plain rfl (.load1 rfl (.of rfl) T.sc9)) rfl rfl (fun _ _ => rfl) (L.Dep.const) ?_
  refine AChain.rd 15 rfl (fun σ => .plain rfl (.fieldC rfl (.of rfl) T.fl140_0)) rfl rfl (fun _ _ => rfl) (L.Dep.const) ?_
  refine AChain.rd 16 rfl (fun σ => .plain rfl (.load1 rfl (.of rfl) T.sc9)) rfl rfl (fun _ _ => rfl) (L.Dep.const) ?_
  refine AChain.rd 17 rfl (fun σ => .plain rfl (.callV (first := []) (caps := []) rfl (.of rfl) (F142 a.1 b.1) (.cons (.of rfl) (.cons (.of rfl) .nil)))) rfl rfl (fun _ _ => rfl) (L.Dep.const) ?_
  refine AChain.rd 18 rfl (fun σ => .plain rfl (.move rfl (.of rfl))) rfl rfl (fun _ _ => rfl) (L.Dep.const) ?_
  refine AChain.rd 19 rfl (fun σ => .plain rfl (.fieldC rfl (.of rfl) T.fl140_2)) rfl rfl (fun _ _ => rfl) (L.Dep.const) ?_
  refine AChain.rd 20 rfl (fun σ => .plain rfl (.load1 rfl (.of rfl) T.sc2)) rfl rfl (fun _ _ => rfl) (L.Dep.const) ?_
  refine AChain.rd 21 rfl (fun σ => .plain rfl (.fieldC rfl (.of rfl) T.fl140_2)) rfl rfl (fun _ _ => rfl) (L.Dep.const) ?_
  refine AChain.rd 22 rfl (fun σ => .plain rfl (.load1 rfl (.of rfl) T.sc2)) rfl rfl (fun _ _ => rfl) (L.Dep.const) ?_
  refine AChain.rd 23 rfl (fun σ => .plain rfl (.callV (first := []) (caps := []) rfl (.of rfl) (F143 a.2.2 b.2.2) (.cons (.of rfl) (.cons (.of rfl) .nil)))) rfl rfl (fun _ _ => rfl) (L.Dep.const) ?_
  refine AChain.rd 24 rfl (fun σ => .plain rfl (.move rfl (.of rfl))) rfl rfl (fun _ _ => rfl) (L.Dep.const) ?_
  refine AChain.rd 25 rfl (fun σ => .plain rfl (.fieldC rfl (.of rfl) T.fl140_1)) rfl rfl (fun _ _ => rfl) (L.Dep.const) ?_
  refine AChain.rd 26 rfl (fun σ => .plain rfl (.load1 rfl (.of rfl) T.sc2)) rfl rfl (fun _ _ => rfl) (L.Dep.const) ?_
  refine AChain.rd 27 rfl (fun σ => .plain rfl (.fieldC rfl (.of rfl) T.fl140_1)) rfl rfl (fun _ _ => rfl) (L.Dep.const) ?_
  refine AChain.rd 28 rfl (fun σ => .plain rfl (.load1 rfl (.of rfl) T.sc2)) rfl rfl (fun _ _ => rfl) (L.Dep.const) ?_
  refine AChain.rd 29 rfl (fun σ => .plain rfl (.callV (first := []) (caps := []) rfl (.of rfl) (F143 a.2.1 b.2.1) (.cons (.of rfl) (.cons (.of rfl) .nil)))) rfl rfl (fun _ _ => rfl) (L.Dep.const) ?_
  refine AChain.rd 30 rfl (fun σ => .plain rfl (.build rfl (.cons (.of rfl) (.cons (.of rfl) (.cons (.of rfl) .nil))) (T.S9bd219_0_1_2 _ _ _))) rfl rfl (fun _ _ => rfl) (L.Dep.const) ?_
  refine AChain.allocD 20 9 (zs := [.int .i64 0, .int .i64 0, .int .i64 0]) rfl rfl rfl rfl rfl rfl (by kernel_rfl) (L.depS (by decide)) (L.depP (by decide)) ?_
  refine AChain.storeDA (vs := [_, _, _]) 20 9 rfl rfl rfl rfl rfl (fun σ _ => (.of rfl)) (fun σ _ => (.of rfl)) rfl (fun σ => rfl) T.sz219 rfl (L.depP (by decide)) ?_
  refine AChain.nil ?_
  intro s3
  refine Fin.openPB (vs := [_, _, _]) 20 9 rfl rfl rfl fun b9 hb9_ => ?_
  refine Fin.keepG (Γ' := [(2, _), (9, _)]) (.same rfl (.same rfl .nil)) ?_
  refine Fin.next ?_
  refine Tr.seqJK (γ := Int × Int × Int) (Γk := [(9, _)]) (Mk := []) (.same rfl .nil) .nil (fun p => cmpP second a b = orI [p.1, p.2.1, p.2.2]) (fun p => fun r => (20, Blk b9 [.int .i64 p.1, .int .i64 p.2.1, .int .i64 p.2.2] 219) :: r) (fun p => fun r => r) ?jx6 ?jk6
  case jx6 =>
    refine Tr.seq ?_
    refine Tr.region ?_
    refine TrL.stepS 31 (.plain rfl (.move rfl (.of rfl))) rfl rfl ?_
    refine TrL.nil ?_
    refine Fin.keepG (Γ' := [(9, _), (31, _)]) (.same rfl (.same rfl .nil)) ?_
    refine Fin.next ?_
    refine Tr.cond rfl (fun hb0 => ?_) (fun hb0 => ?_)
    · try simp only [decide_eq_true_eq, decide_eq_false_iff_not, beq_iff_eq, beq_eq_false_iff_ne, bne_iff_ne, bne_eq_false_iff_eq, Bool.and_eq_true, Bool.and_eq_false_iff, Bool.or_eq_true, Bool.or_eq_false_iff, Bool.not_eq_true', Bool.not_eq_false', gt_iff_lt, ge_iff_le, Int.not_lt, Int.not_le, ne_eq, Int.natCast_nonneg, true_and, and_true, Decidable.not_not, not_true_eq_false, not_false_eq_true] at hb0
      refine Tr.region ?_
      refine TrL.stepS 32 (.plain rfl (.indexArrP rfl (.of rfl) (.of rfl) Try.underlying219 T.sz3 (by omega) (by omega))) rfl rfl ?_
      refine TrL.stepS 33 (.plain rfl (.loadB 20 rfl (.of rfl) rfl rfl rfl T.sc3)) rfl rfl ?_
      refine TrL.stepS 34 (.plain rfl (.indexArrP rfl (.of rfl) (.of rfl) Try.underlying219 T.sz3 (by omega) (by omega))) rfl rfl ?_
      refine TrL.stepS 35 (.plain rfl (.loadB 20 rfl (.of rfl) rfl rfl rfl T.sc3)) rfl rfl ?_
      refine TrL.stepS 36 (.plain rfl (.indexArrP rfl (.of rfl) (.of rfl) Try.underlying219 T.sz3 (by omega) (by omega))) rfl rfl ?_
      refine TrL.store1 20 rfl rfl rfl (.of rfl) (.of rfl) rfl rfl rfl T.sz3 rfl rfl ?_
      refine TrL.stepS 37 (.plain rfl (.indexArrP rfl (.of rfl) (.of rfl) Try.underlying219 T.sz3 (by omega) (by omega))) rfl rfl ?_
      refine TrL.store1 20 rfl rfl rfl (.of rfl) (.of rfl) rfl rfl rfl T.sz3 rfl rfl ?_
      refine TrL.nil ?_
      refine Fin.keepG (Γ' := [(9, _)]) (.same rfl .nil) ?_
      exact Fin.reach ((cmpI a.2.2 b.2.2, cmpS a.1 b.1, cmpI a.2.1 b.2.1)) (by simp [cmpP, hb0]) (.same rfl .nil) (.same rfl .nil)
    · try simp only [decide_eq_true_eq, decide_eq_false_iff_not, beq_iff_eq, beq_eq_false_iff_ne, bne_iff_ne, bne_eq_false_iff_eq, Bool.and_eq_true, Bool.and_eq_false_iff, Bool.or_eq_true, Bool.or_eq_false_iff, Bool.not_eq_true', Bool.not_eq_false', gt_iff_lt, ge_iff_le, Int.not_lt, Int.not_le, ne_eq, Int.natCast_nonneg, true_and, and_true, Decidable.not_not, not_true_eq_false, not_false_eq_true] at hb0
      refine Tr.skip ?_
      exact Fin.reach ((cmpS a.1 b.1, cmpI a.2.2 b.2.2, cmpI a.2.1 b.2.1)) (by simp [cmpP, hb0]) (.same rfl .nil) (.same rfl .nil)
  case jk6 =>
    intro p hJ
    obtain ⟨x0, x1, x2⟩ := p
    dsimp only at hJ ⊢
    refine Tr.seq ?_
    refine Tr.seq ?_
    refine Tr.region ?_
    refine TrL.stepS 38 (.plain rfl (.loadBN 20 (k := 3) (ds := [_, _, _]) rfl (.of rfl) rfl rfl rfl T.ag219 rfl)) rfl rfl ?_
    refine TrL.stepS 39 (.plain rfl (.move rfl (.of rfl))) rfl rfl ?_
    refine TrL.nil ?_
    refine Fin.keepG (Γ' := [(38, _), (39, _)]) (.same rfl (.same rfl .nil)) ?_
    refine Fin.next ?_
    refine Tr.block ?_
    refine Tr.loopK (γ := Nat) (Γk := [(38, _)]) (Mk := [(20, _)]) (.same rfl .nil) (.same rfl .nil) (fun k => k ≤ 3 ∧ orI [x0, x1, x2] = orI ([x0, x1, x2].drop k)) (fun k => fun r => r) (fun k => fun r => (39, is (.int .i64 k)) :: r) (fun k => 3 - k) (0) ?h0_0 ?hM_0 ?hG_0 ?hl_0
    case h0_0 => exact ⟨by omega, rfl⟩
    case hM_0 => exact (.same rfl .nil)
    case hG_0 => exact (.eq rfl (by first | rfl | (congr 1; first | done | omega | (push_cast; omega) | (push_cast; rfl))) (.same rfl .nil))
    case hl_0 =>
      intro k hI
      refine Tr.seq ?_
      refine Tr.region ?_
      refine TrL.stepS 40 (.plain rfl (.lss rfl (.of rfl) (.of rfl))) rfl rfl ?_
      refine TrL.nil ?_
      refine Fin.next ?_
      refine Tr.seq ?_
      refine Tr.cond rfl (fun hb1 => ?_) (fun hb1 => ?_)
      · try simp only [decide_eq_true_eq, decide_eq_false_iff_not, beq_iff_eq, beq_eq_false_iff_ne, bne_iff_ne, bne_eq_false_iff_eq, Bool.and_eq_true, Bool.and_eq_false_iff, Bool.or_eq_true, Bool.or_eq_false_iff, Bool.not_eq_true', Bool.not_eq_false', gt_iff_lt, ge_iff_le, Int.not_lt, Int.not_le, ne_eq, Int.natCast_nonneg, true_and, and_true, Decidable.not_not, not_true_eq_false, not_false_eq_true] at hb1
        refine Tr.skip ?_
        refine Fin.next ?_
        refine Tr.seq ?_
        refine Tr.block ?_
        refine Tr.seq ?_
        obtain rfl | rfl | rfl : k = 0 ∨ k = 1 ∨ k = 2 := by omega
        ·
          refine Tr.region ?_
          refine TrL.stepS 41 (.plain rfl (.indexV rfl (.of rfl) (.of rfl) (idx219_0 x0 x1 x2))) rfl rfl ?_
          refine TrL.stepS 11 (.plain rfl (.assign rfl (.of rfl))) rfl rfl ?_
          refine TrL.nil ?_
          refine Fin.keepG (Γ' := [(11, _), (38, _), (39, _)]) (.same rfl (.same rfl (.same rfl .nil))) ?_
          refine Fin.next ?_
          refine Tr.seq ?_
          refine Tr.region ?_
          refine TrL.stepS 42 (.plain rfl (.move rfl (.of rfl))) rfl rfl ?_
          refine TrL.stepS 43 (.plain rfl (.neq rfl (.of rfl) (.of rfl))) rfl rfl ?_
          refine TrL.nil ?_
          refine Fin.keepG (Γ' := [(11, _), (38, _), (39, _), (43, _)]) (.same rfl (.same rfl (.same rfl (.same rfl .nil)))) ?_
          refine Fin.next ?_
          refine Tr.cond rfl (fun hb2 => ?_) (fun hb2 => ?_)
          · try simp only [decide_eq_true_eq, decide_eq_false_iff_not, beq_iff_eq, beq_eq_false_iff_ne, bne_iff_ne, bne_eq_false_iff_eq, Bool.and_eq_true, Bool.and_eq_false_iff, Bool.or_eq_true, Bool.or_eq_false_iff, Bool.not_eq_true', Bool.not_eq_false', gt_iff_lt, ge_iff_le, Int.not_lt, Int.not_le, ne_eq, Int.natCast_nonneg, true_and, and_true, Decidable.not_not, not_true_eq_false, not_false_eq_true] at hb2
            refine Tr.seq ?_
            refine Tr.region ?_
            refine TrL.stepS 44 (.plain rfl (.move rfl (.of rfl))) rfl rfl ?_
            refine TrL.stepS 6 (.plain rfl (.assign rfl (.of rfl))) rfl rfl ?_
            refine TrL.nil ?_
            refine Fin.keepG (Γ' := [(6, _)]) (.same rfl .nil) ?_
            refine Fin.next ?_
            refine Tr.ret ?_
            refine Fin.blockRet ?_
            refine Fin.thenRet ?_
            refine Fin.thenRet ?_
            refine Fin.blockRet ?_
            refine Fin.thenRet ?_
            refine Fin.retI (rs := [_]) (Rs' := [is (.int .i64 (cmpP second a b))]) rfl (.cons (.tmp rfl) .nil) (.cons (L.iv ?_) .nil)
            · rw [hJ, hI.2]; simp [orI, hb2]
          · try simp only [decide_eq_true_eq, decide_eq_false_iff_not, beq_iff_eq, beq_eq_false_iff_ne, bne_iff_ne, bne_eq_false_iff_eq, Bool.and_eq_true, Bool.and_eq_false_iff, Bool.or_eq_true, Bool.or_eq_false_iff, Bool.not_eq_true', Bool.not_eq_false', gt_iff_lt, ge_iff_le, Int.not_lt, Int.not_le, ne_eq, Int.natCast_nonneg, true_and, and_true, Decidable.not_not, not_true_eq_false, not_false_eq_true] at hb2
            refine Tr.skip ?_
            refine Fin.blockNormal ?_
            refine Fin.next ?_
            refine Tr.region ?_
            first | refine TrL.stepS 45 (.plain rfl (.addI L.bd_i64 rfl (.of rfl) (.of rfl) (by omega) (by omega))) rfl rfl ?_ | refine TrL.stepS 45 (.plain rfl (.add rfl (.of rfl) (.of rfl))) rfl rfl ?_
            refine TrL.stepS 39 (.plain rfl (.move rfl (.of rfl))) rfl rfl ?_
            refine TrL.nil ?_
            refine Fin.keepG (Γ' := [(38, _), (39, _)]) (.same rfl (.same rfl .nil)) ?_
            exact Fin.again (1) (⟨by omega, by rw [hI.2]; simp [orI, show x0 = 0 by omega]⟩) (by omega) (.same rfl .nil) (.eq rfl (by first | rfl | (congr 1; first | done | omega | (push_cast; omega) | (push_cast; rfl))) (.same rfl .nil))
        ·
          refine Tr.region ?_
          refine TrL.stepS 41 (.plain rfl (.indexV rfl (.of rfl) (.of rfl) (idx219_1 x0 x1 x2))) rfl rfl ?_
          refine TrL.stepS 11 (.plain rfl (.assign rfl (.of rfl))) rfl rfl ?_
          refine TrL.nil ?_
          refine Fin.keepG (Γ' := [(11, _), (38, _), (39, _)]) (.same rfl (.same rfl (.same rfl .nil))) ?_
          refine Fin.next ?_
          refine Tr.seq ?_
          refine Tr.region ?_
          refine TrL.stepS 42 (.plain rfl (.move rfl (.of rfl))) rfl rfl ?_
          refine TrL.stepS 43 (.plain rfl (.neq rfl (.of rfl) (.of rfl))) rfl rfl ?_
          refine TrL.nil ?_
          refine Fin.keepG (Γ' := [(11, _), (38, _), (39, _), (43, _)]) (.same rfl (.same rfl (.same rfl (.same rfl .nil)))) ?_
          refine Fin.next ?_
          refine Tr.cond rfl (fun hb2 => ?_) (fun hb2 => ?_)
          · try simp only [decide_eq_true_eq, decide_eq_false_iff_not, beq_iff_eq, beq_eq_false_iff_ne, bne_iff_ne, bne_eq_false_iff_eq, Bool.and_eq_true, Bool.and_eq_false_iff, Bool.or_eq_true, Bool.or_eq_false_iff, Bool.not_eq_true', Bool.not_eq_false', gt_iff_lt, ge_iff_le, Int.not_lt, Int.not_le, ne_eq, Int.natCast_nonneg, true_and, and_true, Decidable.not_not, not_true_eq_false, not_false_eq_true] at hb2
            refine Tr.seq ?_
            refine Tr.region ?_
            refine TrL.stepS 44 (.plain rfl (.move rfl (.of rfl))) rfl rfl ?_
            refine TrL.stepS 6 (.plain rfl (.assign rfl (.of rfl))) rfl rfl ?_
            refine TrL.nil ?_
            refine Fin.keepG (Γ' := [(6, _)]) (.same rfl .nil) ?_
            refine Fin.next ?_
            refine Tr.ret ?_
            refine Fin.blockRet ?_
            refine Fin.thenRet ?_
            refine Fin.thenRet ?_
            refine Fin.blockRet ?_
            refine Fin.thenRet ?_
            refine Fin.retI (rs := [_]) (Rs' := [is (.int .i64 (cmpP second a b))]) rfl (.cons (.tmp rfl) .nil) (.cons (L.iv ?_) .nil)
            · rw [hJ, hI.2]; simp [orI, hb2]
          · try simp only [decide_eq_true_eq, decide_eq_false_iff_not, beq_iff_eq, beq_eq_false_iff_ne, bne_iff_ne, bne_eq_false_iff_eq, Bool.and_eq_true, Bool.and_eq_false_iff, Bool.or_eq_true, Bool.or_eq_false_iff, Bool.not_eq_true', Bool.not_eq_false', gt_iff_lt, ge_iff_le, Int.not_lt, Int.not_le, ne_eq, Int.natCast_nonneg, true_and, and_true, Decidable.not_not, not_true_eq_false, not_false_eq_true] at hb2
            refine Tr.skip ?_
            refine Fin.blockNormal ?_
            refine Fin.next ?_
            refine Tr.region ?_
            first | refine TrL.stepS 45 (.plain rfl (.addI L.bd_i64 rfl (.of rfl) (.of rfl) (by omega) (by omega))) rfl rfl ?_ | refine TrL.stepS 45 (.plain rfl (.add rfl (.of rfl) (.of rfl))) rfl rfl ?_
            refine TrL.stepS 39 (.plain rfl (.move rfl (.of rfl))) rfl rfl ?_
            refine TrL.nil ?_
            refine Fin.keepG (Γ' := [(38, _), (39, _)]) (.same rfl (.same rfl .nil)) ?_
            exact Fin.again (2) (⟨by omega, by rw [hI.2]; simp [orI, show x1 = 0 by omega]⟩) (by omega) (.same rfl .nil) (.eq rfl (by first | rfl | (congr 1; first | done | omega | (push_cast; omega) | (push_cast; rfl))) (.same rfl .nil))
        ·
          refine Tr.region ?_
          refine TrL.stepS 41 (.plain rfl (.indexV rfl (.of rfl) (.of rfl) (idx219_2 x0 x1 x2))) rfl rfl ?_
          refine TrL.stepS 11 (.plain rfl (.assign rfl (.of rfl))) rfl rfl ?_
          refine TrL.nil ?_
          refine Fin.keepG (Γ' := [(11, _), (38, _), (39, _)]) (.same rfl (.same rfl (.same rfl .nil))) ?_
          refine Fin.next ?_
          refine Tr.seq ?_
          refine Tr.region ?_
          refine TrL.stepS 42 (.plain rfl (.move rfl (.of rfl))) rfl rfl ?_
          refine TrL.stepS 43 (.plain rfl (.neq rfl (.of rfl) (.of rfl))) rfl rfl ?_
          refine TrL.nil ?_
          refine Fin.keepG (Γ' := [(11, _), (38, _), (39, _), (43, _)]) (.same rfl (.same rfl (.same rfl (.same rfl .nil)))) ?_
          refine Fin.next ?_
          refine Tr.cond rfl (fun hb2 => ?_) (fun hb2 => ?_)
          · try simp only [decide_eq_true_eq, decide_eq_false_iff_not, beq_iff_eq, beq_eq_false_iff_ne, bne_iff_ne, bne_eq_false_iff_eq, Bool.and_eq_true, Bool.and_eq_false_iff, Bool.or_eq_true, Bool.or_eq_false_iff, Bool.not_eq_true', Bool.not_eq_false', gt_iff_lt, ge_iff_le, Int.not_lt, Int.not_le, ne_eq, Int.natCast_nonneg, true_and, and_true, Decidable.not_not, not_true_eq_false, not_false_eq_true] at hb2
            refine Tr.seq ?_
            refine Tr.region ?_
            refine TrL.stepS 44 (.plain rfl (.move rfl (.of rfl))) rfl rfl ?_
            refine TrL.stepS 6 (.plain rfl (.assign rfl (.of rfl))) rfl rfl ?_
            refine TrL.nil ?_
            refine Fin.keepG (Γ' := [(6, _)]) (.same rfl .nil) ?_
            refine Fin.next ?_
            refine Tr.ret ?_
            refine Fin.blockRet ?_
            refine Fin.thenRet ?_
            refine Fin.thenRet ?_
            refine Fin.blockRet ?_
            refine Fin.thenRet ?_
            refine Fin.retI (rs := [_]) (Rs' := [is (.int .i64 (cmpP second a b))]) rfl (.cons (.tmp rfl) .nil) (.cons (L.iv ?_) .nil)
            · rw [hJ, hI.2]; simp [orI, hb2]
          · try simp only [decide_eq_true_eq, decide_eq_false_iff_not, beq_iff_eq, beq_eq_false_iff_ne, bne_iff_ne, bne_eq_false_iff_eq, Bool.and_eq_true, Bool.and_eq_false_iff, Bool.or_eq_true, Bool.or_eq_false_iff, Bool.not_eq_true', Bool.not_eq_false', gt_iff_lt, ge_iff_le, Int.not_lt, Int.not_le, ne_eq, Int.natCast_nonneg, true_and, and_true, Decidable.not_not, not_true_eq_false, not_false_eq_true] at hb2
            refine Tr.skip ?_
            refine Fin.blockNormal ?_
            refine Fin.next ?_
            refine Tr.region ?_
            first | refine TrL.stepS 45 (.plain rfl (.addI L.bd_i64 rfl (.of rfl) (.of rfl) (by omega) (by omega))) rfl rfl ?_ | refine TrL.stepS 45 (.plain rfl (.add rfl (.of rfl) (.of rfl))) rfl rfl ?_
            refine TrL.stepS 39 (.plain rfl (.move rfl (.of rfl))) rfl rfl ?_
            refine TrL.nil ?_
            refine Fin.keepG (Γ' := [(38, _), (39, _)]) (.same rfl (.same rfl .nil)) ?_
            exact Fin.again (3) (⟨by omega, by rw [hI.2]; simp [orI, show x2 = 0 by omega]⟩) (by omega) (.same rfl .nil) (.eq rfl (by first | rfl | (congr 1; first | done | omega | (push_cast; omega) | (push_cast; rfl))) (.same rfl .nil))
      · try simp only [decide_eq_true_eq, decide_eq_false_iff_not, beq_iff_eq, beq_eq_false_iff_ne, bne_iff_ne, bne_eq_false_iff_eq, Bool.and_eq_true, Bool.and_eq_false_iff, Bool.or_eq_true, Bool.or_eq_false_iff, Bool.not_eq_true', Bool.not_eq_false', gt_iff_lt, ge_iff_le, Int.not_lt, Int.not_le, ne_eq, Int.natCast_nonneg, true_and, and_true, Decidable.not_not, not_true_eq_false, not_false_eq_true] at hb1
        obtain rfl : k = 3 := by omega
        refine Tr.exit ?_
        refine Fin.thenExit ?_
        refine Fin.thenExit ?_
        refine Fin.blockOut ?_
        refine Fin.next ?_
        refine Tr.seq ?_
        refine Tr.region ?_
        refine TrL.stepS 6 (.plain rfl (.assign rfl (.of rfl))) rfl rfl ?_
        refine TrL.nil ?_
        refine Fin.keepG (Γ' := [(6, _)]) (.same rfl .nil) ?_
        refine Fin.next ?_
        refine Tr.ret ?_
        refine Fin.retI (rs := [_]) (Rs' := [is (.int .i64 (cmpP second a b))]) rfl (.cons (.tmp rfl) .nil) (.cons (L.iv ?_) .nil)
        · rw [hJ, hI.2]; rfl

end Go.Proofs.Ytemkogoclljhpaa