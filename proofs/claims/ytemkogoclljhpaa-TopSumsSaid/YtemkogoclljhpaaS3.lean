import Derived.Test.YtemkogoclljhpaaS2
namespace Go.Proofs.Ytemkogoclljhpaa
open Go Go.Proofs.Ytemkogoclljhpaa.L
set_option linter.unusedVariables false
set_option linter.unusedSimpArgs false

namespace T
theorem S3bd122  : Try.prog.built 122 [] = some #[.int .i64 0, .int .i64 0, .int .i64 0, .int .i64 0] := by kernel_rfl
theorem S3bd122_0_1_2_3 (c0 : Int) (c1 : Int) (c2 : Int) (c3 : Int) : Try.prog.built 122 [(0, .int .i64 c0), (1, .int .i64 c1), (2, .int .i64 c2), (3, .int .i64 c3)] = some #[.int .i64 c0, .int .i64 c1, .int .i64 c2, .int .i64 c3] := by kernel_rfl
end T


abbrev Ag := Int × Int × Int × Int
def mn : List Int → Int
  | [] => 0
  | x :: xs => xs.foldl min x
def mx : List Int → Int
  | [] => 0
  | x :: xs => xs.foldl max x
theorem take_ne {xs : List Int} {k : Nat} (h : 1 ≤ k) (h' : k ≤ xs.length) : xs.take k ≠ [] := by
  intro e
  have h2 := congrArg List.length e
  rw [List.length_take] at h2; simp only [List.length_nil] at h2; omega
theorem mn_snoc {xs : List Int} (h : xs ≠ []) (y : Int) : mn (xs ++ [y]) = min (mn xs) y := by
  cases xs with
  | nil => exact absurd rfl h
  | cons x xs => simp [mn]
theorem mx_snoc {xs : List Int} (h : xs ≠ []) (y : Int) : mx (xs ++ [y]) = max (mx xs) y := by
  cases xs with
  | nil => exact absurd rfl h
  | cons x xs => simp [mx]
/-- the aggregate of values -/
def aggOf (xs : List Int) : Ag := if xs = [] then (0, 0, 0, 0) else if fit xs.sum then (xs.length, xs.sum, mn xs, mx xs) else (0, 0, 0, 0)
def blankA (a : Ag) : Bool := decide (a = (0, 0, 0, 0))
def rightA (a : Ag) : Bool := blankA a || (decide (0 < a.1) && (decide (a.2.2.1 ≤ a.2.2.2) && (decide (1 < a.1) || decide (a = (1, a.2.1, a.2.1, a.2.1)))))
/-- aggregates joined -/
def joinOf (ys : List Ag) : Ag :=
  let zs := ys.filter fun a => !blankA a
  if fit (zs.map (·.1)).sum && fit (zs.map (·.2.1)).sum then ((zs.map (·.1)).sum, (zs.map (·.2.1)).sum, mn (zs.map (·.2.2.1)), mx (zs.map (·.2.2.2))) else (0, 0, 0, 0)
def joinE (ys : List Ag) : Bool :=
  let zs := ys.filter fun a => !blankA a
  fit (zs.map (·.1)).sum && fit (zs.map (·.2.1)).sum
def aggP : PRep Ag := ⟨4, fun a => [.int .i64 a.1, .int .i64 a.2.1, .int .i64 a.2.2.1, .int .i64 a.2.2.2], fun _ => rfl, fun _ => rfl, by decide, (0, 0, 0, 0)⟩
def aggR : Rep Ag := aggP.rep
theorem aggR_elem (a : Ag) : ∀ v w, is (.agg #[.int .i64 a.1, .int .i64 a.2.1, .int .i64 a.2.2.1, .int .i64 a.2.2.2]) v w → ElemV aggR a v w := by
  rintro v w rfl
  exact .cons rfl (.cons rfl (.cons rfl (.cons rfl .nil)))
theorem aggR_elem' (a b c d : Int) : ∀ v w, is (.agg #[.int .i64 a, .int .i64 b, .int .i64 c, .int .i64 d]) v w → ElemV aggR (a, b, c, d) v w := aggR_elem (a, b, c, d)
theorem blank_iff {a : Ag} : blankA a = true ↔ a.1 = 0 ∧ a.2.1 = 0 ∧ a.2.2.1 = 0 ∧ a.2.2.2 = 0 := by
  obtain ⟨a, b, c, d⟩ := a; simp [blankA]
theorem filter_take {ys : List Ag} {k : Nat} {a : Ag} (h : ys[k]? = some a) : (ys.take (k + 1)).filter (fun a => !blankA a) = (ys.take k).filter (fun a => !blankA a) ++ (if blankA a then [] else [a]) := by
  rw [take_snoc h, List.filter_append]
  congr 1
  cases hb : blankA a <;> simp [List.filter, hb]

theorem mm_step {xs : List Int} {k : Nat} {x z0 lo hi : Int} (hx : xs[k]? = some x) (hz : xs[0]? = some z0) (h0 : k = 0 → lo = z0 ∧ hi = z0) (h1 : 0 < k → lo = mn (xs.take k) ∧ hi = mx (xs.take k)) : min lo x = mn (xs.take (k + 1)) ∧ max hi x = mx (xs.take (k + 1)) := by
  rw [take_snoc hx]
  rcases Nat.eq_zero_or_pos k with rfl | hk
  · obtain ⟨rfl, rfl⟩ := h0 rfl
    rw [hx] at hz
    simp only [Option.some.injEq] at hz
    subst hz
    simp [mn, mx]
  · obtain ⟨rfl, rfl⟩ := h1 hk
    have hne : xs.take k ≠ [] := by
      intro e
      have h2 := congrArg List.length e
      have h3 := getL_len hx
      rw [List.length_take] at h2; simp only [List.length_nil] at h2; omega
    rw [mn_snoc hne, mx_snoc hne]; exact ⟨rfl, rfl⟩
theorem last33 {a b : Int} (ha : -9223372036854775808 ≤ a ∧ a ≤ 9223372036854775807) (hb : -9223372036854775808 ≤ b ∧ b ≤ 9223372036854775807) (ha1 : a ≠ 0) (hb1 : b ≠ 0) (h1 : (a ≤ 0 ∨ b ≤ 0) ∨ a ≤ (9223372036854775807 : Int).tdiv b) (h2 : (a ≤ 0 ∨ 0 ≤ b) ∨ (-9223372036854775808 : Int).tdiv a ≤ b) (h3 : (0 ≤ a ∨ b ≤ 0) ∨ (-9223372036854775808 : Int).tdiv b ≤ a) (t : Bool)
    (ht : t = ((decide (a < 0) && decide (b < 0)) && (((a == -9223372036854775808) || (b == -9223372036854775808)) || decide (IntKind.i64.wrap (0 - a) > (9223372036854775807 : Int).tdiv (IntKind.i64.wrap (0 - b)))))) : (t = true → fit (a * b) = false) ∧ (t = false → fit (a * b) = true) := by
  have hs := sign_mul (a := a) (b := b)
  have e : -a * -b = a * b := by rw [Int.neg_mul_neg]
  have e' : b * a = a * b := Int.mul_comm b a
  rcases Int.lt_or_gt_of_ne ha1 with ha2 | ha2 <;> rcases Int.lt_or_gt_of_ne hb1 with hb2 | hb2
  · have hp := hs.2.1 ⟨ha2, hb2⟩
    have e1 : 1 * (-b) ≤ -a * -b := Int.mul_le_mul_of_nonneg_right (by omega) (by omega)
    have e2 : -a * 1 ≤ -a * -b := Int.mul_le_mul_of_nonneg_left (by omega) (by omega)
    by_cases hm : a = -9223372036854775808 ∨ b = -9223372036854775808
    · have ht' : t = true := by rw [ht]; rcases hm with rfl | rfl <;> simp [ha2, hb2]
      refine ⟨fun _ => ?_, fun h => by rw [ht'] at h; cases h⟩
      cases hf : fit (a * b) with
      | false => rfl
      | true => rw [fit_iff] at hf; omega
    · have w1 : IntKind.i64.wrap (0 - a) = -a := by rw [wrap_i64]; omega
      have w2 : IntKind.i64.wrap (0 - b) = -b := by rw [wrap_i64]; omega
      have k4 := quo_lt (a := -a) (b := -b) (M := 9223372036854775807) (by omega) (by omega)
      rw [w1, w2] at ht
      have hiff : t = true ↔ (9223372036854775807 : Int).tdiv (-b) < -a := by
        rw [ht]; simp only [Bool.and_eq_true, Bool.or_eq_true, decide_eq_true_eq, beq_iff_eq, gt_iff_lt]
        exact ⟨fun h => h.2.resolve_left hm, fun h => ⟨⟨ha2, hb2⟩, .inr h⟩⟩
      rw [k4, e] at hiff
      refine ⟨fun h => ?_, fun h => ?_⟩
      · have := hiff.1 h
        cases hf : fit (a * b) with
        | false => rfl
        | true => rw [fit_iff] at hf; omega
      · rw [fit_iff]
        have : ¬ (9223372036854775807 < a * b) := fun hh => by have := hiff.2 hh; rw [h] at this; cases this
        omega
  · have hp := hs.2.2.2 ⟨ha2, hb2⟩
    have k3 := quo_neg (a := a) (b := b) (N := 9223372036854775808) hb2 (by omega)
    have ht' : t = false := by rw [ht]; simp; omega
    refine ⟨fun h => (by rw [ht'] at h; cases h), fun _ => ?_⟩
    rw [fit_iff]; omega
  · have hp := hs.2.2.1 ⟨ha2, hb2⟩
    have k2 := quo_neg (a := b) (b := a) (N := 9223372036854775808) ha2 (by omega)
    have ht' : t = false := by rw [ht]; simp; omega
    refine ⟨fun h => (by rw [ht'] at h; cases h), fun _ => ?_⟩
    rw [fit_iff]; omega
  · have hp := hs.1 ⟨ha2, hb2⟩
    have k1 := quo_lt (a := a) (b := b) (M := 9223372036854775807) hb2 (by omega)
    have ht' : t = false := by rw [ht]; simp; omega
    refine ⟨fun h => (by rw [ht'] at h; cases h), fun _ => ?_⟩
    rw [fit_iff]; omega

/- tidepool/tidepooltop.times33 -/
set_option maxRecDepth 100000 in
theorem F85 (a b : Int) (ha : -9223372036854775808 ≤ a ∧ a ≤ 9223372036854775807) (hb : -9223372036854775808 ≤ b ∧ b ≤ 9223372036854775807) : FnP Try.prog 85 [is (.int .i64 a), is (.int .i64 b)] (Tup [is (.int .i64 (cl (a * b))), is (.bool (fit (a * b)))]) := by
  have hsg := sign_mul (a := a) (b := b)
  refine FnP.mk' Try.func85 T.nm85 rfl (N := 75) rfl rfl fun B hB hκ => ?_
  refine Tr.seq ?_
  refine Tr.region ?_
  refine TrL.stepS 4 (.plain rfl (.assign rfl (.of rfl))) rfl rfl ?_
  refine TrL.stepS 5 (.plain rfl (.assign rfl (.of rfl))) rfl rfl ?_
  refine TrL.nil ?_
  refine Fin.keepG (Γ' := [(0, _), (1, _)]) (.same rfl (.same rfl .nil)) ?_
  refine Fin.next ?_
  refine Tr.seq ?_
  refine Tr.block ?_
  refine Tr.seq ?_
  refine Tr.region ?_
  refine TrL.stepS 7 (.plain rfl (.move rfl (.of rfl))) rfl rfl ?_
  refine TrL.stepS 8 (.plain rfl (.eql rfl (.of rfl) (.of rfl))) rfl rfl ?_
  refine TrL.stepS 9 (.plain rfl (.move rfl (.of rfl))) rfl rfl ?_
  refine TrL.stepS 10 (.guarded rfl rfl rfl fun hg => .move rfl (.of rfl)) rfl rfl ?_
  refine TrL.stepS 11 (.guarded rfl rfl rfl fun hg => .eql rfl (.cond rfl hg) (.of rfl)) rfl rfl ?_
  refine TrL.stepS 12 (.plain rfl (.or rfl (.of rfl) (.cond rfl fun h => h))) rfl rfl ?_
  refine TrL.stepS 6 (.plain rfl (.assign rfl (.of rfl))) rfl rfl ?_
  refine TrL.nil ?_
  refine Fin.keepG (Γ' := [(0, _), (1, _), (6, _)]) (.same rfl (.same rfl (.same rfl .nil))) ?_
  refine Fin.next ?_
  refine Tr.cond rfl (fun hb0 => ?_) (fun hb0 => ?_)
  · try simp only [decide_eq_true_eq, decide_eq_false_iff_not, beq_iff_eq, beq_eq_false_iff_ne, bne_iff_ne, bne_eq_false_iff_eq, Bool.and_eq_true, Bool.and_eq_false_iff, Bool.or_eq_true, Bool.or_eq_false_iff, Bool.not_eq_true', Bool.not_eq_false', gt_iff_lt, ge_iff_le, Int.not_lt, Int.not_le, ne_eq, Int.natCast_nonneg, true_and, and_true, Decidable.not_not, not_true_eq_false, not_false_eq_true] at hb0
    have h0 : a * b = 0 := by rcases hb0 with h | h <;> simp [h]
    refine Tr.seq ?_
    refine Tr.region ?_
    refine TrL.stepS 4 (.plain rfl (.assign rfl (.of rfl))) rfl rfl ?_
    refine TrL.stepS 5 (.plain rfl (.assign rfl (.of rfl))) rfl rfl ?_
    refine TrL.nil ?_
    refine Fin.keepG (Γ' := [(4, _), (5, _)]) (.same rfl (.same rfl .nil)) ?_
    refine Fin.next ?_
    refine Tr.ret ?_
    refine Fin.blockRet ?_
    refine Fin.thenRet ?_
    refine Fin.retI (rs := [_, _]) (Rs' := [is (.int .i64 (cl (a * b))), is (.bool (fit (a * b)))]) rfl (.cons (.tmp rfl) (.cons (.tmp rfl) .nil)) (.cons (L.iv ?_) (.cons (L.iv ?_) .nil))
    · have e : fit (a * b) = true := by rw [h0]; decide
      simp [cl, e, h0]
    · have e : fit (a * b) = true := by rw [h0]; decide
      rw [e]
  · try simp only [decide_eq_true_eq, decide_eq_false_iff_not, beq_iff_eq, beq_eq_false_iff_ne, bne_iff_ne, bne_eq_false_iff_eq, Bool.and_eq_true, Bool.and_eq_false_iff, Bool.or_eq_true, Bool.or_eq_false_iff, Bool.not_eq_true', Bool.not_eq_false', gt_iff_lt, ge_iff_le, Int.not_lt, Int.not_le, ne_eq, Int.natCast_nonneg, true_and, and_true, Decidable.not_not, not_true_eq_false, not_false_eq_true] at hb0
    have ha1 : a ≠ 0 := hb0.1
    have hb1' : b ≠ 0 := hb0.2
    refine Tr.seqJK (γ := Bool) (Γk := [(0, _), (1, _)]) (Mk := []) (.same rfl (.same rfl .nil)) .nil (fun t => (t = true → fit (a * b) = false) ∧ (t = false → fit (a * b) = true)) (fun t => fun r => r) (fun t => fun r => (13, is (.bool t)) :: r) ?jxc4 ?jkc4
    case jxc4 =>
      refine Tr.seq ?_
      refine Tr.region ?_
      refine TrL.stepS 14 (.plain rfl (.move rfl (.of rfl))) rfl rfl ?_
      refine TrL.stepS 15 (.plain rfl (.gtr rfl (.of rfl) (.of rfl))) rfl rfl ?_
      refine TrL.stepS 16 (.plain rfl (.move rfl (.of rfl))) rfl rfl ?_
      refine TrL.stepS 17 (.guarded rfl rfl rfl fun hg => .move rfl (.of rfl)) rfl rfl ?_
      refine TrL.stepS 18 (.guarded rfl rfl rfl fun hg => .gtr rfl (.cond rfl hg) (.of rfl)) rfl rfl ?_
      refine TrL.stepS 19 (.plain rfl (.and rfl (.of rfl) (.cond rfl fun h => h))) rfl rfl ?_
      refine TrL.stepS 20 (.plain rfl (.move rfl (.of rfl))) rfl rfl ?_
      refine TrL.stepS 21 (.guarded rfl rfl rfl fun hg => .move rfl (.of rfl)) rfl rfl ?_
      refine TrL.stepS 22 (.guarded rfl rfl rfl fun hg => .move rfl (.of rfl)) rfl rfl ?_
      first | refine TrL.stepS 23 (.guarded rfl rfl rfl fun hg => .quoI L.bd_i64 rfl (.of rfl) (.cond rfl hg) (by first | first | omega | (simp at hg; omega) | (simp at hg hp; omega) | (simp [wrap_i64] at *; omega) | (simp at hg; first | omega | (simp at hg; omega) | (simp at hg hp; omega) | (simp [wrap_i64] at *; omega)) | (simp at hg hp; first | omega | (simp at hg; omega) | (simp at hg hp; omega) | (simp [wrap_i64] at *; omega))) (by decide) (by first | first | omega | (simp at hg; omega) | (simp at hg hp; omega) | (simp [wrap_i64] at *; omega) | (simp at hg; first | omega | (simp at hg; omega) | (simp at hg hp; omega) | (simp [wrap_i64] at *; omega)) | (simp at hg hp; first | omega | (simp at hg; omega) | (simp at hg hp; omega) | (simp [wrap_i64] at *; omega))) (by first | first | omega | (simp at hg; omega) | (simp at hg hp; omega) | (simp [wrap_i64] at *; omega) | (simp at hg; first | omega | (simp at hg; omega) | (simp at hg hp; omega) | (simp [wrap_i64] at *; omega)) | (simp at hg hp; first | omega | (simp at hg; omega) | (simp at hg hp; omega) | (simp [wrap_i64] at *; omega)))) rfl rfl ?_ | refine TrL.stepS 23 (.guarded rfl rfl rfl fun hg => .quo rfl (.of rfl) (.cond rfl hg) (by first | first | omega | (simp at hg; omega) | (simp at hg hp; omega) | (simp [wrap_i64] at *; omega) | (simp at hg; first | omega | (simp at hg; omega) | (simp at hg hp; omega) | (simp [wrap_i64] at *; omega)) | (simp at hg hp; first | omega | (simp at hg; omega) | (simp at hg hp; omega) | (simp [wrap_i64] at *; omega)))) rfl rfl ?_
      refine TrL.stepS 24 (.guarded rfl rfl rfl fun hg => .gtr rfl (.cond rfl hg) (.cond rfl hg)) rfl rfl ?_
      refine TrL.stepS 25 (.plain rfl (.and rfl (.of rfl) (.cond rfl fun h => h))) rfl rfl ?_
      refine TrL.stepS 13 (.plain rfl (.assign rfl (.of rfl))) rfl rfl ?_
      refine TrL.nil ?_
      refine Fin.keepG (Γ' := [(0, _), (1, _), (13, _)]) (.same rfl (.same rfl (.same rfl .nil))) ?_
      refine Fin.next ?_
      refine Tr.cond rfl (fun hb1 => ?_) (fun hb1 => ?_)
      · have hr1 := hb1; try simp only [decide_eq_true_eq, decide_eq_false_iff_not, beq_iff_eq, beq_eq_false_iff_ne, bne_iff_ne, bne_eq_false_iff_eq, Bool.and_eq_true, Bool.and_eq_false_iff, Bool.or_eq_true, Bool.or_eq_false_iff, Bool.not_eq_true', Bool.not_eq_false', gt_iff_lt, ge_iff_le, Int.not_lt, Int.not_le, ne_eq, Int.natCast_nonneg, true_and, and_true, Decidable.not_not, not_true_eq_false, not_false_eq_true] at hb1
        refine Tr.skip ?_
        have hu : fit (a * b) = false := by
          cases h : fit (a * b) with
          | false => rfl
          | true => rw [fit_iff] at h; have := (quo_lt (a := a) (b := b) (M := 9223372036854775807) (by omega) (by omega)).1 (by omega); omega
        exact Fin.reach (true) (⟨fun _ => hu, fun h => by cases h⟩) .nil (.eq rfl (by rw [hr1]) (.same rfl (.same rfl .nil)))
      · have hr1 := hb1; try simp only [decide_eq_true_eq, decide_eq_false_iff_not, beq_iff_eq, beq_eq_false_iff_ne, bne_iff_ne, bne_eq_false_iff_eq, Bool.and_eq_true, Bool.and_eq_false_iff, Bool.or_eq_true, Bool.or_eq_false_iff, Bool.not_eq_true', Bool.not_eq_false', gt_iff_lt, ge_iff_le, Int.not_lt, Int.not_le, ne_eq, Int.natCast_nonneg, true_and, and_true, Decidable.not_not, not_true_eq_false, not_false_eq_true] at hb1
        refine Tr.seq ?_
        refine Tr.region ?_
        refine TrL.stepS 26 (.plain rfl (.move rfl (.of rfl))) rfl rfl ?_
        refine TrL.stepS 27 (.plain rfl (.gtr rfl (.of rfl) (.of rfl))) rfl rfl ?_
        refine TrL.stepS 28 (.plain rfl (.move rfl (.of rfl))) rfl rfl ?_
        refine TrL.stepS 29 (.guarded rfl rfl rfl fun hg => .move rfl (.of rfl)) rfl rfl ?_
        refine TrL.stepS 30 (.guarded rfl rfl rfl fun hg => .lss rfl (.cond rfl hg) (.of rfl)) rfl rfl ?_
        refine TrL.stepS 31 (.plain rfl (.and rfl (.of rfl) (.cond rfl fun h => h))) rfl rfl ?_
        refine TrL.stepS 32 (.plain rfl (.move rfl (.of rfl))) rfl rfl ?_
        refine TrL.stepS 33 (.guarded rfl rfl rfl fun hg => .move rfl (.of rfl)) rfl rfl ?_
        refine TrL.stepS 34 (.guarded rfl rfl rfl fun hg => .move rfl (.of rfl)) rfl rfl ?_
        first | refine TrL.stepS 35 (.guarded rfl rfl rfl fun hg => .quoI L.bd_i64 rfl (.of rfl) (.cond rfl hg) (by first | first | omega | (simp at hg; omega) | (simp at hg hp; omega) | (simp [wrap_i64] at *; omega) | (simp at hg; first | omega | (simp at hg; omega) | (simp at hg hp; omega) | (simp [wrap_i64] at *; omega)) | (simp at hg hp; first | omega | (simp at hg; omega) | (simp at hg hp; omega) | (simp [wrap_i64] at *; omega))) (by decide) (by first | first | omega | (simp at hg; omega) | (simp at hg hp; omega) | (simp [wrap_i64] at *; omega) | (simp at hg; first | omega | (simp at hg; omega) | (simp at hg hp; omega) | (simp [wrap_i64] at *; omega)) | (simp at hg hp; first | omega | (simp at hg; omega) | (simp at hg hp; omega) | (simp [wrap_i64] at *; omega))) (by first | first | omega | (simp at hg; omega) | (simp at hg hp; omega) | (simp [wrap_i64] at *; omega) | (simp at hg; first | omega | (simp at hg; omega) | (simp at hg hp; omega) | (simp [wrap_i64] at *; omega)) | (simp at hg hp; first | omega | (simp at hg; omega) | (simp at hg hp; omega) | (simp [wrap_i64] at *; omega)))) rfl rfl ?_ | refine TrL.stepS 35 (.guarded rfl rfl rfl fun hg => .quo rfl (.of rfl) (.cond rfl hg) (by first | first | omega | (simp at hg; omega) | (simp at hg hp; omega) | (simp [wrap_i64] at *; omega) | (simp at hg; first | omega | (simp at hg; omega) | (simp at hg hp; omega) | (simp [wrap_i64] at *; omega)) | (simp at hg hp; first | omega | (simp at hg; omega) | (simp at hg hp; omega) | (simp [wrap_i64] at *; omega)))) rfl rfl ?_
        refine TrL.stepS 36 (.guarded rfl rfl rfl fun hg => .lss rfl (.cond rfl hg) (.cond rfl hg)) rfl rfl ?_
        refine TrL.stepS 37 (.plain rfl (.and rfl (.of rfl) (.cond rfl fun h => h))) rfl rfl ?_
        refine TrL.stepS 13 (.plain rfl (.assign rfl (.of rfl))) rfl rfl ?_
        refine TrL.nil ?_
        refine Fin.keepG (Γ' := [(0, _), (1, _), (13, _)]) (.same rfl (.same rfl (.same rfl .nil))) ?_
        refine Fin.next ?_
        refine Tr.cond rfl (fun hb2 => ?_) (fun hb2 => ?_)
        · have hr2 := hb2; try simp only [decide_eq_true_eq, decide_eq_false_iff_not, beq_iff_eq, beq_eq_false_iff_ne, bne_iff_ne, bne_eq_false_iff_eq, Bool.and_eq_true, Bool.and_eq_false_iff, Bool.or_eq_true, Bool.or_eq_false_iff, Bool.not_eq_true', Bool.not_eq_false', gt_iff_lt, ge_iff_le, Int.not_lt, Int.not_le, ne_eq, Int.natCast_nonneg, true_and, and_true, Decidable.not_not, not_true_eq_false, not_false_eq_true] at hb2
          refine Tr.skip ?_
          have hu : fit (a * b) = false := by
            cases h : fit (a * b) with
            | false => rfl
            | true => rw [fit_iff] at h; have := (quo_neg (a := b) (b := a) (N := 9223372036854775808) (by omega) (by omega)).1 (by omega); rw [Int.mul_comm] at this; omega
          exact Fin.reach (true) (⟨fun _ => hu, fun h => by cases h⟩) .nil (.eq rfl (by rw [hr2]) (.same rfl (.same rfl .nil)))
        · have hr2 := hb2; try simp only [decide_eq_true_eq, decide_eq_false_iff_not, beq_iff_eq, beq_eq_false_iff_ne, bne_iff_ne, bne_eq_false_iff_eq, Bool.and_eq_true, Bool.and_eq_false_iff, Bool.or_eq_true, Bool.or_eq_false_iff, Bool.not_eq_true', Bool.not_eq_false', gt_iff_lt, ge_iff_le, Int.not_lt, Int.not_le, ne_eq, Int.natCast_nonneg, true_and, and_true, Decidable.not_not, not_true_eq_false, not_false_eq_true] at hb2
          refine Tr.seq ?_
          refine Tr.region ?_
          refine TrL.stepS 38 (.plain rfl (.move rfl (.of rfl))) rfl rfl ?_
          refine TrL.stepS 39 (.plain rfl (.lss rfl (.of rfl) (.of rfl))) rfl rfl ?_
          refine TrL.stepS 40 (.plain rfl (.move rfl (.of rfl))) rfl rfl ?_
          refine TrL.stepS 41 (.guarded rfl rfl rfl fun hg => .move rfl (.of rfl)) rfl rfl ?_
          refine TrL.stepS 42 (.guarded rfl rfl rfl fun hg => .gtr rfl (.cond rfl hg) (.of rfl)) rfl rfl ?_
          refine TrL.stepS 43 (.plain rfl (.and rfl (.of rfl) (.cond rfl fun h => h))) rfl rfl ?_
          refine TrL.stepS 44 (.plain rfl (.move rfl (.of rfl))) rfl rfl ?_
          refine TrL.stepS 45 (.guarded rfl rfl rfl fun hg => .move rfl (.of rfl)) rfl rfl ?_
          refine TrL.stepS 46 (.guarded rfl rfl rfl fun hg => .move rfl (.of rfl)) rfl rfl ?_
          first | refine TrL.stepS 47 (.guarded rfl rfl rfl fun hg => .quoI L.bd_i64 rfl (.of rfl) (.cond rfl hg) (by first | first | omega | (simp at hg; omega) | (simp at hg hp; omega) | (simp [wrap_i64] at *; omega) | (simp at hg; first | omega | (simp at hg; omega) | (simp at hg hp; omega) | (simp [wrap_i64] at *; omega)) | (simp at hg hp; first | omega | (simp at hg; omega) | (simp at hg hp; omega) | (simp [wrap_i64] at *; omega))) (by decide) (by first | first | omega | (simp at hg; omega) | (simp at hg hp; omega) | (simp [wrap_i64] at *; omega) | (simp at hg; first | omega | (simp at hg; omega) | (simp at hg hp; omega) | (simp [wrap_i64] at *; omega)) | (simp at hg hp; first | omega | (simp at hg; omega) | (simp at hg hp; omega) | (simp [wrap_i64] at *; omega))) (by first | first | omega | (simp at hg; omega) | (simp at hg hp; omega) | (simp [wrap_i64] at *; omega) | (simp at hg; first | omega | (simp at hg; omega) | (simp at hg hp; omega) | (simp [wrap_i64] at *; omega)) | (simp at hg hp; first | omega | (simp at hg; omega) | (simp at hg hp; omega) | (simp [wrap_i64] at *; omega)))) rfl rfl ?_ | refine TrL.stepS 47 (.guarded rfl rfl rfl fun hg => .quo rfl (.of rfl) (.cond rfl hg) (by first | first | omega | (simp at hg; omega) | (simp at hg hp; omega) | (simp [wrap_i64] at *; omega) | (simp at hg; first | omega | (simp at hg; omega) | (simp at hg hp; omega) | (simp [wrap_i64] at *; omega)) | (simp at hg hp; first | omega | (simp at hg; omega) | (simp at hg hp; omega) | (simp [wrap_i64] at *; omega)))) rfl rfl ?_
          refine TrL.stepS 48 (.guarded rfl rfl rfl fun hg => .lss rfl (.cond rfl hg) (.cond rfl hg)) rfl rfl ?_
          refine TrL.stepS 49 (.plain rfl (.and rfl (.of rfl) (.cond rfl fun h => h))) rfl rfl ?_
          refine TrL.stepS 13 (.plain rfl (.assign rfl (.of rfl))) rfl rfl ?_
          refine TrL.nil ?_
          refine Fin.keepG (Γ' := [(0, _), (1, _), (13, _)]) (.same rfl (.same rfl (.same rfl .nil))) ?_
          refine Fin.next ?_
          refine Tr.cond rfl (fun hb3 => ?_) (fun hb3 => ?_)
          · have hr3 := hb3; try simp only [decide_eq_true_eq, decide_eq_false_iff_not, beq_iff_eq, beq_eq_false_iff_ne, bne_iff_ne, bne_eq_false_iff_eq, Bool.and_eq_true, Bool.and_eq_false_iff, Bool.or_eq_true, Bool.or_eq_false_iff, Bool.not_eq_true', Bool.not_eq_false', gt_iff_lt, ge_iff_le, Int.not_lt, Int.not_le, ne_eq, Int.natCast_nonneg, true_and, and_true, Decidable.not_not, not_true_eq_false, not_false_eq_true] at hb3
            refine Tr.skip ?_
            have hu : fit (a * b) = false := by
              cases h : fit (a * b) with
              | false => rfl
              | true => rw [fit_iff] at h; have := (quo_neg (a := a) (b := b) (N := 9223372036854775808) (by omega) (by omega)).1 (by omega); omega
            exact Fin.reach (true) (⟨fun _ => hu, fun h => by cases h⟩) .nil (.eq rfl (by rw [hr3]) (.same rfl (.same rfl .nil)))
          · have hr3 := hb3; try simp only [decide_eq_true_eq, decide_eq_false_iff_not, beq_iff_eq, beq_eq_false_iff_ne, bne_iff_ne, bne_eq_false_iff_eq, Bool.and_eq_true, Bool.and_eq_false_iff, Bool.or_eq_true, Bool.or_eq_false_iff, Bool.not_eq_true', Bool.not_eq_false', gt_iff_lt, ge_iff_le, Int.not_lt, Int.not_le, ne_eq, Int.natCast_nonneg, true_and, and_true, Decidable.not_not, not_true_eq_false, not_false_eq_true] at hb3
            refine Tr.region ?_
            refine TrL.stepS 50 (.plain rfl (.move rfl (.of rfl))) rfl rfl ?_
            refine TrL.stepS 51 (.plain rfl (.lss rfl (.of rfl) (.of rfl))) rfl rfl ?_
            refine TrL.stepS 52 (.plain rfl (.move rfl (.of rfl))) rfl rfl ?_
            refine TrL.stepS 53 (.guarded rfl rfl rfl fun hg => .move rfl (.of rfl)) rfl rfl ?_
            refine TrL.stepS 54 (.guarded rfl rfl rfl fun hg => .lss rfl (.cond rfl hg) (.of rfl)) rfl rfl ?_
            refine TrL.stepS 55 (.plain rfl (.and rfl (.of rfl) (.cond rfl fun h => h))) rfl rfl ?_
            refine TrL.stepS 56 (.plain rfl (.move rfl (.of rfl))) rfl rfl ?_
            refine TrL.stepS 57 (.guarded rfl rfl rfl fun hg => .move rfl (.of rfl)) rfl rfl ?_
            refine TrL.stepS 58 (.guarded rfl rfl rfl fun hg => .eql rfl (.cond rfl hg) (.of rfl)) rfl rfl ?_
            refine TrL.stepS 59 (.guarded rfl rfl rfl fun hg => .move rfl (.cond rfl hg)) rfl rfl ?_
            refine TrL.stepS 60 (.guarded2 rfl rfl rfl fun hp hg => .move rfl (.of rfl)) rfl rfl ?_
            refine TrL.stepS 61 (.guarded2 rfl rfl rfl fun hp hg => .eql rfl (.cond rfl ⟨hp, hg⟩) (.of rfl)) rfl rfl ?_
            refine TrL.stepS 62 (.guarded rfl rfl rfl fun hg => .or rfl (.cond rfl hg) (.cond rfl fun h => ⟨hg, h⟩)) rfl rfl ?_
            refine TrL.stepS 63 (.guarded rfl rfl rfl fun hg => .move rfl (.cond rfl hg)) rfl rfl ?_
            refine TrL.stepS 64 (.guarded2 rfl rfl rfl fun hp hg => .move rfl (.of rfl)) rfl rfl ?_
            refine TrL.stepS 65 (.guarded2 rfl rfl rfl fun hp hg => .neg rfl (.cond rfl ⟨hp, hg⟩)) rfl rfl ?_
            refine TrL.stepS 66 (.guarded2 rfl rfl rfl fun hp hg => .move rfl (.of rfl)) rfl rfl ?_
            refine TrL.stepS 67 (.guarded2 rfl rfl rfl fun hp hg => .neg rfl (.cond rfl ⟨hp, hg⟩)) rfl rfl ?_
            first | refine TrL.stepS 68 (.guarded2 rfl rfl rfl fun hp hg => .quoI L.bd_i64 rfl (.of rfl) (.cond rfl ⟨hp, hg⟩) (by first | first | omega | (simp at hg; omega) | (simp at hg hp; omega) | (simp [wrap_i64] at *; omega) | (simp at hg; first | omega | (simp at hg; omega) | (simp at hg hp; omega) | (simp [wrap_i64] at *; omega)) | (simp at hg hp; first | omega | (simp at hg; omega) | (simp at hg hp; omega) | (simp [wrap_i64] at *; omega))) (by decide) (by first | first | omega | (simp at hg; omega) | (simp at hg hp; omega) | (simp [wrap_i64] at *; omega) | (simp at hg; first | omega | (simp at hg; omega) | (simp at hg hp; omega) | (simp [wrap_i64] at *; omega)) | (simp at hg hp; first | omega | (simp at hg; omega) | (simp at hg hp; omega) | (simp [wrap_i64] at *; omega))) (by first | first | omega | (simp at hg; omega) | (simp at hg hp; omega) | (simp [wrap_i64] at *; omega) | (simp at hg; first | omega | (simp at hg; omega) | (simp at hg hp; omega) | (simp [wrap_i64] at *; omega)) | (simp at hg hp; first | omega | (simp at hg; omega) | (simp at hg hp; omega) | (simp [wrap_i64] at *; omega)))) rfl rfl ?_ | refine TrL.stepS 68 (.guarded2 rfl rfl rfl fun hp hg => .quo rfl (.of rfl) (.cond rfl ⟨hp, hg⟩) (by first | first | omega | (simp at hg; omega) | (simp at hg hp; omega) | (simp [wrap_i64] at *; omega) | (simp at hg; first | omega | (simp at hg; omega) | (simp at hg hp; omega) | (simp [wrap_i64] at *; omega)) | (simp at hg hp; first | omega | (simp at hg; omega) | (simp at hg hp; omega) | (simp [wrap_i64] at *; omega)))) rfl rfl ?_
            refine TrL.stepS 69 (.guarded2 rfl rfl rfl fun hp hg => .gtr rfl (.cond rfl ⟨hp, hg⟩) (.cond rfl ⟨hp, hg⟩)) rfl rfl ?_
            refine TrL.stepS 70 (.guarded rfl rfl rfl fun hg => .or rfl (.cond rfl hg) (.cond rfl fun h => ⟨hg, h⟩)) rfl rfl ?_
            refine TrL.stepS 71 (.plain rfl (.and rfl (.of rfl) (.cond rfl fun h => h))) rfl rfl ?_
            refine TrL.stepS 13 (.plain rfl (.assign rfl (.of rfl))) rfl rfl ?_
            refine TrL.nil ?_
            refine Fin.keepG (Γ' := [(0, _), (1, _), (13, _)]) (.same rfl (.same rfl (.same rfl .nil))) ?_
            exact Fin.reach (_) (last33 ha hb ha1 hb1' hb1 hb2 hb3 _ rfl) .nil (.eq rfl (by rfl) (.same rfl (.same rfl .nil)))
    case jkc4 =>
      intro t hI
      refine Tr.cond rfl (fun hb4 => ?_) (fun hb4 => ?_)
      · try simp only [decide_eq_true_eq, decide_eq_false_iff_not, beq_iff_eq, beq_eq_false_iff_ne, bne_iff_ne, bne_eq_false_iff_eq, Bool.and_eq_true, Bool.and_eq_false_iff, Bool.or_eq_true, Bool.or_eq_false_iff, Bool.not_eq_true', Bool.not_eq_false', gt_iff_lt, ge_iff_le, Int.not_lt, Int.not_le, ne_eq, Int.natCast_nonneg, true_and, and_true, Decidable.not_not, not_true_eq_false, not_false_eq_true] at hb4
        have hnf := hI.1 hb4
        refine Tr.seq ?_
        refine Tr.region ?_
        refine TrL.stepS 4 (.plain rfl (.assign rfl (.of rfl))) rfl rfl ?_
        refine TrL.stepS 5 (.plain rfl (.assign rfl (.of rfl))) rfl rfl ?_
        refine TrL.nil ?_
        refine Fin.keepG (Γ' := [(4, _), (5, _)]) (.same rfl (.same rfl .nil)) ?_
        refine Fin.next ?_
        refine Tr.ret ?_
        refine Fin.blockRet ?_
        refine Fin.thenRet ?_
        refine Fin.retI (rs := [_, _]) (Rs' := [is (.int .i64 (cl (a * b))), is (.bool (fit (a * b)))]) rfl (.cons (.tmp rfl) (.cons (.tmp rfl) .nil)) (.cons (L.iv ?_) (.cons (L.iv ?_) .nil))
        · simp [cl, hnf]
        · rw [hnf]
      · try simp only [decide_eq_true_eq, decide_eq_false_iff_not, beq_iff_eq, beq_eq_false_iff_ne, bne_iff_ne, bne_eq_false_iff_eq, Bool.and_eq_true, Bool.and_eq_false_iff, Bool.or_eq_true, Bool.or_eq_false_iff, Bool.not_eq_true', Bool.not_eq_false', gt_iff_lt, ge_iff_le, Int.not_lt, Int.not_le, ne_eq, Int.natCast_nonneg, true_and, and_true, Decidable.not_not, not_true_eq_false, not_false_eq_true] at hb4
        have hnf := hI.2 hb4
        refine Tr.skip ?_
        refine Fin.blockNormal ?_
        refine Fin.next ?_
        refine Tr.seq ?_
        refine Tr.region ?_
        refine TrL.stepS 72 (.plain rfl (.move rfl (.of rfl))) rfl rfl ?_
        refine TrL.stepS 73 (.plain rfl (.move rfl (.of rfl))) rfl rfl ?_
        refine TrL.stepS 74 (.plain rfl (.mul rfl (.of rfl) (.of rfl))) rfl rfl ?_
        refine TrL.stepS 4 (.plain rfl (.assign rfl (.of rfl))) rfl rfl ?_
        refine TrL.stepS 5 (.plain rfl (.assign rfl (.of rfl))) rfl rfl ?_
        refine TrL.nil ?_
        refine Fin.keepG (Γ' := [(4, _), (5, _)]) (.same rfl (.same rfl .nil)) ?_
        refine Fin.next ?_
        refine Tr.ret ?_
        refine Fin.retI (rs := [_, _]) (Rs' := [is (.int .i64 (cl (a * b))), is (.bool (fit (a * b)))]) rfl (.cons (.tmp rfl) (.cons (.tmp rfl) .nil)) (.cons (L.iv ?_) (.cons (L.iv ?_) .nil))
        · have e := fit_iff.1 hnf
          simp only [cl, hnf, if_true]; congr 1; rw [wrap_i64]; omega
        · rw [hnf]

/- tidepool/agg.One -/
set_option maxRecDepth 100000 in
theorem F79 (v : Int) : FnP Try.prog 79 [is (.int .i64 v)] (is (.agg #[.int .i64 1, .int .i64 v, .int .i64 v, .int .i64 v])) := by
  refine FnP.mk' Try.func79 T.nm79 rfl (N := 7) rfl rfl fun B hB hκ => ?_
  refine Tr.seq ?_
  refine Tr.region ?_
  refine TrL.allocS 20 (zs := [.int .i64 0, .int .i64 0, .int .i64 0, .int .i64 0]) rfl rfl (by kernel_rfl) 2 rfl rfl rfl fun b20 => ?_
  refine TrL.nil ?_
  refine Fin.next ?_
  refine Tr.seq ?_
  refine Tr.region ?_
  refine TrL.stepS 3 (.plain rfl (.move rfl (.of rfl))) rfl rfl ?_
  refine TrL.stepS 4 (.plain rfl (.move rfl (.of rfl))) rfl rfl ?_
  refine TrL.stepS 5 (.plain rfl (.move rfl (.of rfl))) rfl rfl ?_
  refine TrL.stepS 6 (.plain rfl (.build rfl (.cons (.of rfl) (.cons (.of rfl) (.cons (.of rfl) (.cons (.of rfl) .nil)))) (T.S3bd122_0_1_2_3 _ _ _ _))) rfl rfl ?_
  refine TrL.storeW 20 (vs := [_, _, _, _]) rfl rfl rfl (.of rfl) (.of rfl) rfl rfl T.sz122 rfl rfl ?_
  refine TrL.nil ?_
  refine Fin.keepG (Γ' := [(2, _)]) (.same rfl .nil) ?_
  refine Fin.next ?_
  refine Tr.ret ?_
  exact Fin.retI (rs := [_]) (Rs' := [is (.agg #[.int .i64 1, .int .i64 v, .int .i64 v, .int .i64 v])]) rfl (.cons (.cellB 20 (k := 4) (ds := [_, _, _, _]) rfl rfl rfl rfl T.ag122 rfl) .nil) (.cons (L.iv rfl) .nil)

/- (tidepool/agg.Agg).Blank -/
set_option maxRecDepth 100000 in
theorem F88 (a : Ag) : FnP Try.prog 88 [is (.agg #[.int .i64 (a).1, .int .i64 (a).2.1, .int .i64 (a).2.2.1, .int .i64 (a).2.2.2])] (is (.bool (blankA a))) := by
  refine FnP.mk' Try.func88 T.nm88 rfl (N := 6) rfl rfl fun B hB hκ => ?_
  refine Tr.seq ?_
  refine Tr.region ?_
  refine TrL.stepS 1 (.plain rfl (.boxR rfl (.of rfl))) rfl rfl ?_
  refine TrL.stepS 2 (.plain rfl (.assign rfl (.of rfl))) rfl rfl ?_
  refine TrL.nil ?_
  refine Fin.keepG (Γ' := [(1, _)]) (.same rfl .nil) ?_
  refine Fin.next ?_
  refine Tr.seq ?_
  refine Tr.region ?_
  refine TrL.stepS 3 (.plain rfl (.load4 rfl (.of rfl) T.ag122)) rfl rfl ?_
  refine TrL.stepS 4 (.plain rfl (.build rfl .nil (T.S3bd122))) rfl rfl ?_
  refine TrL.stepS 5 (.plain rfl (.eqlS rfl (.of rfl) (.of rfl) (by kernel_rfl) (T.eq122 _ _ _ _ _ _ _ _))) rfl rfl ?_
  refine TrL.stepS 2 (.plain rfl (.assign rfl (.of rfl))) rfl rfl ?_
  refine TrL.nil ?_
  refine Fin.keepG (Γ' := [(2, _)]) (.same rfl .nil) ?_
  refine Fin.next ?_
  refine Tr.ret ?_
  refine Fin.retI (rs := [_]) (Rs' := [is (.bool (blankA a))]) rfl (.cons (.tmp rfl) .nil) (.cons (L.iv ?_) .nil)
  · congr 1; rw [Bool.eq_iff_iff, blank_iff]; simp [and_assoc]

/- (tidepool/agg.Agg).Right -/
set_option maxRecDepth 100000 in
theorem F89 (a : Ag) : FnP Try.prog 89 [is (.agg #[.int .i64 (a).1, .int .i64 (a).2.1, .int .i64 (a).2.2.1, .int .i64 (a).2.2.2])] (is (.bool (rightA a))) := by
  refine FnP.mk' Try.func89 T.nm89 rfl (N := 29) rfl rfl fun B hB hκ => ?_
  refine Tr.seq ?_
  refine Tr.region ?_
  refine TrL.stepS 1 (.plain rfl (.boxR rfl (.of rfl))) rfl rfl ?_
  refine TrL.stepS 2 (.plain rfl (.assign rfl (.of rfl))) rfl rfl ?_
  refine TrL.nil ?_
  refine Fin.keepG (Γ' := [(1, _)]) (.same rfl .nil) ?_
  refine Fin.next ?_
  refine Tr.seq ?_
  refine Tr.regionK T.mixed (by kernel_rfl) (by kernel_rfl) ?_
  refine ChainK.consS 3 (.plain rfl (.load4 rfl (.of rfl) T.ag122)) rfl ?_
  refine ChainK.consS 4 (.plain rfl (.call rfl (F88 a) (.cons (.of rfl) .nil))) rfl ?_
  refine ChainK.consS 5 (.plain rfl (.move rfl (.of rfl))) rfl ?_
  refine ChainK.consS 6 (.guarded rfl rfl rfl fun hg => .fieldC rfl (.of rfl) T.fl122_0) rfl ?_
  refine ChainK.consS 7 (.guarded rfl rfl rfl fun hg => .load1 rfl (.cond rfl hg) T.sc2) rfl ?_
  refine ChainK.consS 8 (.guarded rfl rfl rfl fun hg => .gtr rfl (.cond rfl hg) (.of rfl)) rfl ?_
  refine ChainK.consS 9 (.guarded rfl rfl rfl fun hg => .move rfl (.cond rfl hg)) rfl ?_
  refine ChainK.consS 10 (.guarded2 rfl rfl rfl fun hp hg => .fieldC rfl (.of rfl) T.fl122_2) rfl ?_
  refine ChainK.consS 11 (.guarded2 rfl rfl rfl fun hp hg => .load1 rfl (.cond rfl ⟨hp, hg⟩) T.sc2) rfl ?_
  refine ChainK.consS 12 (.guarded2 rfl rfl rfl fun hp hg => .fieldC rfl (.of rfl) T.fl122_3) rfl ?_
  refine ChainK.consS 13 (.guarded2 rfl rfl rfl fun hp hg => .load1 rfl (.cond rfl ⟨hp, hg⟩) T.sc2) rfl ?_
  refine ChainK.consS 14 (.guarded2 rfl rfl rfl fun hp hg => .leq rfl (.cond rfl ⟨hp, hg⟩) (.cond rfl ⟨hp, hg⟩)) rfl ?_
  refine ChainK.consS 15 (.guarded rfl rfl rfl fun hg => .and rfl (.cond rfl hg) (.cond rfl fun h => ⟨hg, h⟩)) rfl ?_
  refine ChainK.consS 16 (.guarded rfl rfl rfl fun hg => .move rfl (.cond rfl hg)) rfl ?_
  refine ChainK.consS 17 (.guarded2 rfl rfl rfl fun hp hg => .fieldC rfl (.of rfl) T.fl122_0) rfl ?_
  refine ChainK.consS 18 (.guarded2 rfl rfl rfl fun hp hg => .load1 rfl (.cond rfl ⟨hp, hg⟩) T.sc2) rfl ?_
  refine ChainK.consS 19 (.guarded2 rfl rfl rfl fun hp hg => .gtr rfl (.cond rfl ⟨hp, hg⟩) (.of rfl)) rfl ?_
  refine ChainK.consS 20 (.guarded2 rfl rfl rfl fun hp hg => .move rfl (.cond rfl ⟨hp, hg⟩)) rfl ?_
  refine ChainK.consS 21 (.guarded2 rfl rfl rfl fun hp hg => .load4 rfl (.of rfl) T.ag122) rfl ?_
  refine ChainK.consS 22 (.guarded2 rfl rfl rfl fun hp hg => .fieldC rfl (.of rfl) T.fl122_1) rfl ?_
  refine ChainK.consS 23 (.guarded2 rfl rfl rfl fun hp hg => .load1 rfl (.cond rfl ⟨⟨hp.1, hp.2⟩, hg⟩) T.sc2) rfl ?_
  refine ChainK.consS 24 (.guarded2 rfl rfl rfl fun hp hg => .call rfl (F79 a.2.1) (.cons (.cond rfl ⟨⟨hp.1, hp.2⟩, hg⟩) .nil)) rfl ?_
  refine ChainK.consS 25 (.guarded2 rfl rfl rfl fun hp hg => .eqlS rfl (.cond rfl ⟨⟨hp.1, hp.2⟩, hg⟩) (.cond rfl ⟨⟨hp.1, hp.2⟩, hg⟩) (by kernel_rfl) (T.eq122 _ _ _ _ _ _ _ _)) rfl ?_
  refine ChainK.consS 26 (.guarded2 rfl rfl rfl fun hp hg => .or rfl (.cond rfl ⟨hp, hg⟩) (.cond rfl fun h => ⟨⟨hp, hg⟩, h⟩)) rfl ?_
  refine ChainK.consS 27 (.guarded rfl rfl rfl fun hg => .and rfl (.cond rfl hg) (.cond rfl fun h => ⟨hg, h⟩)) rfl ?_
  refine ChainK.consS 28 (.plain rfl (.or rfl (.of rfl) (.cond rfl fun h => h))) rfl ?_
  refine ChainK.consS 2 (.plain rfl (.assign rfl (.of rfl))) rfl ?_
  refine ChainK.nil ?_
  refine Fin.keepG (Γ' := [(2, _)]) (.same rfl .nil) ?_
  refine Fin.next ?_
  refine Tr.ret ?_
  refine Fin.retI (rs := [_]) (Rs' := [is (.bool (rightA a))]) rfl (.cons (.tmp rfl) .nil) (.cons (L.iv ?_) .nil)
  · congr 1; obtain ⟨c, s, m, x⟩ := a; rw [Bool.eq_iff_iff]; simp [rightA, and_assoc]

/- slices.Min[[]int64,int64] -/
set_option maxRecDepth 100000 in
theorem F137 (xs : List Int) (hl : xs.length ≤ 1000) (hne : xs ≠ []) : FnP Try.prog 137 [Lst (intR .i64) xs] (is (.int .i64 (mn xs))) := by
  have hpos : 0 < xs.length := List.length_pos_iff.2 hne
  obtain ⟨x0, hx0⟩ := ex_get (xs := xs) (i := 0) hpos
  refine FnP.mk' Try.func137 T.nm137 rfl (N := 25) rfl rfl fun B hB hκ => ?_
  refine Tr.seq ?_
  refine Tr.region ?_
  refine TrL.stepS 2 (.plain rfl (.assign rfl (.of rfl))) rfl rfl ?_
  refine TrL.nil ?_
  refine Fin.keepG (Γ' := [(0, _)]) (.same rfl .nil) ?_
  refine Fin.next ?_
  refine Tr.seq ?_
  refine Tr.seq ?_
  refine Tr.region ?_
  refine TrL.stepS 5 (.plain rfl (.move rfl (.of rfl))) rfl rfl ?_
  refine TrL.stepS 6 (.plain rfl (.len rfl (.of rfl) Try.underlying24)) rfl rfl ?_
  refine TrL.stepS 7 (.plain rfl (.lss rfl (.of rfl) (.of rfl))) rfl rfl ?_
  refine TrL.nil ?_
  refine Fin.keepG (Γ' := [(0, _), (7, _)]) (.same rfl (.same rfl .nil)) ?_
  refine Fin.next ?_
  refine Tr.cond rfl (fun hb0 => ?_) (fun hb0 => ?_)
  · try simp only [decide_eq_true_eq, decide_eq_false_iff_not, beq_iff_eq, beq_eq_false_iff_ne, bne_iff_ne, bne_eq_false_iff_eq, Bool.and_eq_true, Bool.and_eq_false_iff, Bool.or_eq_true, Bool.or_eq_false_iff, Bool.not_eq_true', Bool.not_eq_false', gt_iff_lt, ge_iff_le, Int.not_lt, Int.not_le, ne_eq, Int.natCast_nonneg, true_and, and_true, Decidable.not_not, not_true_eq_false, not_false_eq_true] at hb0
    omega
  · try simp only [decide_eq_true_eq, decide_eq_false_iff_not, beq_iff_eq, beq_eq_false_iff_ne, bne_iff_ne, bne_eq_false_iff_eq, Bool.and_eq_true, Bool.and_eq_false_iff, Bool.or_eq_true, Bool.or_eq_false_iff, Bool.not_eq_true', Bool.not_eq_false', gt_iff_lt, ge_iff_le, Int.not_lt, Int.not_le, ne_eq, Int.natCast_nonneg, true_and, and_true, Decidable.not_not, not_true_eq_false, not_false_eq_true] at hb0
    refine Tr.skip ?_
    refine Fin.next ?_
    refine Tr.seq ?_
    refine Tr.region ?_
    refine TrL.stepS 9 (.plain rfl (.move rfl (.of rfl))) rfl rfl ?_
    refine TrL.stepS 10 (.plain rfl (.indexE rfl (.of rfl) (.of rfl) Try.underlying24 T.sz2 (by omega) hx0)) rfl rfl ?_
    refine TrL.stepS 11 (.plain rfl (.load1 rfl (.of rfl) T.sc2)) rfl rfl ?_
    refine TrL.stepS 3 (.plain rfl (.assign rfl (.of rfl))) rfl rfl ?_
    refine TrL.nil ?_
    refine Fin.keepG (Γ' := [(0, _), (3, _)]) (.same rfl (.same rfl .nil)) ?_
    refine Fin.next ?_
    refine Tr.seq ?_
    refine Tr.seq ?_
    refine Tr.region ?_
    refine TrL.stepS 4 (.plain rfl (.assign rfl (.of rfl))) rfl rfl ?_
    refine TrL.nil ?_
    refine Fin.next ?_
    refine Tr.block ?_
    refine Tr.loopK (γ := Nat) (Γk := [(0, _)]) (Mk := []) (.same rfl .nil) .nil (fun k => 1 ≤ k ∧ k ≤ xs.length) (fun k => fun r => r) (fun k => fun r => (3, is (.int .i64 (mn (xs.take k)))) :: (4, is (.int .i64 k)) :: r) (fun k => xs.length - k) (1) ?h0_0 ?hM_0 ?hG_0 ?hl_0
    case h0_0 => exact ⟨by omega, by omega⟩
    case hM_0 => exact .nil
    case hG_0 => exact (.eq rfl (by congr 1; cases xs with
        | nil => exact absurd rfl hne
        | cons y ys => simp at hx0; subst hx0; simp [mn]) (.eq rfl (by first | rfl | (congr 1; first | done | omega | (push_cast; omega) | (push_cast; rfl))) (.same rfl .nil)))
    case hl_0 =>
      intro k hI
      refine Tr.seq ?_
      refine Tr.seq ?_
      refine Tr.region ?_
      refine TrL.stepS 12 (.plain rfl (.move rfl (.of rfl))) rfl rfl ?_
      refine TrL.stepS 13 (.plain rfl (.move rfl (.of rfl))) rfl rfl ?_
      refine TrL.stepS 14 (.plain rfl (.len rfl (.of rfl) Try.underlying24)) rfl rfl ?_
      refine TrL.stepS 15 (.plain rfl (.lss rfl (.of rfl) (.of rfl))) rfl rfl ?_
      refine TrL.nil ?_
      refine Fin.keepG (Γ' := [(0, _), (3, _), (4, _), (15, _)]) (.same rfl (.same rfl (.same rfl (.same rfl .nil)))) ?_
      refine Fin.next ?_
      refine Tr.cond rfl (fun hb1 => ?_) (fun hb1 => ?_)
      · try simp only [decide_eq_true_eq, decide_eq_false_iff_not, beq_iff_eq, beq_eq_false_iff_ne, bne_iff_ne, bne_eq_false_iff_eq, Bool.and_eq_true, Bool.and_eq_false_iff, Bool.or_eq_true, Bool.or_eq_false_iff, Bool.not_eq_true', Bool.not_eq_false', gt_iff_lt, ge_iff_le, Int.not_lt, Int.not_le, ne_eq, Int.natCast_nonneg, true_and, and_true, Decidable.not_not, not_true_eq_false, not_false_eq_true] at hb1
        obtain ⟨x, hx⟩ := ex_get (xs := xs) (i := k) (by omega)
        refine Tr.skip ?_
        refine Fin.next ?_
        refine Tr.seq ?_
        refine Tr.block ?_
        refine Tr.region ?_
        refine TrL.stepS 18 (.plain rfl (.move rfl (.of rfl))) rfl rfl ?_
        refine TrL.stepS 19 (.plain rfl (.move rfl (.of rfl))) rfl rfl ?_
        refine TrL.stepS 20 (.plain rfl (.move rfl (.of rfl))) rfl rfl ?_
        refine TrL.stepS 21 (.plain rfl (.indexE rfl (.of rfl) (.of rfl) Try.underlying24 T.sz2 (by omega) hx)) rfl rfl ?_
        refine TrL.stepS 22 (.plain rfl (.load1 rfl (.of rfl) T.sc2)) rfl rfl ?_
        refine TrL.stepS 23 (.plain rfl (.min2 rfl (.of rfl) (.of rfl))) rfl rfl ?_
        refine TrL.stepS 3 (.plain rfl (.assign rfl (.of rfl))) rfl rfl ?_
        refine TrL.nil ?_
        refine Fin.keepG (Γ' := [(0, _), (3, _), (4, _)]) (.same rfl (.same rfl (.same rfl .nil))) ?_
        refine Fin.blockNormal ?_
        refine Fin.next ?_
        refine Tr.region ?_
        refine TrL.stepS 16 (.plain rfl (.move rfl (.of rfl))) rfl rfl ?_
        first | refine TrL.stepS 17 (.plain rfl (.addI L.bd_i64 rfl (.of rfl) (.of rfl) (by omega) (by omega))) rfl rfl ?_ | refine TrL.stepS 17 (.plain rfl (.add rfl (.of rfl) (.of rfl))) rfl rfl ?_
        refine TrL.stepS 4 (.plain rfl (.assign rfl (.of rfl))) rfl rfl ?_
        refine TrL.nil ?_
        refine Fin.keepG (Γ' := [(0, _), (3, _), (4, _)]) (.same rfl (.same rfl (.same rfl .nil))) ?_
        exact Fin.again (k + 1) (⟨by omega, by omega⟩) (by omega) .nil (.eq rfl (by rw [take_snoc hx, mn_snoc (take_ne (by omega) (by omega))]) (.eq rfl (by first | rfl | (congr 1; first | done | omega | (push_cast; omega) | (push_cast; rfl))) (.same rfl .nil)))
      · try simp only [decide_eq_true_eq, decide_eq_false_iff_not, beq_iff_eq, beq_eq_false_iff_ne, bne_iff_ne, bne_eq_false_iff_eq, Bool.and_eq_true, Bool.and_eq_false_iff, Bool.or_eq_true, Bool.or_eq_false_iff, Bool.not_eq_true', Bool.not_eq_false', gt_iff_lt, ge_iff_le, Int.not_lt, Int.not_le, ne_eq, Int.natCast_nonneg, true_and, and_true, Decidable.not_not, not_true_eq_false, not_false_eq_true] at hb1
        refine Tr.exit ?_
        refine Fin.thenExit ?_
        refine Fin.thenExit ?_
        refine Fin.blockOut ?_
        refine Fin.next ?_
        refine Tr.seq ?_
        refine Tr.region ?_
        refine TrL.stepS 24 (.plain rfl (.move rfl (.of rfl))) rfl rfl ?_
        refine TrL.stepS 2 (.plain rfl (.assign rfl (.of rfl))) rfl rfl ?_
        refine TrL.nil ?_
        refine Fin.keepG (Γ' := [(2, _)]) (.same rfl .nil) ?_
        refine Fin.next ?_
        refine Tr.ret ?_
        refine Fin.retI (rs := [_]) (Rs' := [is (.int .i64 (mn xs))]) rfl (.cons (.tmp rfl) .nil) (.cons (L.iv ?_) .nil)
        · rw [List.take_of_length_le (by omega)]

/- slices.Max[[]int64,int64] -/
set_option maxRecDepth 100000 in
theorem F138 (xs : List Int) (hl : xs.length ≤ 1000) (hne : xs ≠ []) : FnP Try.prog 138 [Lst (intR .i64) xs] (is (.int .i64 (mx xs))) := by
  have hpos : 0 < xs.length := List.length_pos_iff.2 hne
  obtain ⟨x0, hx0⟩ := ex_get (xs := xs) (i := 0) hpos
  refine FnP.mk' Try.func138 T.nm138 rfl (N := 25) rfl rfl fun B hB hκ => ?_
  refine Tr.seq ?_
  refine Tr.region ?_
  refine TrL.stepS 2 (.plain rfl (.assign rfl (.of rfl))) rfl rfl ?_
  refine TrL.nil ?_
  refine Fin.keepG (Γ' := [(0, _)]) (.same rfl .nil) ?_
  refine Fin.next ?_
  refine Tr.seq ?_
  refine Tr.seq ?_
  refine Tr.region ?_
  refine TrL.stepS 5 (.plain rfl (.move rfl (.of rfl))) rfl rfl ?_
  refine TrL.stepS 6 (.plain rfl (.len rfl (.of rfl) Try.underlying24)) rfl rfl ?_
  refine TrL.stepS 7 (.plain rfl (.lss rfl (.of rfl) (.of rfl))) rfl rfl ?_
  refine TrL.nil ?_
  refine Fin.keepG (Γ' := [(0, _), (7, _)]) (.same rfl (.same rfl .nil)) ?_
  refine Fin.next ?_
  refine Tr.cond rfl (fun hb0 => ?_) (fun hb0 => ?_)
  · try simp only [decide_eq_true_eq, decide_eq_false_iff_not, beq_iff_eq, beq_eq_false_iff_ne, bne_iff_ne, bne_eq_false_iff_eq, Bool.and_eq_true, Bool.and_eq_false_iff, Bool.or_eq_true, Bool.or_eq_false_iff, Bool.not_eq_true', Bool.not_eq_false', gt_iff_lt, ge_iff_le, Int.not_lt, Int.not_le, ne_eq, Int.natCast_nonneg, true_and, and_true, Decidable.not_not, not_true_eq_false, not_false_eq_true] at hb0
    omega
  · try simp only [decide_eq_true_eq, decide_eq_false_iff_not, beq_iff_eq, beq_eq_false_iff_ne, bne_iff_ne, bne_eq_false_iff_eq, Bool.and_eq_true, Bool.and_eq_false_iff, Bool.or_eq_true, Bool.or_eq_false_iff, Bool.not_eq_true', Bool.not_eq_false', gt_iff_lt, ge_iff_le, Int.not_lt, Int.not_le, ne_eq, Int.natCast_nonneg, true_and, and_true, Decidable.not_not, not_true_eq_false, not_false_eq_true] at hb0
    refine Tr.skip ?_
    refine Fin.next ?_
    refine Tr.seq ?_
    refine Tr.region ?_
    refine TrL.stepS 9 (.plain rfl (.move rfl (.of rfl))) rfl rfl ?_
    refine TrL.stepS 10 (.plain rfl (.indexE rfl (.of rfl) (.of rfl) Try.underlying24 T.sz2 (by omega) hx0)) rfl rfl ?_
    refine TrL.stepS 11 (.plain rfl (.load1 rfl (.of rfl) T.sc2)) rfl rfl ?_
    refine TrL.stepS 3 (.plain rfl (.assign rfl (.of rfl))) rfl rfl ?_
    refine TrL.nil ?_
    refine Fin.keepG (Γ' := [(0, _), (3, _)]) (.same rfl (.same rfl .nil)) ?_
    refine Fin.next ?_
    refine Tr.seq ?_
    refine Tr.seq ?_
    refine Tr.region ?_
    refine TrL.stepS 4 (.plain rfl (.assign rfl (.of rfl))) rfl rfl ?_
    refine TrL.nil ?_
    refine Fin.next ?_
    refine Tr.block ?_
    refine Tr.loopK (γ := Nat) (Γk := [(0, _)]) (Mk := []) (.same rfl .nil) .nil (fun k => 1 ≤ k ∧ k ≤ xs.length) (fun k => fun r => r) (fun k => fun r => (3, is (.int .i64 (mx (xs.take k)))) :: (4, is (.int .i64 k)) :: r) (fun k => xs.length - k) (1) ?h0_0 ?hM_0 ?hG_0 ?hl_0
    case h0_0 => exact ⟨by omega, by omega⟩
    case hM_0 => exact .nil
    case hG_0 => exact (.eq rfl (by congr 1; cases xs with
        | nil => exact absurd rfl hne
        | cons y ys => simp at hx0; subst hx0; simp [mx]) (.eq rfl (by first | rfl | (congr 1; first | done | omega | (push_cast; omega) | (push_cast; rfl))) (.same rfl .nil)))
    case hl_0 =>
      intro k hI
      refine Tr.seq ?_
      refine Tr.seq ?_
      refine Tr.region ?_
      refine TrL.stepS 12 (.plain rfl (.move rfl (.of rfl))) rfl rfl ?_
      refine TrL.stepS 13 (.plain rfl (.move rfl (.of rfl))) rfl rfl ?_
      refine TrL.stepS 14 (.plain rfl (.len rfl (.of rfl) Try.underlying24)) rfl rfl ?_
      refine TrL.stepS 15 (.plain rfl (.lss rfl (.of rfl) (.of rfl))) rfl rfl ?_
      refine TrL.nil ?_
      refine Fin.keepG (Γ' := [(0, _), (3, _), (4, _), (15, _)]) (.same rfl (.same rfl (.same rfl (.same rfl .nil)))) ?_
      refine Fin.next ?_
      refine Tr.cond rfl (fun hb1 => ?_) (fun hb1 => ?_)
      · try simp only [decide_eq_true_eq, decide_eq_false_iff_not, beq_iff_eq, beq_eq_false_iff_ne, bne_iff_ne, bne_eq_false_iff_eq, Bool.and_eq_true, Bool.and_eq_false_iff, Bool.or_eq_true, Bool.or_eq_false_iff, Bool.not_eq_true', Bool.not_eq_false', gt_iff_lt, ge_iff_le, Int.not_lt, Int.not_le, ne_eq, Int.natCast_nonneg, true_and, and_true, Decidable.not_not, not_true_eq_false, not_false_eq_true] at hb1
        obtain ⟨x, hx⟩ := ex_get (xs := xs) (i := k) (by omega)
        refine Tr.skip ?_
        refine Fin.next ?_
        refine Tr.seq ?_
        refine Tr.block ?_
        refine Tr.region ?_
        refine TrL.stepS 18 (.plain rfl (.move rfl (.of rfl))) rfl rfl ?_
        refine TrL.stepS 19 (.plain rfl (.move rfl (.of rfl))) rfl rfl ?_
        refine TrL.stepS 20 (.plain rfl (.move rfl (.of rfl))) rfl rfl ?_
        refine TrL.stepS 21 (.plain rfl (.indexE rfl (.of rfl) (.of rfl) Try.underlying24 T.sz2 (by omega) hx)) rfl rfl ?_
        refine TrL.stepS 22 (.plain rfl (.load1 rfl (.of rfl) T.sc2)) rfl rfl ?_
        refine TrL.stepS 23 (.plain rfl (.max2 rfl (.of rfl) (.of rfl))) rfl rfl ?_
        refine TrL.stepS 3 (.plain rfl (.assign rfl (.of rfl))) rfl rfl ?_
        refine TrL.nil ?_
        refine Fin.keepG (Γ' := [(0, _), (3, _), (4, _)]) (.same rfl (.same rfl (.same rfl .nil))) ?_
        refine Fin.blockNormal ?_
        refine Fin.next ?_
        refine Tr.region ?_
        refine TrL.stepS 16 (.plain rfl (.move rfl (.of rfl))) rfl rfl ?_
        first | refine TrL.stepS 17 (.plain rfl (.addI L.bd_i64 rfl (.of rfl) (.of rfl) (by omega) (by omega))) rfl rfl ?_ | refine TrL.stepS 17 (.plain rfl (.add rfl (.of rfl) (.of rfl))) rfl rfl ?_
        refine TrL.stepS 4 (.plain rfl (.assign rfl (.of rfl))) rfl rfl ?_
        refine TrL.nil ?_
        refine Fin.keepG (Γ' := [(0, _), (3, _), (4, _)]) (.same rfl (.same rfl (.same rfl .nil))) ?_
        exact Fin.again (k + 1) (⟨by omega, by omega⟩) (by omega) .nil (.eq rfl (by rw [take_snoc hx, mx_snoc (take_ne (by omega) (by omega))]) (.eq rfl (by first | rfl | (congr 1; first | done | omega | (push_cast; omega) | (push_cast; rfl))) (.same rfl .nil)))
      · try simp only [decide_eq_true_eq, decide_eq_false_iff_not, beq_iff_eq, beq_eq_false_iff_ne, bne_iff_ne, bne_eq_false_iff_eq, Bool.and_eq_true, Bool.and_eq_false_iff, Bool.or_eq_true, Bool.or_eq_false_iff, Bool.not_eq_true', Bool.not_eq_false', gt_iff_lt, ge_iff_le, Int.not_lt, Int.not_le, ne_eq, Int.natCast_nonneg, true_and, and_true, Decidable.not_not, not_true_eq_false, not_false_eq_true] at hb1
        refine Tr.exit ?_
        refine Fin.thenExit ?_
        refine Fin.thenExit ?_
        refine Fin.blockOut ?_
        refine Fin.next ?_
        refine Tr.seq ?_
        refine Tr.region ?_
        refine TrL.stepS 24 (.plain rfl (.move rfl (.of rfl))) rfl rfl ?_
        refine TrL.stepS 2 (.plain rfl (.assign rfl (.of rfl))) rfl rfl ?_
        refine TrL.nil ?_
        refine Fin.keepG (Γ' := [(2, _)]) (.same rfl .nil) ?_
        refine Fin.next ?_
        refine Tr.ret ?_
        refine Fin.retI (rs := [_]) (Rs' := [is (.int .i64 (mx xs))]) rfl (.cons (.tmp rfl) .nil) (.cons (L.iv ?_) .nil)
        · rw [List.take_of_length_le (by omega)]

/- tidepool/agg.All -/
set_option maxRecDepth 100000 in
theorem F78 (xs : List Int) (hl : xs.length ≤ 1000) (hx0 : ∀ x ∈ xs, -9223372036854775808 ≤ x ∧ x ≤ 9223372036854775807) : FnP Try.prog 78 [Lst (intR .i64) xs] (Tup [is (.agg #[.int .i64 (aggOf xs).1, .int .i64 (aggOf xs).2.1, .int .i64 (aggOf xs).2.2.1, .int .i64 (aggOf xs).2.2.2]), is (.int .i64 (if xs = [] ∨ fit xs.sum = true then 0 else 30))]) := by
  refine FnP.mk' Try.func78 T.nm78 rfl (N := 27) rfl rfl fun B hB hκ => ?_
  refine Tr.seq ?_
  refine Tr.region ?_
  refine TrL.allocS 20 (zs := [.int .i64 0, .int .i64 0, .int .i64 0, .int .i64 0]) rfl rfl (by kernel_rfl) 2 rfl rfl rfl fun b20 => ?_
  refine TrL.stepS 3 (.plain rfl (.assign rfl (.of rfl))) rfl rfl ?_
  refine TrL.nil ?_
  refine Fin.keepG (Γ' := [(0, _), (2, _)]) (.same rfl (.same rfl .nil)) ?_
  refine Fin.next ?_
  refine Tr.seq ?_
  refine Tr.seq ?_
  refine Tr.region ?_
  refine TrL.stepS 6 (.plain rfl (.move rfl (.of rfl))) rfl rfl ?_
  refine TrL.stepS 7 (.plain rfl (.len rfl (.of rfl) Try.underlying24)) rfl rfl ?_
  refine TrL.stepS 8 (.plain rfl (.eql rfl (.of rfl) (.of rfl))) rfl rfl ?_
  refine TrL.nil ?_
  refine Fin.keepG (Γ' := [(0, _), (2, _), (8, _)]) (.same rfl (.same rfl (.same rfl .nil))) ?_
  refine Fin.next ?_
  refine Tr.cond rfl (fun hb0 => ?_) (fun hb0 => ?_)
  · try simp only [decide_eq_true_eq, decide_eq_false_iff_not, beq_iff_eq, beq_eq_false_iff_ne, bne_iff_ne, bne_eq_false_iff_eq, Bool.and_eq_true, Bool.and_eq_false_iff, Bool.or_eq_true, Bool.or_eq_false_iff, Bool.not_eq_true', Bool.not_eq_false', gt_iff_lt, ge_iff_le, Int.not_lt, Int.not_le, ne_eq, Int.natCast_nonneg, true_and, and_true, Decidable.not_not, not_true_eq_false, not_false_eq_true] at hb0
    have he : xs = [] := List.eq_nil_of_length_eq_zero (by omega)
    refine Tr.seq ?_
    refine Tr.region ?_
    refine TrL.stepS 9 (.plain rfl (.build rfl .nil (T.S3bd122))) rfl rfl ?_
    refine TrL.storeW 20 (vs := [_, _, _, _]) rfl rfl rfl (.of rfl) (.of rfl) rfl rfl T.sz122 rfl rfl ?_
    refine TrL.stepS 3 (.plain rfl (.assign rfl (.of rfl))) rfl rfl ?_
    refine TrL.nil ?_
    refine Fin.keepG (Γ' := [(2, _), (3, _)]) (.same rfl (.same rfl .nil)) ?_
    refine Fin.next ?_
    refine Tr.ret ?_
    refine Fin.thenRet ?_
    refine Fin.retI (rs := [_, _]) (Rs' := [is (.agg #[.int .i64 (aggOf xs).1, .int .i64 (aggOf xs).2.1, .int .i64 (aggOf xs).2.2.1, .int .i64 (aggOf xs).2.2.2]), is (.int .i64 (if xs = [] ∨ fit xs.sum = true then 0 else 30))]) rfl (.cons (.cellB 20 (k := 4) (ds := [_, _, _, _]) rfl rfl rfl rfl T.ag122 rfl) (.cons (.tmp rfl) .nil)) (.cons (L.iv ?_) (.cons (L.iv ?_) .nil))
    · simp [he, aggOf]
    · simp [he]
  · try simp only [decide_eq_true_eq, decide_eq_false_iff_not, beq_iff_eq, beq_eq_false_iff_ne, bne_iff_ne, bne_eq_false_iff_eq, Bool.and_eq_true, Bool.and_eq_false_iff, Bool.or_eq_true, Bool.or_eq_false_iff, Bool.not_eq_true', Bool.not_eq_false', gt_iff_lt, ge_iff_le, Int.not_lt, Int.not_le, ne_eq, Int.natCast_nonneg, true_and, and_true, Decidable.not_not, not_true_eq_false, not_false_eq_true] at hb0
    have hne : xs ≠ [] := by rintro rfl; simp at hb0
    refine Tr.skip ?_
    refine Fin.next ?_
    refine Tr.seq ?_
    refine Tr.region ?_
    refine TrL.stepS 11 (.plain rfl (.move rfl (.of rfl))) rfl rfl ?_
    refine TrL.stepS 12 (.plain rfl (.call rfl (F73 xs hl hx0) (.cons (.of rfl) .nil))) rfl rfl ?_
    refine TrL.stepS 10 (.plain rfl (.move rfl (.of rfl))) rfl rfl ?_
    refine TrL.stepS 13 (.plain rfl (.extract rfl (.of rfl) rfl)) rfl rfl ?_
    refine TrL.stepS 14 (.plain rfl (.extract rfl (.of rfl) rfl)) rfl rfl ?_
    refine TrL.stepS 4 (.plain rfl (.assign rfl (.of rfl))) rfl rfl ?_
    refine TrL.stepS 5 (.plain rfl (.assign rfl (.of rfl))) rfl rfl ?_
    refine TrL.nil ?_
    refine Fin.keepG (Γ' := [(0, _), (2, _), (4, _), (5, _)]) (.same rfl (.same rfl (.same rfl (.same rfl .nil)))) ?_
    refine Fin.next ?_
    refine Tr.seq ?_
    refine Tr.seq ?_
    refine Tr.region ?_
    refine TrL.stepS 15 (.plain rfl (.move rfl (.of rfl))) rfl rfl ?_
    refine TrL.stepS 16 (.plain rfl (.neq rfl (.of rfl) (.of rfl))) rfl rfl ?_
    refine TrL.nil ?_
    refine Fin.keepG (Γ' := [(0, _), (2, _), (4, _), (5, _), (16, _)]) (.same rfl (.same rfl (.same rfl (.same rfl (.same rfl .nil))))) ?_
    refine Fin.next ?_
    refine Tr.cond rfl (fun hb1 => ?_) (fun hb1 => ?_)
    · try simp only [decide_eq_true_eq, decide_eq_false_iff_not, beq_iff_eq, beq_eq_false_iff_ne, bne_iff_ne, bne_eq_false_iff_eq, Bool.and_eq_true, Bool.and_eq_false_iff, Bool.or_eq_true, Bool.or_eq_false_iff, Bool.not_eq_true', Bool.not_eq_false', gt_iff_lt, ge_iff_le, Int.not_lt, Int.not_le, ne_eq, Int.natCast_nonneg, true_and, and_true, Decidable.not_not, not_true_eq_false, not_false_eq_true] at hb1
      have hnf : fit xs.sum = false := by cases h : fit xs.sum with | false => rfl | true => simp [h] at hb1
      refine Tr.seq ?_
      refine Tr.region ?_
      refine TrL.stepS 17 (.plain rfl (.build rfl .nil (T.S3bd122))) rfl rfl ?_
      refine TrL.stepS 18 (.plain rfl (.move rfl (.of rfl))) rfl rfl ?_
      refine TrL.storeW 20 (vs := [_, _, _, _]) rfl rfl rfl (.of rfl) (.of rfl) rfl rfl T.sz122 rfl rfl ?_
      refine TrL.stepS 3 (.plain rfl (.assign rfl (.of rfl))) rfl rfl ?_
      refine TrL.nil ?_
      refine Fin.keepG (Γ' := [(2, _), (3, _)]) (.same rfl (.same rfl .nil)) ?_
      refine Fin.next ?_
      refine Tr.ret ?_
      refine Fin.thenRet ?_
      refine Fin.retI (rs := [_, _]) (Rs' := [is (.agg #[.int .i64 (aggOf xs).1, .int .i64 (aggOf xs).2.1, .int .i64 (aggOf xs).2.2.1, .int .i64 (aggOf xs).2.2.2]), is (.int .i64 (if xs = [] ∨ fit xs.sum = true then 0 else 30))]) rfl (.cons (.cellB 20 (k := 4) (ds := [_, _, _, _]) rfl rfl rfl rfl T.ag122 rfl) (.cons (.tmp rfl) .nil)) (.cons (L.iv ?_) (.cons (L.iv ?_) .nil))
      · simp [aggOf, hnf]
      · simp [hnf, hne]
    · try simp only [decide_eq_true_eq, decide_eq_false_iff_not, beq_iff_eq, beq_eq_false_iff_ne, bne_iff_ne, bne_eq_false_iff_eq, Bool.and_eq_true, Bool.and_eq_false_iff, Bool.or_eq_true, Bool.or_eq_false_iff, Bool.not_eq_true', Bool.not_eq_false', gt_iff_lt, ge_iff_le, Int.not_lt, Int.not_le, ne_eq, Int.natCast_nonneg, true_and, and_true, Decidable.not_not, not_true_eq_false, not_false_eq_true] at hb1
      have hf : fit xs.sum = true := by cases h : fit xs.sum with | true => rfl | false => simp [h] at hb1
      refine Tr.skip ?_
      refine Fin.next ?_
      refine Tr.seq ?_
      refine Tr.region ?_
      refine TrL.stepS 19 (.plain rfl (.move rfl (.of rfl))) rfl rfl ?_
      refine TrL.stepS 20 (.plain rfl (.len rfl (.of rfl) Try.underlying24)) rfl rfl ?_
      refine TrL.stepS 21 (.plain rfl (.move rfl (.of rfl))) rfl rfl ?_
      refine TrL.stepS 22 (.plain rfl (.move rfl (.of rfl))) rfl rfl ?_
      refine TrL.stepS 23 (.plain rfl (.call rfl (F137 xs hl hne) (.cons (.of rfl) .nil))) rfl rfl ?_
      refine TrL.stepS 24 (.plain rfl (.move rfl (.of rfl))) rfl rfl ?_
      refine TrL.stepS 25 (.plain rfl (.call rfl (F138 xs hl hne) (.cons (.of rfl) .nil))) rfl rfl ?_
      refine TrL.stepS 26 (.plain rfl (.build rfl (.cons (.of rfl) (.cons (.of rfl) (.cons (.of rfl) (.cons (.of rfl) .nil)))) (T.S3bd122_0_1_2_3 _ _ _ _))) rfl rfl ?_
      refine TrL.storeW 20 (vs := [_, _, _, _]) rfl rfl rfl (.of rfl) (.of rfl) rfl rfl T.sz122 rfl rfl ?_
      refine TrL.stepS 3 (.plain rfl (.assign rfl (.of rfl))) rfl rfl ?_
      refine TrL.nil ?_
      refine Fin.keepG (Γ' := [(2, _), (3, _)]) (.same rfl (.same rfl .nil)) ?_
      refine Fin.next ?_
      refine Tr.ret ?_
      refine Fin.retI (rs := [_, _]) (Rs' := [is (.agg #[.int .i64 (aggOf xs).1, .int .i64 (aggOf xs).2.1, .int .i64 (aggOf xs).2.2.1, .int .i64 (aggOf xs).2.2.2]), is (.int .i64 (if xs = [] ∨ fit xs.sum = true then 0 else 30))]) rfl (.cons (.cellB 20 (k := 4) (ds := [_, _, _, _]) rfl rfl rfl rfl T.ag122 rfl) (.cons (.tmp rfl) .nil)) (.cons (L.iv ?_) (.cons (L.iv ?_) .nil))
      · simp [aggOf, hf, hne, cl]
      · simp [hf]

/- tidepool/tidepooltop.agg33 -/
set_option maxRecDepth 100000 in
theorem F87 (xs : List Int) (hl : xs.length ≤ 1000) (hx0 : ∀ x ∈ xs, -9223372036854775808 ≤ x ∧ x ≤ 9223372036854775807) : FnP Try.prog 87 [Lst (intR .i64) xs] (Tup [is (.agg #[.int .i64 (aggOf xs).1, .int .i64 (aggOf xs).2.1, .int .i64 (aggOf xs).2.2.1, .int .i64 (aggOf xs).2.2.2]), is (.bool (decide (xs = [] ∨ fit xs.sum = true)))]) := by
  refine FnP.mk' Try.func87 T.nm87 rfl (N := 49) rfl rfl fun B hB hκ => ?_
  refine Tr.seq ?_
  refine Tr.region ?_
  refine TrL.allocS 20 (zs := [.int .i64 0, .int .i64 0, .int .i64 0, .int .i64 0]) rfl rfl (by kernel_rfl) 2 rfl rfl rfl fun b20 => ?_
  refine TrL.stepS 3 (.plain rfl (.assign rfl (.of rfl))) rfl rfl ?_
  refine TrL.nil ?_
  refine Fin.keepG (Γ' := [(0, _), (2, _)]) (.same rfl (.same rfl .nil)) ?_
  refine Fin.next ?_
  refine Tr.seq ?_
  refine Tr.seq ?_
  refine Tr.region ?_
  refine TrL.stepS 9 (.plain rfl (.move rfl (.of rfl))) rfl rfl ?_
  refine TrL.stepS 10 (.plain rfl (.len rfl (.of rfl) Try.underlying24)) rfl rfl ?_
  refine TrL.stepS 11 (.plain rfl (.eql rfl (.of rfl) (.of rfl))) rfl rfl ?_
  refine TrL.nil ?_
  refine Fin.keepG (Γ' := [(0, _), (2, _), (11, _)]) (.same rfl (.same rfl (.same rfl .nil))) ?_
  refine Fin.next ?_
  refine Tr.cond rfl (fun hb0 => ?_) (fun hb0 => ?_)
  · try simp only [decide_eq_true_eq, decide_eq_false_iff_not, beq_iff_eq, beq_eq_false_iff_ne, bne_iff_ne, bne_eq_false_iff_eq, Bool.and_eq_true, Bool.and_eq_false_iff, Bool.or_eq_true, Bool.or_eq_false_iff, Bool.not_eq_true', Bool.not_eq_false', gt_iff_lt, ge_iff_le, Int.not_lt, Int.not_le, ne_eq, Int.natCast_nonneg, true_and, and_true, Decidable.not_not, not_true_eq_false, not_false_eq_true] at hb0
    have he : xs = [] := List.eq_nil_of_length_eq_zero (by omega)
    refine Tr.seq ?_
    refine Tr.region ?_
    refine TrL.stepS 12 (.plain rfl (.build rfl .nil (T.S3bd122))) rfl rfl ?_
    refine TrL.storeW 20 (vs := [_, _, _, _]) rfl rfl rfl (.of rfl) (.of rfl) rfl rfl T.sz122 rfl rfl ?_
    refine TrL.stepS 3 (.plain rfl (.assign rfl (.of rfl))) rfl rfl ?_
    refine TrL.nil ?_
    refine Fin.keepG (Γ' := [(2, _), (3, _)]) (.same rfl (.same rfl .nil)) ?_
    refine Fin.next ?_
    refine Tr.ret ?_
    refine Fin.thenRet ?_
    refine Fin.retI (rs := [_, _]) (Rs' := [is (.agg #[.int .i64 (aggOf xs).1, .int .i64 (aggOf xs).2.1, .int .i64 (aggOf xs).2.2.1, .int .i64 (aggOf xs).2.2.2]), is (.bool (decide (xs = [] ∨ fit xs.sum = true)))]) rfl (.cons (.cellB 20 (k := 4) (ds := [_, _, _, _]) rfl rfl rfl rfl T.ag122 rfl) (.cons (.tmp rfl) .nil)) (.cons (L.iv ?_) (.cons (L.iv ?_) .nil))
    · simp [he, aggOf]
    · simp [he]
  · try simp only [decide_eq_true_eq, decide_eq_false_iff_not, beq_iff_eq, beq_eq_false_iff_ne, bne_iff_ne, bne_eq_false_iff_eq, Bool.and_eq_true, Bool.and_eq_false_iff, Bool.or_eq_true, Bool.or_eq_false_iff, Bool.not_eq_true', Bool.not_eq_false', gt_iff_lt, ge_iff_le, Int.not_lt, Int.not_le, ne_eq, Int.natCast_nonneg, true_and, and_true, Decidable.not_not, not_true_eq_false, not_false_eq_true] at hb0
    have hne : xs ≠ [] := by rintro rfl; simp at hb0
    obtain ⟨z0, hz0⟩ := ex_get (xs := xs) (i := 0) (List.length_pos_iff.2 hne)
    refine Tr.skip ?_
    refine Fin.next ?_
    refine Tr.seq ?_
    refine Tr.region ?_
    refine TrL.stepS 14 (.plain rfl (.move rfl (.of rfl))) rfl rfl ?_
    refine TrL.stepS 15 (.plain rfl (.call rfl (F82 xs hl hx0) (.cons (.of rfl) .nil))) rfl rfl ?_
    refine TrL.stepS 13 (.plain rfl (.move rfl (.of rfl))) rfl rfl ?_
    refine TrL.stepS 16 (.plain rfl (.extract rfl (.of rfl) rfl)) rfl rfl ?_
    refine TrL.stepS 17 (.plain rfl (.extract rfl (.of rfl) rfl)) rfl rfl ?_
    refine TrL.stepS 4 (.plain rfl (.assign rfl (.of rfl))) rfl rfl ?_
    refine TrL.stepS 5 (.plain rfl (.assign rfl (.of rfl))) rfl rfl ?_
    refine TrL.nil ?_
    refine Fin.keepG (Γ' := [(0, _), (2, _), (4, _), (5, _)]) (.same rfl (.same rfl (.same rfl (.same rfl .nil)))) ?_
    refine Fin.next ?_
    refine Tr.seq ?_
    refine Tr.regionW [([], [], []), ([], [], []), ([], [], []), ([], [], []), ([], [], []), ([], [], []), ([], [], []), ([], [], []), ([], [], []), ([], [], []), ([], [21], [6]), ([21], [21], [6])] T.mixed (by kernel_rfl) (by kernel_rfl) (by kernel_rfl) (by kernel_rfl) ?_
    refine AChain.rd 18 rfl (fun σ => .plain rfl (.move rfl (.of rfl))) rfl rfl (fun _ _ => rfl) (L.Dep.const) ?_
    refine AChain.rd 19 rfl (fun σ => .plain rfl (.len rfl (.of rfl) Try.underlying24)) rfl rfl (fun _ _ => rfl) (L.Dep.const) ?_
    refine AChain.rd 20 rfl (fun σ => .plain rfl (.move rfl (.of rfl))) rfl rfl (fun _ _ => rfl) (L.Dep.const) ?_
    refine AChain.rd 21 rfl (fun σ => .plain rfl (.move rfl (.of rfl))) rfl rfl (fun _ _ => rfl) (L.Dep.const) ?_
    refine AChain.rd 22 rfl (fun σ => .plain rfl (.indexE rfl (.of rfl) (.of rfl) Try.underlying24 T.sz2 (by omega) hz0)) rfl rfl (fun _ _ => rfl) (L.Dep.const) ?_
    refine AChain.rd 23 rfl (fun σ => .plain rfl (.load1 rfl (.of rfl) T.sc2)) rfl rfl (fun _ _ => rfl) (L.Dep.const) ?_
    refine AChain.rd 24 rfl (fun σ => .plain rfl (.move rfl (.of rfl))) rfl rfl (fun _ _ => rfl) (L.Dep.const) ?_
    refine AChain.rd 25 rfl (fun σ => .plain rfl (.indexE rfl (.of rfl) (.of rfl) Try.underlying24 T.sz2 (by omega) hz0)) rfl rfl (fun _ _ => rfl) (L.Dep.const) ?_
    refine AChain.rd 26 rfl (fun σ => .plain rfl (.load1 rfl (.of rfl) T.sc2)) rfl rfl (fun _ _ => rfl) (L.Dep.const) ?_
    refine AChain.rd 27 rfl (fun σ => .plain rfl (.build rfl (.cons (.of rfl) (.cons (.of rfl) (.cons (.of rfl) (.cons (.of rfl) .nil)))) (T.S3bd122_0_1_2_3 _ _ _ _))) rfl rfl (fun _ _ => rfl) (L.Dep.const) ?_
    refine AChain.allocD 21 6 (zs := [.int .i64 0, .int .i64 0, .int .i64 0, .int .i64 0]) rfl rfl rfl rfl rfl rfl (by kernel_rfl) (L.depS (by decide)) (L.depP (by decide)) ?_
    refine AChain.storeDA (vs := [_, _, _, _]) 21 6 rfl rfl rfl rfl rfl (fun σ _ => (.of rfl)) (fun σ _ => (.of rfl)) rfl (fun σ => rfl) T.sz122 rfl (L.depP (by decide)) ?_
    refine AChain.nil ?_
    intro s4
    refine Fin.openPB (vs := [_, _, _, _]) 21 6 rfl rfl rfl fun b6 hb6_ => ?_
    refine Fin.keepG (Γ' := [(0, _), (2, _), (5, _), (6, _)]) (.same rfl (.same rfl (.same rfl (.same rfl .nil)))) ?_
    refine Fin.next ?_
    refine Tr.seq ?_
    refine Tr.seq ?_
    refine Tr.region ?_
    refine TrL.stepS 28 (.plain rfl (.move rfl (.of rfl))) rfl rfl ?_
    refine TrL.stepS 29 (.plain rfl (.len rfl (.of rfl) Try.underlying24)) rfl rfl ?_
    refine TrL.stepS 30 (.plain rfl (.move rfl (.of rfl))) rfl rfl ?_
    refine TrL.nil ?_
    refine Fin.keepG (Γ' := [(2, _), (5, _), (6, _), (28, _), (29, _), (30, _)]) (.same rfl (.same rfl (.same rfl (.same rfl (.same rfl (.same rfl .nil)))))) ?_
    refine Fin.next ?_
    refine Tr.block ?_
    refine Tr.loopK (γ := Nat × Int × Int) (Γk := [(2, _), (5, _), (6, _), (28, _), (29, _)]) (Mk := [(20, _)]) (.same rfl (.same rfl (.same rfl (.same rfl (.same rfl .nil))))) (.same rfl .nil) (fun p => p.1 ≤ xs.length ∧ (p.1 = 0 → p.2.1 = z0 ∧ p.2.2 = z0) ∧ (0 < p.1 → p.2.1 = mn (xs.take p.1) ∧ p.2.2 = mx (xs.take p.1))) (fun p => fun r => (21, Blk b6 [.int .i64 xs.length, .int .i64 (cl xs.sum), .int .i64 p.2.1, .int .i64 p.2.2] 122) :: r) (fun p => fun r => (30, is (.int .i64 p.1)) :: r) (fun p => xs.length - p.1) ((0, z0, z0)) ?h0_0 ?hM_0 ?hG_0 ?hl_0
    case h0_0 => exact ⟨Nat.zero_le _, fun _ => ⟨rfl, rfl⟩, fun h => absurd h (by simp)⟩
    case hM_0 => exact (.same rfl (.same rfl .nil))
    case hG_0 => exact (.eq rfl (by first | rfl | (congr 1; first | done | omega | (push_cast; omega) | (push_cast; rfl))) (.same rfl (.same rfl (.same rfl (.same rfl (.same rfl .nil))))))
    case hl_0 =>
      intro p hI
      obtain ⟨k, lo, hi⟩ := p
      dsimp only at hI ⊢
      refine Tr.seq ?_
      refine Tr.region ?_
      refine TrL.stepS 31 (.plain rfl (.lss rfl (.of rfl) (.of rfl))) rfl rfl ?_
      refine TrL.nil ?_
      refine Fin.next ?_
      refine Tr.seq ?_
      refine Tr.cond rfl (fun hb1 => ?_) (fun hb1 => ?_)
      · try simp only [decide_eq_true_eq, decide_eq_false_iff_not, beq_iff_eq, beq_eq_false_iff_ne, bne_iff_ne, bne_eq_false_iff_eq, Bool.and_eq_true, Bool.and_eq_false_iff, Bool.or_eq_true, Bool.or_eq_false_iff, Bool.not_eq_true', Bool.not_eq_false', gt_iff_lt, ge_iff_le, Int.not_lt, Int.not_le, ne_eq, Int.natCast_nonneg, true_and, and_true, Decidable.not_not, not_true_eq_false, not_false_eq_true] at hb1
        obtain ⟨x, hx⟩ := ex_get (xs := xs) (i := k) (by omega)
        refine Tr.skip ?_
        refine Fin.next ?_
        refine Tr.seq ?_
        refine Tr.block ?_
        refine Tr.seq ?_
        refine Tr.region ?_
        refine TrL.stepS 32 (.plain rfl (.indexE rfl (.of rfl) (.of rfl) Try.underlying24 T.sz2 (by omega) hx)) rfl rfl ?_
        refine TrL.stepS 33 (.plain rfl (.load1 rfl (.of rfl) T.sc2)) rfl rfl ?_
        refine TrL.stepS 8 (.plain rfl (.assign rfl (.of rfl))) rfl rfl ?_
        refine TrL.nil ?_
        refine Fin.keepG (Γ' := [(2, _), (5, _), (6, _), (8, _), (28, _), (29, _), (30, _)]) (.same rfl (.same rfl (.same rfl (.same rfl (.same rfl (.same rfl (.same rfl .nil))))))) ?_
        refine Fin.next ?_
        refine Tr.region ?_
        refine TrL.stepS 34 (.plain rfl (.fieldP rfl (.of rfl) T.fl122_2)) rfl rfl ?_
        refine TrL.stepS 35 (.plain rfl (.loadB 21 rfl (.of rfl) rfl rfl rfl T.sc2)) rfl rfl ?_
        refine TrL.stepS 36 (.plain rfl (.move rfl (.of rfl))) rfl rfl ?_
        refine TrL.stepS 37 (.plain rfl (.min2 rfl (.of rfl) (.of rfl))) rfl rfl ?_
        refine TrL.stepS 38 (.plain rfl (.fieldP rfl (.of rfl) T.fl122_3)) rfl rfl ?_
        refine TrL.stepS 39 (.plain rfl (.loadB 21 rfl (.of rfl) rfl rfl rfl T.sc2)) rfl rfl ?_
        refine TrL.stepS 40 (.plain rfl (.move rfl (.of rfl))) rfl rfl ?_
        refine TrL.stepS 41 (.plain rfl (.max2 rfl (.of rfl) (.of rfl))) rfl rfl ?_
        refine TrL.stepS 42 (.plain rfl (.fieldP rfl (.of rfl) T.fl122_2)) rfl rfl ?_
        refine TrL.store1 21 rfl rfl rfl (.of rfl) (.of rfl) rfl rfl rfl T.sz2 rfl rfl ?_
        refine TrL.stepS 43 (.plain rfl (.fieldP rfl (.of rfl) T.fl122_3)) rfl rfl ?_
        refine TrL.store1 21 rfl rfl rfl (.of rfl) (.of rfl) rfl rfl rfl T.sz2 rfl rfl ?_
        refine TrL.nil ?_
        refine Fin.keepG (Γ' := [(2, _), (5, _), (6, _), (28, _), (29, _), (30, _)]) (.same rfl (.same rfl (.same rfl (.same rfl (.same rfl (.same rfl .nil)))))) ?_
        refine Fin.blockNormal ?_
        refine Fin.next ?_
        refine Tr.region ?_
        first | refine TrL.stepS 44 (.plain rfl (.addI L.bd_i64 rfl (.of rfl) (.of rfl) (by omega) (by omega))) rfl rfl ?_ | refine TrL.stepS 44 (.plain rfl (.add rfl (.of rfl) (.of rfl))) rfl rfl ?_
        refine TrL.stepS 30 (.plain rfl (.move rfl (.of rfl))) rfl rfl ?_
        refine TrL.nil ?_
        refine Fin.keepG (Γ' := [(2, _), (5, _), (6, _), (28, _), (29, _), (30, _)]) (.same rfl (.same rfl (.same rfl (.same rfl (.same rfl (.same rfl .nil)))))) ?_
        exact Fin.again ((k + 1, min lo x, max hi x)) (⟨by dsimp only; omega, fun h => absurd h (by simp), fun _ => mm_step hx hz0 hI.2.1 hI.2.2⟩) (by dsimp only; omega) (.same rfl (.same rfl .nil)) (.eq rfl (by first | rfl | (congr 1; first | done | omega | (push_cast; omega) | (push_cast; rfl))) (.same rfl (.same rfl (.same rfl (.same rfl (.same rfl .nil))))))
      · try simp only [decide_eq_true_eq, decide_eq_false_iff_not, beq_iff_eq, beq_eq_false_iff_ne, bne_iff_ne, bne_eq_false_iff_eq, Bool.and_eq_true, Bool.and_eq_false_iff, Bool.or_eq_true, Bool.or_eq_false_iff, Bool.not_eq_true', Bool.not_eq_false', gt_iff_lt, ge_iff_le, Int.not_lt, Int.not_le, ne_eq, Int.natCast_nonneg, true_and, and_true, Decidable.not_not, not_true_eq_false, not_false_eq_true] at hb1
        obtain ⟨rfl, rfl⟩ := hI.2.2 (by omega)
        rw [List.take_of_length_le (by omega)]
        refine Tr.exit ?_
        refine Fin.thenExit ?_
        refine Fin.thenExit ?_
        refine Fin.blockOut ?_
        refine Fin.next ?_
        refine Tr.seq ?_
        refine Tr.seq ?_
        refine Tr.region ?_
        refine TrL.stepS 45 (.plain rfl (.move rfl (.of rfl))) rfl rfl ?_
        refine TrL.stepS 46 (.plain rfl (.not rfl (.of rfl))) rfl rfl ?_
        refine TrL.nil ?_
        refine Fin.keepG (Γ' := [(2, _), (6, _), (46, _)]) (.same rfl (.same rfl (.same rfl .nil))) ?_
        refine Fin.next ?_
        refine Tr.cond rfl (fun hb2 => ?_) (fun hb2 => ?_)
        · try simp only [decide_eq_true_eq, decide_eq_false_iff_not, beq_iff_eq, beq_eq_false_iff_ne, bne_iff_ne, bne_eq_false_iff_eq, Bool.and_eq_true, Bool.and_eq_false_iff, Bool.or_eq_true, Bool.or_eq_false_iff, Bool.not_eq_true', Bool.not_eq_false', gt_iff_lt, ge_iff_le, Int.not_lt, Int.not_le, ne_eq, Int.natCast_nonneg, true_and, and_true, Decidable.not_not, not_true_eq_false, not_false_eq_true] at hb2
          have hnf : fit xs.sum = false := by simpa using hb2
          refine Tr.seq ?_
          refine Tr.region ?_
          refine TrL.stepS 47 (.plain rfl (.build rfl .nil (T.S3bd122))) rfl rfl ?_
          refine TrL.storeW 20 (vs := [_, _, _, _]) rfl rfl rfl (.of rfl) (.of rfl) rfl rfl T.sz122 rfl rfl ?_
          refine TrL.stepS 3 (.plain rfl (.assign rfl (.of rfl))) rfl rfl ?_
          refine TrL.nil ?_
          refine Fin.keepG (Γ' := [(2, _), (3, _)]) (.same rfl (.same rfl .nil)) ?_
          refine Fin.next ?_
          refine Tr.ret ?_
          refine Fin.thenRet ?_
          refine Fin.retI (rs := [_, _]) (Rs' := [is (.agg #[.int .i64 (aggOf xs).1, .int .i64 (aggOf xs).2.1, .int .i64 (aggOf xs).2.2.1, .int .i64 (aggOf xs).2.2.2]), is (.bool (decide (xs = [] ∨ fit xs.sum = true)))]) rfl (.cons (.cellB 20 (k := 4) (ds := [_, _, _, _]) rfl rfl rfl rfl T.ag122 rfl) (.cons (.tmp rfl) .nil)) (.cons (L.iv ?_) (.cons (L.iv ?_) .nil))
          · simp [aggOf, hnf]
          · simp [hnf, hne]
        · try simp only [decide_eq_true_eq, decide_eq_false_iff_not, beq_iff_eq, beq_eq_false_iff_ne, bne_iff_ne, bne_eq_false_iff_eq, Bool.and_eq_true, Bool.and_eq_false_iff, Bool.or_eq_true, Bool.or_eq_false_iff, Bool.not_eq_true', Bool.not_eq_false', gt_iff_lt, ge_iff_le, Int.not_lt, Int.not_le, ne_eq, Int.natCast_nonneg, true_and, and_true, Decidable.not_not, not_true_eq_false, not_false_eq_true] at hb2
          have hf : fit xs.sum = true := by simpa using hb2
          refine Tr.skip ?_
          refine Fin.next ?_
          refine Tr.seq ?_
          refine Tr.region ?_
          refine TrL.stepS 48 (.plain rfl (.loadBN 21 (k := 4) (ds := [_, _, _, _]) rfl (.of rfl) rfl rfl rfl T.ag122 rfl)) rfl rfl ?_
          refine TrL.storeW 20 (vs := [_, _, _, _]) rfl rfl rfl (.of rfl) (.of rfl) rfl rfl T.sz122 rfl rfl ?_
          refine TrL.stepS 3 (.plain rfl (.assign rfl (.of rfl))) rfl rfl ?_
          refine TrL.nil ?_
          refine Fin.keepG (Γ' := [(2, _), (3, _)]) (.same rfl (.same rfl .nil)) ?_
          refine Fin.next ?_
          refine Tr.ret ?_
          refine Fin.retI (rs := [_, _]) (Rs' := [is (.agg #[.int .i64 (aggOf xs).1, .int .i64 (aggOf xs).2.1, .int .i64 (aggOf xs).2.2.1, .int .i64 (aggOf xs).2.2.2]), is (.bool (decide (xs = [] ∨ fit xs.sum = true)))]) rfl (.cons (.cellB 20 (k := 4) (ds := [_, _, _, _]) rfl rfl rfl rfl T.ag122 rfl) (.cons (.tmp rfl) .nil)) (.cons (L.iv ?_) (.cons (L.iv ?_) .nil))
          · simp [aggOf, hf, hne, cl]
          · simp [hf]

end Go.Proofs.Ytemkogoclljhpaa