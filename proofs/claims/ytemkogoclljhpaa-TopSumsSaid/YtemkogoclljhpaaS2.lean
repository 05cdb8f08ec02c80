import Derived.Test.YtemkogoclljhpaaS1
namespace Go.Proofs.Ytemkogoclljhpaa
open Go Go.Proofs.Ytemkogoclljhpaa.L
set_option linter.unusedVariables false
set_option linter.unusedSimpArgs false

namespace T

end T


theorem tmod_neg (n d : Int) (hd : 0 < d) (h : n.tmod d < 0) : n.tmod d + d = n % d := by
  have := Int.tmod_eq_emod (a := n) (b := d)
  have h1 := Int.emod_nonneg n (show d ≠ 0 by omega)
  split at this <;> omega
theorem tmod_pos (n d : Int) (hd : 0 < d) (h : 0 ≤ n.tmod d) : n.tmod d = n % d := by
  have := Int.tmod_eq_emod (a := n) (b := d)
  have h1 := Int.emod_nonneg n (show d ≠ 0 by omega)
  have h2 := Int.emod_lt_of_pos n hd
  split at this <;> omega
theorem tmod_bd (n d : Int) (hd : 0 < d) : -d < n.tmod d ∧ n.tmod d < d := by
  have := Int.tmod_eq_emod (a := n) (b := d)
  have h1 := Int.emod_nonneg n (show d ≠ 0 by omega)
  have h2 := Int.emod_lt_of_pos n hd
  split at this
  · omega
  · rename_i hx
    by_cases h0 : n % d = 0
    · exact absurd (Or.inr (Int.dvd_of_emod_eq_zero h0)) hx
    · have : ((d.natAbs : Int)) = d := by omega
      omega
theorem tdiv_floor (n d : Int) (hd : 0 < d) : n / d = if n % d ≠ 0 ∧ n < 0 then n.tdiv d - 1 else n.tdiv d := by
  have h := Int.tdiv_eq_ediv (a := n) (b := d)
  have hs : d.sign = 1 := Int.sign_eq_one_of_pos hd
  rw [hs] at h
  have hdv : d ∣ n ↔ n % d = 0 := ⟨Int.emod_eq_zero_of_dvd, Int.dvd_of_emod_eq_zero⟩
  by_cases hc : 0 ≤ n ∨ d ∣ n
  · rw [if_pos hc] at h
    rw [hdv] at hc
    rw [if_neg (by omega)]; omega
  · rw [if_neg hc] at h
    rw [hdv] at hc
    rw [if_pos (by omega)]; omega
theorem tdiv_bd (n d : Int) (hd : 0 < d) (hn : -9223372036854775808 ≤ n ∧ n ≤ 9223372036854775807) : -9223372036854775808 ≤ n.tdiv d ∧ n.tdiv d ≤ 9223372036854775807 := tdiv_in hd (by omega) (by omega) hn.1 hn.2
theorem floor_bd (n d : Int) (hd : 0 < d) (hn : -9223372036854775808 ≤ n ∧ n ≤ 9223372036854775807) : -9223372036854775808 ≤ n / d ∧ n / d ≤ 9223372036854775807 := by
  have h1 : -9223372036854775808 ≤ n / d := by
    rw [Int.le_ediv_iff_mul_le hd]
    rcases Int.le_total 0 n with h | h
    · have : -9223372036854775808 * d ≤ 0 := Int.mul_nonpos_of_nonpos_of_nonneg (by omega) (by omega); omega
    · have : -9223372036854775808 * d ≤ -9223372036854775808 * 1 := Int.mul_le_mul_of_nonpos_left (by omega) (by omega)
      omega
  have h2 : n / d ≤ 9223372036854775807 := by
    rcases Int.le_total 0 n with h | h
    · exact Int.le_trans (Int.ediv_le_self d h) hn.2
    · have h3 : n / d ≤ 0 := by
        have := Int.ediv_le_ediv hd h
        simpa using this
      omega
  exact ⟨h1, h2⟩
theorem and32 {x : Int} (h : 0 ≤ x ∧ x < 18446744073709551616) : bits .and .u64 x 4294967295 = x % 4294967296 := by
  obtain ⟨n, rfl⟩ := Int.eq_ofNat_of_zero_le h.1
  have e : (BitVec.ofInt IntKind.u64.bits (n : Int) &&& BitVec.ofInt IntKind.u64.bits 4294967295).toNat = n % 4294967296 := by
    show (BitVec.ofInt 64 (n : Int) &&& BitVec.ofInt 64 4294967295).toNat = n % 4294967296
    rw [BitVec.toNat_and]
    have h1 : (BitVec.ofInt 64 (n : Int)).toNat = n := by simp [BitVec.toNat_ofInt]; omega
    have h2 : (BitVec.ofInt 64 4294967295).toNat = 2 ^ 32 - 1 := by decide
    rw [h1, h2, Nat.and_two_pow_sub_one_eq_mod]
  unfold bits
  simp only
  rw [e, wrap_u64]
  omega
theorem shr32 {x : Int} (h : 0 ≤ x) : x.fdiv (2 ^ (min (32 : Int).toNat IntKind.u64.bits)) = x / 4294967296 := by
  rw [Int.fdiv_eq_ediv_of_nonneg _ (by decide)]; rfl
theorem mul_bd {a b : Int} (ha : 0 ≤ a ∧ a < 4294967296) (hb : 0 ≤ b ∧ b < 4294967296) : 0 ≤ a * b ∧ a * b ≤ 18446744065119617025 :=
  ⟨Int.mul_nonneg ha.1 hb.1, by have := Int.mul_le_mul (show a ≤ 4294967295 by omega) (show b ≤ 4294967295 by omega) hb.1 (by omega); omega⟩
theorem mul_parts (x y : Int) : x * y = (x / 4294967296) * (y / 4294967296) * 18446744073709551616 + ((x / 4294967296) * (y % 4294967296) + (x % 4294967296) * (y / 4294967296)) * 4294967296 + (x % 4294967296) * (y % 4294967296) := by
  have hx := Int.mul_ediv_add_emod x 4294967296
  have hy := Int.mul_ediv_add_emod y 4294967296
  generalize x / 4294967296 = p at *
  generalize x % 4294967296 = q at *
  generalize y / 4294967296 = r at *
  generalize y % 4294967296 = s at *
  subst hx; subst hy
  simp only [Int.add_mul, Int.mul_add]
  have e1 : 4294967296 * p * (4294967296 * r) = p * r * 18446744073709551616 := by rw [Int.mul_comm 4294967296 p, Int.mul_assoc, ← Int.mul_assoc 4294967296 4294967296 r, Int.mul_comm _ r, ← Int.mul_assoc]; rfl
  have e2 : 4294967296 * p * s = p * s * 4294967296 := by rw [Int.mul_assoc, Int.mul_comm]
  have e3 : q * (4294967296 * r) = q * r * 4294967296 := by rw [Int.mul_left_comm, Int.mul_comm]
  omega
/-- when a product is too great -/
theorem quo_lt {a b M : Int} (hb : 0 < b) (hM : 0 ≤ M) : M.tdiv b < a ↔ M < a * b := by
  rw [Int.tdiv_eq_ediv_of_nonneg hM, Int.ediv_lt_iff_lt_mul hb]
theorem quo_neg {a b N : Int} (hb : 0 < b) (hN : 0 ≤ N) : a < (-N).tdiv b ↔ a * b < -N := by
  rw [Int.neg_tdiv]
  have := quo_lt (a := -a) hb hN
  have e : -a * b = -(a * b) := Int.neg_mul a b
  rw [e] at this
  omega
theorem sign_mul {a b : Int} : (0 < a ∧ 0 < b → 0 < a * b) ∧ (a < 0 ∧ b < 0 → 0 < a * b) ∧ (0 < a ∧ b < 0 → a * b < 0) ∧ (a < 0 ∧ 0 < b → a * b < 0) :=
  ⟨fun h => Int.mul_pos h.1 h.2, fun h => Int.mul_pos_of_neg_of_neg h.1 h.2, fun h => Int.mul_neg_of_pos_of_neg h.1 h.2, fun h => Int.mul_neg_of_neg_of_pos h.1 h.2⟩

/- tidepool/num.FloorMod -/
set_option maxRecDepth 100000 in
theorem F75 (n d : Int) (hd : d ≤ 9223372036854775807) : FnP Try.prog 75 [is (.int .i64 n), is (.int .i64 d)] (Tup [is (.int .i64 (if d ≤ 0 then 0 else n % d)), is (.int .i64 (if d ≤ 0 then 2 else 0))]) := by
  refine FnP.mk' Try.func75 T.nm75 rfl (N := 18) rfl rfl fun B hB hκ => ?_
  refine Tr.seq ?_
  refine Tr.region ?_
  refine TrL.stepS 4 (.plain rfl (.assign rfl (.of rfl))) rfl rfl ?_
  refine TrL.stepS 5 (.plain rfl (.assign rfl (.of rfl))) rfl rfl ?_
  refine TrL.nil ?_
  refine Fin.keepG (Γ' := [(0, _), (1, _)]) (.same rfl (.same rfl .nil)) ?_
  refine Fin.next ?_
  refine Tr.seq ?_
  refine Tr.seq ?_
  refine Tr.region ?_
  refine TrL.stepS 7 (.plain rfl (.move rfl (.of rfl))) rfl rfl ?_
  refine TrL.stepS 8 (.plain rfl (.leq rfl (.of rfl) (.of rfl))) rfl rfl ?_
  refine TrL.nil ?_
  refine Fin.keepG (Γ' := [(0, _), (1, _), (8, _)]) (.same rfl (.same rfl (.same rfl .nil))) ?_
  refine Fin.next ?_
  refine Tr.cond rfl (fun hb0 => ?_) (fun hb0 => ?_)
  · try simp only [decide_eq_true_eq, decide_eq_false_iff_not, beq_iff_eq, beq_eq_false_iff_ne, bne_iff_ne, bne_eq_false_iff_eq, Bool.and_eq_true, Bool.and_eq_false_iff, Bool.or_eq_true, Bool.or_eq_false_iff, Bool.not_eq_true', Bool.not_eq_false', gt_iff_lt, ge_iff_le, Int.not_lt, Int.not_le, ne_eq, Int.natCast_nonneg, true_and, and_true, Decidable.not_not, not_true_eq_false, not_false_eq_true] at hb0
    refine Tr.seq ?_
    refine Tr.region ?_
    refine TrL.stepS 4 (.plain rfl (.assign rfl (.of rfl))) rfl rfl ?_
    refine TrL.stepS 5 (.plain rfl (.assign rfl (.of rfl))) rfl rfl ?_
    refine TrL.nil ?_
    refine Fin.keepG (Γ' := [(4, _), (5, _)]) (.same rfl (.same rfl .nil)) ?_
    refine Fin.next ?_
    refine Tr.ret ?_
    refine Fin.thenRet ?_
    refine Fin.retI (rs := [_, _]) (Rs' := [is (.int .i64 (if d ≤ 0 then 0 else n % d)), is (.int .i64 (if d ≤ 0 then 2 else 0))]) rfl (.cons (.tmp rfl) (.cons (.tmp rfl) .nil)) (.cons (L.iv ?_) (.cons (L.iv ?_) .nil))
    · rw [if_pos hb0]
    · rw [if_pos hb0]
  · try simp only [decide_eq_true_eq, decide_eq_false_iff_not, beq_iff_eq, beq_eq_false_iff_ne, bne_iff_ne, bne_eq_false_iff_eq, Bool.and_eq_true, Bool.and_eq_false_iff, Bool.or_eq_true, Bool.or_eq_false_iff, Bool.not_eq_true', Bool.not_eq_false', gt_iff_lt, ge_iff_le, Int.not_lt, Int.not_le, ne_eq, Int.natCast_nonneg, true_and, and_true, Decidable.not_not, not_true_eq_false, not_false_eq_true] at hb0
    refine Tr.skip ?_
    refine Fin.next ?_
    refine Tr.seq ?_
    refine Tr.region ?_
    refine TrL.stepS 9 (.plain rfl (.move rfl (.of rfl))) rfl rfl ?_
    refine TrL.stepS 10 (.plain rfl (.move rfl (.of rfl))) rfl rfl ?_
    refine TrL.stepS 11 (.plain rfl (.rem rfl (.of rfl) (.of rfl) (by omega))) rfl rfl ?_
    refine TrL.stepS 6 (.plain rfl (.assign rfl (.of rfl))) rfl rfl ?_
    refine TrL.nil ?_
    refine Fin.keepG (Γ' := [(1, _), (6, _)]) (.same rfl (.same rfl .nil)) ?_
    refine Fin.next ?_
    refine Tr.seq ?_
    refine Tr.seq ?_
    refine Tr.region ?_
    refine TrL.stepS 12 (.plain rfl (.move rfl (.of rfl))) rfl rfl ?_
    refine TrL.stepS 13 (.plain rfl (.lss rfl (.of rfl) (.of rfl))) rfl rfl ?_
    refine TrL.nil ?_
    refine Fin.keepG (Γ' := [(1, _), (6, _), (13, _)]) (.same rfl (.same rfl (.same rfl .nil))) ?_
    refine Fin.next ?_
    refine Tr.cond rfl (fun hb1 => ?_) (fun hb1 => ?_)
    · try simp only [decide_eq_true_eq, decide_eq_false_iff_not, beq_iff_eq, beq_eq_false_iff_ne, bne_iff_ne, bne_eq_false_iff_eq, Bool.and_eq_true, Bool.and_eq_false_iff, Bool.or_eq_true, Bool.or_eq_false_iff, Bool.not_eq_true', Bool.not_eq_false', gt_iff_lt, ge_iff_le, Int.not_lt, Int.not_le, ne_eq, Int.natCast_nonneg, true_and, and_true, Decidable.not_not, not_true_eq_false, not_false_eq_true] at hb1
      have hbd := tmod_bd n d (by omega)
      refine Tr.region ?_
      refine TrL.stepS 14 (.plain rfl (.move rfl (.of rfl))) rfl rfl ?_
      refine TrL.stepS 15 (.plain rfl (.move rfl (.of rfl))) rfl rfl ?_
      first | refine TrL.stepS 16 (.plain rfl (.addI L.bd_i64 rfl (.of rfl) (.of rfl) (by omega) (by omega))) rfl rfl ?_ | refine TrL.stepS 16 (.plain rfl (.add rfl (.of rfl) (.of rfl))) rfl rfl ?_
      refine TrL.stepS 6 (.plain rfl (.assign rfl (.of rfl))) rfl rfl ?_
      refine TrL.nil ?_
      refine Fin.keepG (Γ' := [(6, _)]) (.same rfl .nil) ?_
      refine Fin.next ?_
      refine Tr.seq ?_
      refine Tr.region ?_
      refine TrL.stepS 17 (.plain rfl (.move rfl (.of rfl))) rfl rfl ?_
      refine TrL.stepS 4 (.plain rfl (.assign rfl (.of rfl))) rfl rfl ?_
      refine TrL.stepS 5 (.plain rfl (.assign rfl (.of rfl))) rfl rfl ?_
      refine TrL.nil ?_
      refine Fin.keepG (Γ' := [(4, _), (5, _)]) (.same rfl (.same rfl .nil)) ?_
      refine Fin.next ?_
      refine Tr.ret ?_
      refine Fin.retI (rs := [_, _]) (Rs' := [is (.int .i64 (if d ≤ 0 then 0 else n % d)), is (.int .i64 (if d ≤ 0 then 2 else 0))]) rfl (.cons (.tmp rfl) (.cons (.tmp rfl) .nil)) (.cons (L.iv ?_) (.cons (L.iv ?_) .nil))
      · rw [if_neg (by omega), tmod_neg n d (by omega) hb1]
      · rw [if_neg (by omega)]
    · try simp only [decide_eq_true_eq, decide_eq_false_iff_not, beq_iff_eq, beq_eq_false_iff_ne, bne_iff_ne, bne_eq_false_iff_eq, Bool.and_eq_true, Bool.and_eq_false_iff, Bool.or_eq_true, Bool.or_eq_false_iff, Bool.not_eq_true', Bool.not_eq_false', gt_iff_lt, ge_iff_le, Int.not_lt, Int.not_le, ne_eq, Int.natCast_nonneg, true_and, and_true, Decidable.not_not, not_true_eq_false, not_false_eq_true] at hb1
      refine Tr.skip ?_
      refine Fin.next ?_
      refine Tr.seq ?_
      refine Tr.region ?_
      refine TrL.stepS 17 (.plain rfl (.move rfl (.of rfl))) rfl rfl ?_
      refine TrL.stepS 4 (.plain rfl (.assign rfl (.of rfl))) rfl rfl ?_
      refine TrL.stepS 5 (.plain rfl (.assign rfl (.of rfl))) rfl rfl ?_
      refine TrL.nil ?_
      refine Fin.keepG (Γ' := [(4, _), (5, _)]) (.same rfl (.same rfl .nil)) ?_
      refine Fin.next ?_
      refine Tr.ret ?_
      refine Fin.retI (rs := [_, _]) (Rs' := [is (.int .i64 (if d ≤ 0 then 0 else n % d)), is (.int .i64 (if d ≤ 0 then 2 else 0))]) rfl (.cons (.tmp rfl) (.cons (.tmp rfl) .nil)) (.cons (L.iv ?_) (.cons (L.iv ?_) .nil))
      · rw [if_neg (by omega), tmod_pos n d (by omega) (by omega)]
      · rw [if_neg (by omega)]

/- tidepool/num.Down -/
set_option maxRecDepth 100000 in
theorem F76 (n d : Int) (hn : -9223372036854775808 ≤ n ∧ n ≤ 9223372036854775807) (hd : d ≤ 9223372036854775807) : FnP Try.prog 76 [is (.int .i64 n), is (.int .i64 d)] (Tup [is (.int .i64 (if d ≤ 0 then 0 else cl (n - n % d))), is (.int .i64 (if d ≤ 0 then 2 else if fit (n - n % d) then 0 else 30))]) := by
  refine FnP.mk' Try.func76 T.nm76 rfl (N := 28) rfl rfl fun B hB hκ => ?_
  refine Tr.seq ?_
  refine Tr.region ?_
  refine TrL.stepS 4 (.plain rfl (.assign rfl (.of rfl))) rfl rfl ?_
  refine TrL.stepS 5 (.plain rfl (.assign rfl (.of rfl))) rfl rfl ?_
  refine TrL.nil ?_
  refine Fin.keepG (Γ' := [(0, _), (1, _)]) (.same rfl (.same rfl .nil)) ?_
  refine Fin.next ?_
  refine Tr.seq ?_
  refine Tr.region ?_
  refine TrL.stepS 11 (.plain rfl (.move rfl (.of rfl))) rfl rfl ?_
  refine TrL.stepS 12 (.plain rfl (.move rfl (.of rfl))) rfl rfl ?_
  refine TrL.stepS 13 (.plain rfl (.call rfl (F75 n d hd) (.cons (.of rfl) (.cons (.of rfl) .nil)))) rfl rfl ?_
  refine TrL.stepS 10 (.plain rfl (.move rfl (.of rfl))) rfl rfl ?_
  refine TrL.stepS 14 (.plain rfl (.extract rfl (.of rfl) rfl)) rfl rfl ?_
  refine TrL.stepS 15 (.plain rfl (.extract rfl (.of rfl) rfl)) rfl rfl ?_
  refine TrL.stepS 6 (.plain rfl (.assign rfl (.of rfl))) rfl rfl ?_
  refine TrL.stepS 7 (.plain rfl (.assign rfl (.of rfl))) rfl rfl ?_
  refine TrL.nil ?_
  refine Fin.keepG (Γ' := [(0, _), (6, _), (7, _)]) (.same rfl (.same rfl (.same rfl .nil))) ?_
  refine Fin.next ?_
  refine Tr.seq ?_
  refine Tr.seq ?_
  refine Tr.region ?_
  refine TrL.stepS 16 (.plain rfl (.move rfl (.of rfl))) rfl rfl ?_
  refine TrL.stepS 17 (.plain rfl (.neq rfl (.of rfl) (.of rfl))) rfl rfl ?_
  refine TrL.nil ?_
  refine Fin.keepG (Γ' := [(0, _), (6, _), (7, _), (17, _)]) (.same rfl (.same rfl (.same rfl (.same rfl .nil)))) ?_
  refine Fin.next ?_
  refine Tr.cond rfl (fun hb0 => ?_) (fun hb0 => ?_)
  · try simp only [decide_eq_true_eq, decide_eq_false_iff_not, beq_iff_eq, beq_eq_false_iff_ne, bne_iff_ne, bne_eq_false_iff_eq, Bool.and_eq_true, Bool.and_eq_false_iff, Bool.or_eq_true, Bool.or_eq_false_iff, Bool.not_eq_true', Bool.not_eq_false', gt_iff_lt, ge_iff_le, Int.not_lt, Int.not_le, ne_eq, Int.natCast_nonneg, true_and, and_true, Decidable.not_not, not_true_eq_false, not_false_eq_true] at hb0
    have hd0 : d ≤ 0 := Classical.byContradiction fun h => by simp [h] at hb0
    refine Tr.seq ?_
    refine Tr.region ?_
    refine TrL.stepS 18 (.plain rfl (.move rfl (.of rfl))) rfl rfl ?_
    refine TrL.stepS 4 (.plain rfl (.assign rfl (.of rfl))) rfl rfl ?_
    refine TrL.stepS 5 (.plain rfl (.assign rfl (.of rfl))) rfl rfl ?_
    refine TrL.nil ?_
    refine Fin.keepG (Γ' := [(4, _), (5, _)]) (.same rfl (.same rfl .nil)) ?_
    refine Fin.next ?_
    refine Tr.ret ?_
    refine Fin.thenRet ?_
    refine Fin.retI (rs := [_, _]) (Rs' := [is (.int .i64 (if d ≤ 0 then 0 else cl (n - n % d))), is (.int .i64 (if d ≤ 0 then 2 else if fit (n - n % d) then 0 else 30))]) rfl (.cons (.tmp rfl) (.cons (.tmp rfl) .nil)) (.cons (L.iv ?_) (.cons (L.iv ?_) .nil))
    · simp [hd0]
    · simp [hd0]
  · try simp only [decide_eq_true_eq, decide_eq_false_iff_not, beq_iff_eq, beq_eq_false_iff_ne, bne_iff_ne, bne_eq_false_iff_eq, Bool.and_eq_true, Bool.and_eq_false_iff, Bool.or_eq_true, Bool.or_eq_false_iff, Bool.not_eq_true', Bool.not_eq_false', gt_iff_lt, ge_iff_le, Int.not_lt, Int.not_le, ne_eq, Int.natCast_nonneg, true_and, and_true, Decidable.not_not, not_true_eq_false, not_false_eq_true] at hb0
    have hd0 : ¬ d ≤ 0 := fun h => by simp [h] at hb0
    have h1 := Int.emod_nonneg n (show d ≠ 0 by omega)
    refine Tr.skip ?_
    refine Fin.next ?_
    refine Tr.seq ?_
    refine Tr.region ?_
    refine TrL.stepS 20 (.plain rfl (.move rfl (.of rfl))) rfl rfl ?_
    refine TrL.stepS 21 (.plain rfl (.move rfl (.of rfl))) rfl rfl ?_
    refine TrL.stepS 22 (.plain rfl (.call rfl (F71 n (if d ≤ 0 then 0 else n % d) hn (by split; omega; have h1 := Int.emod_nonneg n (show d ≠ 0 by omega); have h2 := Int.emod_lt_of_pos n (show 0 < d by omega); omega)) (.cons (.of rfl) (.cons (.of rfl) .nil)))) rfl rfl ?_
    refine TrL.stepS 19 (.plain rfl (.move rfl (.of rfl))) rfl rfl ?_
    refine TrL.stepS 23 (.plain rfl (.extract rfl (.of rfl) rfl)) rfl rfl ?_
    refine TrL.stepS 24 (.plain rfl (.extract rfl (.of rfl) rfl)) rfl rfl ?_
    refine TrL.stepS 8 (.plain rfl (.assign rfl (.of rfl))) rfl rfl ?_
    refine TrL.stepS 9 (.plain rfl (.assign rfl (.of rfl))) rfl rfl ?_
    refine TrL.nil ?_
    refine Fin.keepG (Γ' := [(8, _), (9, _)]) (.same rfl (.same rfl .nil)) ?_
    refine Fin.next ?_
    refine Tr.seq ?_
    refine Tr.seq ?_
    refine Tr.region ?_
    refine TrL.stepS 25 (.plain rfl (.move rfl (.of rfl))) rfl rfl ?_
    refine TrL.stepS 26 (.plain rfl (.not rfl (.of rfl))) rfl rfl ?_
    refine TrL.nil ?_
    refine Fin.keepG (Γ' := [(8, _), (26, _)]) (.same rfl (.same rfl .nil)) ?_
    refine Fin.next ?_
    refine Tr.cond rfl (fun hb1 => ?_) (fun hb1 => ?_)
    · try simp only [decide_eq_true_eq, decide_eq_false_iff_not, beq_iff_eq, beq_eq_false_iff_ne, bne_iff_ne, bne_eq_false_iff_eq, Bool.and_eq_true, Bool.and_eq_false_iff, Bool.or_eq_true, Bool.or_eq_false_iff, Bool.not_eq_true', Bool.not_eq_false', gt_iff_lt, ge_iff_le, Int.not_lt, Int.not_le, ne_eq, Int.natCast_nonneg, true_and, and_true, Decidable.not_not, not_true_eq_false, not_false_eq_true] at hb1
      refine Tr.seq ?_
      refine Tr.region ?_
      refine TrL.stepS 4 (.plain rfl (.assign rfl (.of rfl))) rfl rfl ?_
      refine TrL.stepS 5 (.plain rfl (.assign rfl (.of rfl))) rfl rfl ?_
      refine TrL.nil ?_
      refine Fin.keepG (Γ' := [(4, _), (5, _)]) (.same rfl (.same rfl .nil)) ?_
      refine Fin.next ?_
      refine Tr.ret ?_
      refine Fin.thenRet ?_
      refine Fin.retI (rs := [_, _]) (Rs' := [is (.int .i64 (if d ≤ 0 then 0 else cl (n - n % d))), is (.int .i64 (if d ≤ 0 then 2 else if fit (n - n % d) then 0 else 30))]) rfl (.cons (.tmp rfl) (.cons (.tmp rfl) .nil)) (.cons (L.iv ?_) (.cons (L.iv ?_) .nil))
      · simp [hd0] at hb1 ⊢; simp [cl, hb1]
      · simp [hd0] at hb1 ⊢; simp [hb1]
    · try simp only [decide_eq_true_eq, decide_eq_false_iff_not, beq_iff_eq, beq_eq_false_iff_ne, bne_iff_ne, bne_eq_false_iff_eq, Bool.and_eq_true, Bool.and_eq_false_iff, Bool.or_eq_true, Bool.or_eq_false_iff, Bool.not_eq_true', Bool.not_eq_false', gt_iff_lt, ge_iff_le, Int.not_lt, Int.not_le, ne_eq, Int.natCast_nonneg, true_and, and_true, Decidable.not_not, not_true_eq_false, not_false_eq_true] at hb1
      refine Tr.skip ?_
      refine Fin.next ?_
      refine Tr.seq ?_
      refine Tr.region ?_
      refine TrL.stepS 27 (.plain rfl (.move rfl (.of rfl))) rfl rfl ?_
      refine TrL.stepS 4 (.plain rfl (.assign rfl (.of rfl))) rfl rfl ?_
      refine TrL.stepS 5 (.plain rfl (.assign rfl (.of rfl))) rfl rfl ?_
      refine TrL.nil ?_
      refine Fin.keepG (Γ' := [(4, _), (5, _)]) (.same rfl (.same rfl .nil)) ?_
      refine Fin.next ?_
      refine Tr.ret ?_
      refine Fin.retI (rs := [_, _]) (Rs' := [is (.int .i64 (if d ≤ 0 then 0 else cl (n - n % d))), is (.int .i64 (if d ≤ 0 then 2 else if fit (n - n % d) then 0 else 30))]) rfl (.cons (.tmp rfl) (.cons (.tmp rfl) .nil)) (.cons (L.iv ?_) (.cons (L.iv ?_) .nil))
      · simp [hd0] at hb1 ⊢
      · simp [hd0] at hb1 ⊢; simp [hb1]

/- tidepool/num.FloorDiv -/
set_option maxRecDepth 100000 in
theorem F74 (n d : Int) (hn : -9223372036854775808 ≤ n ∧ n ≤ 9223372036854775807) (hd : d ≤ 9223372036854775807) : FnP Try.prog 74 [is (.int .i64 n), is (.int .i64 d)] (Tup [is (.int .i64 (if d ≤ 0 then 0 else n / d)), is (.int .i64 (if d ≤ 0 then 2 else 0))]) := by
  refine FnP.mk' Try.func74 T.nm74 rfl (N := 30) rfl rfl fun B hB hκ => ?_
  refine Tr.seq ?_
  refine Tr.region ?_
  refine TrL.stepS 4 (.plain rfl (.assign rfl (.of rfl))) rfl rfl ?_
  refine TrL.stepS 5 (.plain rfl (.assign rfl (.of rfl))) rfl rfl ?_
  refine TrL.nil ?_
  refine Fin.keepG (Γ' := [(0, _), (1, _)]) (.same rfl (.same rfl .nil)) ?_
  refine Fin.next ?_
  refine Tr.seq ?_
  refine Tr.region ?_
  refine TrL.stepS 10 (.plain rfl (.move rfl (.of rfl))) rfl rfl ?_
  refine TrL.stepS 11 (.plain rfl (.move rfl (.of rfl))) rfl rfl ?_
  refine TrL.stepS 12 (.plain rfl (.call rfl (F75 n d hd) (.cons (.of rfl) (.cons (.of rfl) .nil)))) rfl rfl ?_
  refine TrL.stepS 9 (.plain rfl (.move rfl (.of rfl))) rfl rfl ?_
  refine TrL.stepS 13 (.plain rfl (.extract rfl (.of rfl) rfl)) rfl rfl ?_
  refine TrL.stepS 14 (.plain rfl (.extract rfl (.of rfl) rfl)) rfl rfl ?_
  refine TrL.stepS 6 (.plain rfl (.assign rfl (.of rfl))) rfl rfl ?_
  refine TrL.stepS 7 (.plain rfl (.assign rfl (.of rfl))) rfl rfl ?_
  refine TrL.nil ?_
  refine Fin.keepG (Γ' := [(0, _), (1, _), (6, _), (7, _)]) (.same rfl (.same rfl (.same rfl (.same rfl .nil)))) ?_
  refine Fin.next ?_
  refine Tr.seq ?_
  refine Tr.seq ?_
  refine Tr.region ?_
  refine TrL.stepS 15 (.plain rfl (.move rfl (.of rfl))) rfl rfl ?_
  refine TrL.stepS 16 (.plain rfl (.neq rfl (.of rfl) (.of rfl))) rfl rfl ?_
  refine TrL.nil ?_
  refine Fin.keepG (Γ' := [(0, _), (1, _), (6, _), (7, _), (16, _)]) (.same rfl (.same rfl (.same rfl (.same rfl (.same rfl .nil))))) ?_
  refine Fin.next ?_
  refine Tr.cond rfl (fun hb0 => ?_) (fun hb0 => ?_)
  · try simp only [decide_eq_true_eq, decide_eq_false_iff_not, beq_iff_eq, beq_eq_false_iff_ne, bne_iff_ne, bne_eq_false_iff_eq, Bool.and_eq_true, Bool.and_eq_false_iff, Bool.or_eq_true, Bool.or_eq_false_iff, Bool.not_eq_true', Bool.not_eq_false', gt_iff_lt, ge_iff_le, Int.not_lt, Int.not_le, ne_eq, Int.natCast_nonneg, true_and, and_true, Decidable.not_not, not_true_eq_false, not_false_eq_true] at hb0
    have hd0 : d ≤ 0 := Classical.byContradiction fun h => by simp [h] at hb0
    refine Tr.seq ?_
    refine Tr.region ?_
    refine TrL.stepS 17 (.plain rfl (.move rfl (.of rfl))) rfl rfl ?_
    refine TrL.stepS 4 (.plain rfl (.assign rfl (.of rfl))) rfl rfl ?_
    refine TrL.stepS 5 (.plain rfl (.assign rfl (.of rfl))) rfl rfl ?_
    refine TrL.nil ?_
    refine Fin.keepG (Γ' := [(4, _), (5, _)]) (.same rfl (.same rfl .nil)) ?_
    refine Fin.next ?_
    refine Tr.ret ?_
    refine Fin.thenRet ?_
    refine Fin.retI (rs := [_, _]) (Rs' := [is (.int .i64 (if d ≤ 0 then 0 else n / d)), is (.int .i64 (if d ≤ 0 then 2 else 0))]) rfl (.cons (.tmp rfl) (.cons (.tmp rfl) .nil)) (.cons (L.iv ?_) (.cons (L.iv ?_) .nil))
    · rw [if_pos hd0]
    · simp [hd0]
  · try simp only [decide_eq_true_eq, decide_eq_false_iff_not, beq_iff_eq, beq_eq_false_iff_ne, bne_iff_ne, bne_eq_false_iff_eq, Bool.and_eq_true, Bool.and_eq_false_iff, Bool.or_eq_true, Bool.or_eq_false_iff, Bool.not_eq_true', Bool.not_eq_false', gt_iff_lt, ge_iff_le, Int.not_lt, Int.not_le, ne_eq, Int.natCast_nonneg, true_and, and_true, Decidable.not_not, not_true_eq_false, not_false_eq_true] at hb0
    have hd0 : ¬ d ≤ 0 := fun h => by simp [h] at hb0
    have hf := tdiv_floor n d (by omega)
    have hq := tdiv_bd n d (by omega) hn
    have hq2 := floor_bd n d (by omega) hn
    refine Tr.skip ?_
    refine Fin.next ?_
    refine Tr.seq ?_
    refine Tr.region ?_
    refine TrL.stepS 18 (.plain rfl (.move rfl (.of rfl))) rfl rfl ?_
    refine TrL.stepS 19 (.plain rfl (.move rfl (.of rfl))) rfl rfl ?_
    first | refine TrL.stepS 20 (.plain rfl (.quoI L.bd_i64 rfl (.of rfl) (.of rfl) (by omega) (by decide) (by omega) (by omega))) rfl rfl ?_ | refine TrL.stepS 20 (.plain rfl (.quo rfl (.of rfl) (.of rfl) (by omega))) rfl rfl ?_
    refine TrL.stepS 8 (.plain rfl (.assign rfl (.of rfl))) rfl rfl ?_
    refine TrL.nil ?_
    refine Fin.keepG (Γ' := [(0, _), (6, _), (8, _)]) (.same rfl (.same rfl (.same rfl .nil))) ?_
    refine Fin.next ?_
    refine Tr.seq ?_
    refine Tr.seq ?_
    refine Tr.region ?_
    refine TrL.stepS 21 (.plain rfl (.move rfl (.of rfl))) rfl rfl ?_
    refine TrL.stepS 22 (.plain rfl (.neq rfl (.of rfl) (.of rfl))) rfl rfl ?_
    refine TrL.stepS 23 (.plain rfl (.move rfl (.of rfl))) rfl rfl ?_
    refine TrL.stepS 24 (.guarded rfl rfl rfl fun hg => .move rfl (.of rfl)) rfl rfl ?_
    refine TrL.stepS 25 (.guarded rfl rfl rfl fun hg => .lss rfl (.cond rfl hg) (.of rfl)) rfl rfl ?_
    refine TrL.stepS 26 (.plain rfl (.and rfl (.of rfl) (.cond rfl fun h => h))) rfl rfl ?_
    refine TrL.nil ?_
    refine Fin.keepG (Γ' := [(8, _), (26, _)]) (.same rfl (.same rfl .nil)) ?_
    refine Fin.next ?_
    refine Tr.cond rfl (fun hb1 => ?_) (fun hb1 => ?_)
    · try simp only [decide_eq_true_eq, decide_eq_false_iff_not, beq_iff_eq, beq_eq_false_iff_ne, bne_iff_ne, bne_eq_false_iff_eq, Bool.and_eq_true, Bool.and_eq_false_iff, Bool.or_eq_true, Bool.or_eq_false_iff, Bool.not_eq_true', Bool.not_eq_false', gt_iff_lt, ge_iff_le, Int.not_lt, Int.not_le, ne_eq, Int.natCast_nonneg, true_and, and_true, Decidable.not_not, not_true_eq_false, not_false_eq_true] at hb1
      simp only [hd0, if_false] at hb1
      rw [if_pos hb1] at hf
      refine Tr.region ?_
      refine TrL.stepS 27 (.plain rfl (.move rfl (.of rfl))) rfl rfl ?_
      refine TrL.stepS 28 (.plain rfl (.subI L.bd_i64 rfl (.of rfl) (.of rfl) (by omega) (by omega))) rfl rfl ?_
      refine TrL.stepS 8 (.plain rfl (.assign rfl (.of rfl))) rfl rfl ?_
      refine TrL.nil ?_
      refine Fin.keepG (Γ' := [(8, _)]) (.same rfl .nil) ?_
      refine Fin.next ?_
      refine Tr.seq ?_
      refine Tr.region ?_
      refine TrL.stepS 29 (.plain rfl (.move rfl (.of rfl))) rfl rfl ?_
      refine TrL.stepS 4 (.plain rfl (.assign rfl (.of rfl))) rfl rfl ?_
      refine TrL.stepS 5 (.plain rfl (.assign rfl (.of rfl))) rfl rfl ?_
      refine TrL.nil ?_
      refine Fin.keepG (Γ' := [(4, _), (5, _)]) (.same rfl (.same rfl .nil)) ?_
      refine Fin.next ?_
      refine Tr.ret ?_
      refine Fin.retI (rs := [_, _]) (Rs' := [is (.int .i64 (if d ≤ 0 then 0 else n / d)), is (.int .i64 (if d ≤ 0 then 2 else 0))]) rfl (.cons (.tmp rfl) (.cons (.tmp rfl) .nil)) (.cons (L.iv ?_) (.cons (L.iv ?_) .nil))
      · rw [if_neg hd0, hf]
      · rw [if_neg hd0]
    · try simp only [decide_eq_true_eq, decide_eq_false_iff_not, beq_iff_eq, beq_eq_false_iff_ne, bne_iff_ne, bne_eq_false_iff_eq, Bool.and_eq_true, Bool.and_eq_false_iff, Bool.or_eq_true, Bool.or_eq_false_iff, Bool.not_eq_true', Bool.not_eq_false', gt_iff_lt, ge_iff_le, Int.not_lt, Int.not_le, ne_eq, Int.natCast_nonneg, true_and, and_true, Decidable.not_not, not_true_eq_false, not_false_eq_true] at hb1
      simp only [hd0, if_false] at hb1
      rw [if_neg (by omega)] at hf
      refine Tr.skip ?_
      refine Fin.next ?_
      refine Tr.seq ?_
      refine Tr.region ?_
      refine TrL.stepS 29 (.plain rfl (.move rfl (.of rfl))) rfl rfl ?_
      refine TrL.stepS 4 (.plain rfl (.assign rfl (.of rfl))) rfl rfl ?_
      refine TrL.stepS 5 (.plain rfl (.assign rfl (.of rfl))) rfl rfl ?_
      refine TrL.nil ?_
      refine Fin.keepG (Γ' := [(4, _), (5, _)]) (.same rfl (.same rfl .nil)) ?_
      refine Fin.next ?_
      refine Tr.ret ?_
      refine Fin.retI (rs := [_, _]) (Rs' := [is (.int .i64 (if d ≤ 0 then 0 else n / d)), is (.int .i64 (if d ≤ 0 then 2 else 0))]) rfl (.cons (.tmp rfl) (.cons (.tmp rfl) .nil)) (.cons (L.iv ?_) (.cons (L.iv ?_) .nil))
      · rw [if_neg hd0, hf]
      · rw [if_neg hd0]

/- math/bits.Mul64 -/
set_option maxRecDepth 100000 in
theorem F134 (x y : Int) (hx : 0 ≤ x ∧ x < 18446744073709551616) (hy : 0 ≤ y ∧ y < 18446744073709551616) : FnP Try.prog 134 [is (.int .u64 x), is (.int .u64 y)] (Tup [is (.int .u64 (x * y / 18446744073709551616)), is (.int .u64 (x * y % 18446744073709551616))]) := by
  have hP := mul_parts x y
  obtain ⟨A, hA⟩ : ∃ A, A = (x % 4294967296) * (y % 4294967296) := ⟨_, rfl⟩
  have bA := mul_bd (a := x % 4294967296) (b := y % 4294967296) (by omega) (by omega)
  rw [← hA] at bA hP
  obtain ⟨B1, hB1⟩ : ∃ B1, B1 = (x / 4294967296) * (y % 4294967296) := ⟨_, rfl⟩
  have bB1 := mul_bd (a := x / 4294967296) (b := y % 4294967296) (by omega) (by omega)
  rw [← hB1] at bB1 hP
  obtain ⟨C, hC⟩ : ∃ C, C = (x % 4294967296) * (y / 4294967296) := ⟨_, rfl⟩
  have bC := mul_bd (a := x % 4294967296) (b := y / 4294967296) (by omega) (by omega)
  rw [← hC] at bC hP
  obtain ⟨D, hD⟩ : ∃ D, D = (x / 4294967296) * (y / 4294967296) := ⟨_, rfl⟩
  have bD := mul_bd (a := x / 4294967296) (b := y / 4294967296) (by omega) (by omega)
  rw [← hD] at bD hP
  refine FnP.mk' Try.func134 T.nm134 rfl (N := 51) rfl rfl fun B hB hκ => ?_
  refine Tr.seq ?_
  refine Tr.region ?_
  refine TrL.stepS 4 (.plain rfl (.assign rfl (.of rfl))) rfl rfl ?_
  refine TrL.stepS 5 (.plain rfl (.assign rfl (.of rfl))) rfl rfl ?_
  refine TrL.nil ?_
  refine Fin.keepG (Γ' := [(0, _), (1, _)]) (.same rfl (.same rfl .nil)) ?_
  refine Fin.next ?_
  refine Tr.seq ?_
  refine Tr.region ?_
  refine TrL.stepS 14 (.plain rfl (.move rfl (.of rfl))) rfl rfl ?_
  refine TrL.stepS 15 (.plain rfl ((OpM.eqI (OpM.bits_ .and (by simp) rfl (.of rfl) (.of rfl)) (by exact and32 hx)))) rfl rfl ?_
  refine TrL.stepS 6 (.plain rfl (.assign rfl (.of rfl))) rfl rfl ?_
  refine TrL.nil ?_
  refine Fin.keepG (Γ' := [(0, _), (1, _), (6, _)]) (.same rfl (.same rfl (.same rfl .nil))) ?_
  refine Fin.next ?_
  refine Tr.seq ?_
  refine Tr.region ?_
  refine TrL.stepS 16 (.plain rfl (.move rfl (.of rfl))) rfl rfl ?_
  refine TrL.stepS 17 (.plain rfl ((OpM.eqI (OpM.shr rfl (.of rfl) (.of rfl) (by decide)) (by exact shr32 hx.1)))) rfl rfl ?_
  refine TrL.stepS 7 (.plain rfl (.assign rfl (.of rfl))) rfl rfl ?_
  refine TrL.nil ?_
  refine Fin.keepG (Γ' := [(0, _), (1, _), (6, _), (7, _)]) (.same rfl (.same rfl (.same rfl (.same rfl .nil)))) ?_
  refine Fin.next ?_
  refine Tr.seq ?_
  refine Tr.region ?_
  refine TrL.stepS 18 (.plain rfl (.move rfl (.of rfl))) rfl rfl ?_
  refine TrL.stepS 19 (.plain rfl ((OpM.eqI (OpM.bits_ .and (by simp) rfl (.of rfl) (.of rfl)) (by exact and32 hy)))) rfl rfl ?_
  refine TrL.stepS 8 (.plain rfl (.assign rfl (.of rfl))) rfl rfl ?_
  refine TrL.nil ?_
  refine Fin.keepG (Γ' := [(0, _), (1, _), (6, _), (7, _), (8, _)]) (.same rfl (.same rfl (.same rfl (.same rfl (.same rfl .nil))))) ?_
  refine Fin.next ?_
  refine Tr.seq ?_
  refine Tr.region ?_
  refine TrL.stepS 20 (.plain rfl (.move rfl (.of rfl))) rfl rfl ?_
  refine TrL.stepS 21 (.plain rfl ((OpM.eqI (OpM.shr rfl (.of rfl) (.of rfl) (by decide)) (by exact shr32 hy.1)))) rfl rfl ?_
  refine TrL.stepS 9 (.plain rfl (.assign rfl (.of rfl))) rfl rfl ?_
  refine TrL.nil ?_
  refine Fin.keepG (Γ' := [(0, _), (1, _), (6, _), (7, _), (8, _), (9, _)]) (.same rfl (.same rfl (.same rfl (.same rfl (.same rfl (.same rfl .nil)))))) ?_
  refine Fin.next ?_
  refine Tr.seq ?_
  refine Tr.region ?_
  refine TrL.stepS 22 (.plain rfl (.move rfl (.of rfl))) rfl rfl ?_
  refine TrL.stepS 23 (.plain rfl (.move rfl (.of rfl))) rfl rfl ?_
  refine TrL.stepS 24 (.plain rfl ((OpM.eqI (OpM.mul rfl (.of rfl) (.of rfl)) (by rw [← hA, wrap_u64, Int.emod_eq_of_lt (by omega) (by omega)])))) rfl rfl ?_
  refine TrL.stepS 10 (.plain rfl (.assign rfl (.of rfl))) rfl rfl ?_
  refine TrL.nil ?_
  refine Fin.keepG (Γ' := [(0, _), (1, _), (6, _), (7, _), (8, _), (9, _), (10, _)]) (.same rfl (.same rfl (.same rfl (.same rfl (.same rfl (.same rfl (.same rfl .nil))))))) ?_
  refine Fin.next ?_
  refine Tr.seq ?_
  refine Tr.region ?_
  refine TrL.stepS 25 (.plain rfl (.move rfl (.of rfl))) rfl rfl ?_
  refine TrL.stepS 26 (.plain rfl (.move rfl (.of rfl))) rfl rfl ?_
  refine TrL.stepS 27 (.plain rfl ((OpM.eqI (OpM.mul rfl (.of rfl) (.of rfl)) (by rw [← hB1, wrap_u64, Int.emod_eq_of_lt (by omega) (by omega)])))) rfl rfl ?_
  refine TrL.stepS 28 (.plain rfl (.move rfl (.of rfl))) rfl rfl ?_
  refine TrL.stepS 29 (.plain rfl ((OpM.eqI (OpM.shr rfl (.of rfl) (.of rfl) (by decide)) (by exact shr32 (by omega))))) rfl rfl ?_
  first | refine TrL.stepS 30 (.plain rfl (.addI L.bd_u64 rfl (.of rfl) (.of rfl) (by omega) (by omega))) rfl rfl ?_ | refine TrL.stepS 30 (.plain rfl (.add rfl (.of rfl) (.of rfl))) rfl rfl ?_
  refine TrL.stepS 11 (.plain rfl (.assign rfl (.of rfl))) rfl rfl ?_
  refine TrL.nil ?_
  refine Fin.keepG (Γ' := [(0, _), (1, _), (6, _), (7, _), (9, _), (11, _)]) (.same rfl (.same rfl (.same rfl (.same rfl (.same rfl (.same rfl .nil)))))) ?_
  refine Fin.next ?_
  refine Tr.seq ?_
  refine Tr.region ?_
  refine TrL.stepS 31 (.plain rfl (.move rfl (.of rfl))) rfl rfl ?_
  refine TrL.stepS 32 (.plain rfl ((OpM.eqI (OpM.bits_ .and (by simp) rfl (.of rfl) (.of rfl)) (by exact and32 (by omega))))) rfl rfl ?_
  refine TrL.stepS 12 (.plain rfl (.assign rfl (.of rfl))) rfl rfl ?_
  refine TrL.nil ?_
  refine Fin.keepG (Γ' := [(0, _), (1, _), (6, _), (7, _), (9, _), (11, _), (12, _)]) (.same rfl (.same rfl (.same rfl (.same rfl (.same rfl (.same rfl (.same rfl .nil))))))) ?_
  refine Fin.next ?_
  refine Tr.seq ?_
  refine Tr.region ?_
  refine TrL.stepS 33 (.plain rfl (.move rfl (.of rfl))) rfl rfl ?_
  refine TrL.stepS 34 (.plain rfl ((OpM.eqI (OpM.shr rfl (.of rfl) (.of rfl) (by decide)) (by exact shr32 (by omega))))) rfl rfl ?_
  refine TrL.stepS 13 (.plain rfl (.assign rfl (.of rfl))) rfl rfl ?_
  refine TrL.nil ?_
  refine Fin.keepG (Γ' := [(0, _), (1, _), (6, _), (7, _), (9, _), (12, _), (13, _)]) (.same rfl (.same rfl (.same rfl (.same rfl (.same rfl (.same rfl (.same rfl .nil))))))) ?_
  refine Fin.next ?_
  refine Tr.seq ?_
  refine Tr.region ?_
  refine TrL.stepS 35 (.plain rfl (.move rfl (.of rfl))) rfl rfl ?_
  refine TrL.stepS 36 (.plain rfl (.move rfl (.of rfl))) rfl rfl ?_
  refine TrL.stepS 37 (.plain rfl (.move rfl (.of rfl))) rfl rfl ?_
  refine TrL.stepS 38 (.plain rfl ((OpM.eqI (OpM.mul rfl (.of rfl) (.of rfl)) (by rw [← hC, wrap_u64, Int.emod_eq_of_lt (by omega) (by omega)])))) rfl rfl ?_
  first | refine TrL.stepS 39 (.plain rfl (.addI L.bd_u64 rfl (.of rfl) (.of rfl) (by omega) (by omega))) rfl rfl ?_ | refine TrL.stepS 39 (.plain rfl (.add rfl (.of rfl) (.of rfl))) rfl rfl ?_
  refine TrL.stepS 12 (.plain rfl (.assign rfl (.of rfl))) rfl rfl ?_
  refine TrL.nil ?_
  refine Fin.keepG (Γ' := [(0, _), (1, _), (7, _), (9, _), (12, _), (13, _)]) (.same rfl (.same rfl (.same rfl (.same rfl (.same rfl (.same rfl .nil)))))) ?_
  refine Fin.next ?_
  refine Tr.seq ?_
  refine Tr.region ?_
  refine TrL.stepS 40 (.plain rfl (.move rfl (.of rfl))) rfl rfl ?_
  refine TrL.stepS 41 (.plain rfl (.move rfl (.of rfl))) rfl rfl ?_
  refine TrL.stepS 42 (.plain rfl ((OpM.eqI (OpM.mul rfl (.of rfl) (.of rfl)) (by rw [← hD, wrap_u64, Int.emod_eq_of_lt (by omega) (by omega)])))) rfl rfl ?_
  refine TrL.stepS 43 (.plain rfl (.move rfl (.of rfl))) rfl rfl ?_
  first | refine TrL.stepS 44 (.plain rfl (.addI L.bd_u64 rfl (.of rfl) (.of rfl) (by omega) (by omega))) rfl rfl ?_ | refine TrL.stepS 44 (.plain rfl (.add rfl (.of rfl) (.of rfl))) rfl rfl ?_
  refine TrL.stepS 45 (.plain rfl (.move rfl (.of rfl))) rfl rfl ?_
  refine TrL.stepS 46 (.plain rfl ((OpM.eqI (OpM.shr rfl (.of rfl) (.of rfl) (by decide)) (by exact shr32 (by omega))))) rfl rfl ?_
  first | refine TrL.stepS 47 (.plain rfl (.addI L.bd_u64 rfl (.of rfl) (.of rfl) (by omega) (by omega))) rfl rfl ?_ | refine TrL.stepS 47 (.plain rfl (.add rfl (.of rfl) (.of rfl))) rfl rfl ?_
  refine TrL.stepS 4 (.plain rfl (.assign rfl (.of rfl))) rfl rfl ?_
  refine TrL.nil ?_
  refine Fin.keepG (Γ' := [(0, _), (1, _), (4, _)]) (.same rfl (.same rfl (.same rfl .nil))) ?_
  refine Fin.next ?_
  refine Tr.seq ?_
  refine Tr.region ?_
  refine TrL.stepS 48 (.plain rfl (.move rfl (.of rfl))) rfl rfl ?_
  refine TrL.stepS 49 (.plain rfl (.move rfl (.of rfl))) rfl rfl ?_
  refine TrL.stepS 50 (.plain rfl (.mul rfl (.of rfl) (.of rfl))) rfl rfl ?_
  refine TrL.stepS 5 (.plain rfl (.assign rfl (.of rfl))) rfl rfl ?_
  refine TrL.nil ?_
  refine Fin.keepG (Γ' := [(4, _), (5, _)]) (.same rfl (.same rfl .nil)) ?_
  refine Fin.next ?_
  refine Tr.ret ?_
  refine Fin.retI (rs := [_, _]) (Rs' := [is (.int .u64 (x * y / 18446744073709551616)), is (.int .u64 (x * y % 18446744073709551616))]) rfl (.cons (.tmp rfl) (.cons (.tmp rfl) .nil)) (.cons (L.iv ?_) (.cons (L.iv ?_) .nil))
  · congr 1; omega
  · congr 1

/- tidepool/num.size -/
set_option maxRecDepth 100000 in
theorem F135 (n : Int) (hn : -9223372036854775808 ≤ n ∧ n ≤ 9223372036854775807) : FnP Try.prog 135 [is (.int .i64 n)] (is (.int .u64 (if n < 0 then -n else n))) := by
  refine FnP.mk' Try.func135 T.nm135 rfl (N := 10) rfl rfl fun B hB hκ => ?_
  refine Tr.seq ?_
  refine Tr.region ?_
  refine TrL.stepS 2 (.plain rfl (.assign rfl (.of rfl))) rfl rfl ?_
  refine TrL.nil ?_
  refine Fin.keepG (Γ' := [(0, _)]) (.same rfl .nil) ?_
  refine Fin.next ?_
  refine Tr.seq ?_
  refine Tr.seq ?_
  refine Tr.region ?_
  refine TrL.stepS 3 (.plain rfl (.move rfl (.of rfl))) rfl rfl ?_
  refine TrL.stepS 4 (.plain rfl (.lss rfl (.of rfl) (.of rfl))) rfl rfl ?_
  refine TrL.nil ?_
  refine Fin.keepG (Γ' := [(0, _), (4, _)]) (.same rfl (.same rfl .nil)) ?_
  refine Fin.next ?_
  refine Tr.cond rfl (fun hb0 => ?_) (fun hb0 => ?_)
  · try simp only [decide_eq_true_eq, decide_eq_false_iff_not, beq_iff_eq, beq_eq_false_iff_ne, bne_iff_ne, bne_eq_false_iff_eq, Bool.and_eq_true, Bool.and_eq_false_iff, Bool.or_eq_true, Bool.or_eq_false_iff, Bool.not_eq_true', Bool.not_eq_false', gt_iff_lt, ge_iff_le, Int.not_lt, Int.not_le, ne_eq, Int.natCast_nonneg, true_and, and_true, Decidable.not_not, not_true_eq_false, not_false_eq_true] at hb0
    refine Tr.seq ?_
    refine Tr.region ?_
    refine TrL.stepS 5 (.plain rfl (.move rfl (.of rfl))) rfl rfl ?_
    refine TrL.stepS 6 (.plain rfl (.conv rfl (.of rfl) T.us2 Try.underlying55)) rfl rfl ?_
    refine TrL.stepS 7 (.plain rfl (.neg rfl (.of rfl))) rfl rfl ?_
    refine TrL.stepS 2 (.plain rfl (.assign rfl (.of rfl))) rfl rfl ?_
    refine TrL.nil ?_
    refine Fin.keepG (Γ' := [(2, _)]) (.same rfl .nil) ?_
    refine Fin.next ?_
    refine Tr.ret ?_
    refine Fin.thenRet ?_
    refine Fin.retI (rs := [_]) (Rs' := [is (.int .u64 (if n < 0 then -n else n))]) rfl (.cons (.tmp rfl) .nil) (.cons (L.iv ?_) .nil)
    · congr 1; rw [if_pos hb0]; simp only [wrap_u64]; omega
  · try simp only [decide_eq_true_eq, decide_eq_false_iff_not, beq_iff_eq, beq_eq_false_iff_ne, bne_iff_ne, bne_eq_false_iff_eq, Bool.and_eq_true, Bool.and_eq_false_iff, Bool.or_eq_true, Bool.or_eq_false_iff, Bool.not_eq_true', Bool.not_eq_false', gt_iff_lt, ge_iff_le, Int.not_lt, Int.not_le, ne_eq, Int.natCast_nonneg, true_and, and_true, Decidable.not_not, not_true_eq_false, not_false_eq_true] at hb0
    refine Tr.skip ?_
    refine Fin.next ?_
    refine Tr.seq ?_
    refine Tr.region ?_
    refine TrL.stepS 8 (.plain rfl (.move rfl (.of rfl))) rfl rfl ?_
    refine TrL.stepS 9 (.plain rfl (.conv rfl (.of rfl) T.us2 Try.underlying55)) rfl rfl ?_
    refine TrL.stepS 2 (.plain rfl (.assign rfl (.of rfl))) rfl rfl ?_
    refine TrL.nil ?_
    refine Fin.keepG (Γ' := [(2, _)]) (.same rfl .nil) ?_
    refine Fin.next ?_
    refine Tr.ret ?_
    refine Fin.retI (rs := [_]) (Rs' := [is (.int .u64 (if n < 0 then -n else n))]) rfl (.cons (.tmp rfl) .nil) (.cons (L.iv ?_) .nil)
    · congr 1; rw [if_neg (by omega)]; simp only [wrap_u64]; omega

/- tidepool/num.Mul -/
set_option maxRecDepth 100000 in
theorem F72 (a b : Int) (ha : -9223372036854775808 ≤ a ∧ a ≤ 9223372036854775807) (hb : -9223372036854775808 ≤ b ∧ b ≤ 9223372036854775807) : FnP Try.prog 72 [is (.int .i64 a), is (.int .i64 b)] (Tup [is (.int .i64 (cl (a * b))), is (.bool (fit (a * b)))]) := by
  have hsg := sign_mul (a := a) (b := b)
  obtain ⟨p, hp⟩ : ∃ p : Int, p = (if a < 0 then -a else a) * (if b < 0 then -b else b) := ⟨_, rfl⟩
  have hpab : (a < 0 ∧ ¬ b < 0 ∨ ¬ a < 0 ∧ b < 0) ∧ p = -(a * b) ∨ ¬ (a < 0 ∧ ¬ b < 0 ∨ ¬ a < 0 ∧ b < 0) ∧ p = a * b := by
    rw [hp]; split <;> split <;> simp_all [Int.neg_mul, Int.mul_neg]
  have hp0 : 0 ≤ p := by
    rw [hp]; exact Int.mul_nonneg (by split <;> omega) (by split <;> omega)
  refine FnP.mk' Try.func72 T.nm72 rfl (N := 43) rfl rfl fun B hB hκ => ?_
  refine Tr.seq ?_
  refine Tr.region ?_
  refine TrL.stepS 4 (.plain rfl (.assign rfl (.of rfl))) rfl rfl ?_
  refine TrL.stepS 5 (.plain rfl (.assign rfl (.of rfl))) rfl rfl ?_
  refine TrL.nil ?_
  refine Fin.keepG (Γ' := [(0, _), (1, _)]) (.same rfl (.same rfl .nil)) ?_
  refine Fin.next ?_
  refine Tr.seq ?_
  refine Tr.region ?_
  refine TrL.stepS 10 (.plain rfl (.move rfl (.of rfl))) rfl rfl ?_
  refine TrL.stepS 11 (.plain rfl (.call rfl (F135 a ha) (.cons (.of rfl) .nil))) rfl rfl ?_
  refine TrL.stepS 12 (.plain rfl (.move rfl (.of rfl))) rfl rfl ?_
  refine TrL.stepS 13 (.plain rfl (.call rfl (F135 b hb) (.cons (.of rfl) .nil))) rfl rfl ?_
  refine TrL.stepS 14 (.plain rfl (.call rfl (F134 _ _ (by split <;> omega) (by split <;> omega)) (.cons (.of rfl) (.cons (.of rfl) .nil)))) rfl rfl ?_
  refine TrL.stepS 9 (.plain rfl (.move rfl (.of rfl))) rfl rfl ?_
  refine TrL.stepS 15 (.plain rfl (.extract rfl (.of rfl) rfl)) rfl rfl ?_
  refine TrL.stepS 16 (.plain rfl (.extract rfl (.of rfl) rfl)) rfl rfl ?_
  refine TrL.stepS 6 (.plain rfl (.assign rfl (.of rfl))) rfl rfl ?_
  refine TrL.stepS 7 (.plain rfl (.assign rfl (.of rfl))) rfl rfl ?_
  refine TrL.nil ?_
  refine Fin.keepG (Γ' := [(0, _), (1, _), (6, _), (7, _)]) (.same rfl (.same rfl (.same rfl (.same rfl .nil)))) ?_
  simp only [← hp]
  refine Fin.next ?_
  refine Tr.seq ?_
  refine Tr.region ?_
  refine TrL.stepS 17 (.plain rfl (.move rfl (.of rfl))) rfl rfl ?_
  refine TrL.stepS 18 (.plain rfl (.lss rfl (.of rfl) (.of rfl))) rfl rfl ?_
  refine TrL.stepS 19 (.plain rfl (.move rfl (.of rfl))) rfl rfl ?_
  refine TrL.stepS 20 (.plain rfl (.lss rfl (.of rfl) (.of rfl))) rfl rfl ?_
  refine TrL.stepS 21 (.plain rfl (.neqB rfl (.of rfl) (.of rfl) Try.underlying4)) rfl rfl ?_
  refine TrL.stepS 8 (.plain rfl (.assign rfl (.of rfl))) rfl rfl ?_
  refine TrL.nil ?_
  refine Fin.keepG (Γ' := [(6, _), (7, _), (8, _)]) (.same rfl (.same rfl (.same rfl .nil))) ?_
  refine Fin.next ?_
  refine Tr.seq ?_
  refine Tr.block ?_
  refine Tr.seq ?_
  refine Tr.region ?_
  refine TrL.stepS 23 (.plain rfl (.move rfl (.of rfl))) rfl rfl ?_
  refine TrL.stepS 24 (.plain rfl (.neq rfl (.of rfl) (.of rfl))) rfl rfl ?_
  refine TrL.stepS 22 (.plain rfl (.assign rfl (.of rfl))) rfl rfl ?_
  refine TrL.nil ?_
  refine Fin.keepG (Γ' := [(7, _), (8, _), (22, _)]) (.same rfl (.same rfl (.same rfl .nil))) ?_
  refine Fin.next ?_
  refine Tr.cond rfl (fun hb0 => ?_) (fun hb0 => ?_)
  · try simp only [decide_eq_true_eq, decide_eq_false_iff_not, beq_iff_eq, beq_eq_false_iff_ne, bne_iff_ne, bne_eq_false_iff_eq, Bool.and_eq_true, Bool.and_eq_false_iff, Bool.or_eq_true, Bool.or_eq_false_iff, Bool.not_eq_true', Bool.not_eq_false', gt_iff_lt, ge_iff_le, Int.not_lt, Int.not_le, ne_eq, Int.natCast_nonneg, true_and, and_true, Decidable.not_not, not_true_eq_false, not_false_eq_true] at hb0
    refine Tr.seq ?_
    refine Tr.region ?_
    refine TrL.stepS 4 (.plain rfl (.assign rfl (.of rfl))) rfl rfl ?_
    refine TrL.stepS 5 (.plain rfl (.assign rfl (.of rfl))) rfl rfl ?_
    refine TrL.nil ?_
    refine Fin.keepG (Γ' := [(4, _), (5, _)]) (.same rfl (.same rfl .nil)) ?_
    refine Fin.next ?_
    refine Tr.ret ?_
    refine Fin.blockRet ?_
    refine Fin.thenRet ?_
    refine Fin.retI (rs := [_, _]) (Rs' := [is (.int .i64 (cl (a * b))), is (.bool (fit (a * b)))]) rfl (.cons (.tmp rfl) (.cons (.tmp rfl) .nil)) (.cons (L.iv ?_) (.cons (L.iv ?_) .nil))
    · have e : fit (a * b) = false := by (cases h : fit (a * b) with | false => rfl | true => (rw [fit_iff] at h; (try simp only [wrap_i64, wrap_u64] at *); omega))
      simp [cl, e]
    · have e : fit (a * b) = false := by (cases h : fit (a * b) with | false => rfl | true => (rw [fit_iff] at h; (try simp only [wrap_i64, wrap_u64] at *); omega))
      rw [e]
  · try simp only [decide_eq_true_eq, decide_eq_false_iff_not, beq_iff_eq, beq_eq_false_iff_ne, bne_iff_ne, bne_eq_false_iff_eq, Bool.and_eq_true, Bool.and_eq_false_iff, Bool.or_eq_true, Bool.or_eq_false_iff, Bool.not_eq_true', Bool.not_eq_false', gt_iff_lt, ge_iff_le, Int.not_lt, Int.not_le, ne_eq, Int.natCast_nonneg, true_and, and_true, Decidable.not_not, not_true_eq_false, not_false_eq_true] at hb0
    refine Tr.seq ?_
    refine Tr.region ?_
    refine TrL.stepS 26 (.plain rfl (.move rfl (.of rfl))) rfl rfl ?_
    refine TrL.stepS 27 (.plain rfl (.move rfl (.of rfl))) rfl rfl ?_
    refine TrL.stepS 28 (.guarded rfl rfl rfl fun hg => .move rfl (.of rfl)) rfl rfl ?_
    refine TrL.stepS 29 (.guarded rfl rfl rfl fun hg => .leq rfl (.cond rfl hg) (.of rfl)) rfl rfl ?_
    refine TrL.stepS 30 (.plain rfl (.and rfl (.of rfl) (.cond rfl fun h => h))) rfl rfl ?_
    refine TrL.stepS 25 (.plain rfl (.assign rfl (.of rfl))) rfl rfl ?_
    refine TrL.nil ?_
    refine Fin.keepG (Γ' := [(7, _), (8, _), (25, _)]) (.same rfl (.same rfl (.same rfl .nil))) ?_
    refine Fin.next ?_
    refine Tr.cond rfl (fun hb1 => ?_) (fun hb1 => ?_)
    · try simp only [decide_eq_true_eq, decide_eq_false_iff_not, beq_iff_eq, beq_eq_false_iff_ne, bne_iff_ne, bne_eq_false_iff_eq, Bool.and_eq_true, Bool.and_eq_false_iff, Bool.or_eq_true, Bool.or_eq_false_iff, Bool.not_eq_true', Bool.not_eq_false', gt_iff_lt, ge_iff_le, Int.not_lt, Int.not_le, ne_eq, Int.natCast_nonneg, true_and, and_true, Decidable.not_not, not_true_eq_false, not_false_eq_true] at hb1
      simp at hb1
      refine Tr.seq ?_
      refine Tr.region ?_
      refine TrL.stepS 31 (.plain rfl (.move rfl (.of rfl))) rfl rfl ?_
      refine TrL.stepS 32 (.plain rfl (.neg rfl (.of rfl))) rfl rfl ?_
      refine TrL.stepS 33 (.plain rfl (.conv rfl (.of rfl) T.us55 Try.underlying2)) rfl rfl ?_
      refine TrL.stepS 4 (.plain rfl (.assign rfl (.of rfl))) rfl rfl ?_
      refine TrL.stepS 5 (.plain rfl (.assign rfl (.of rfl))) rfl rfl ?_
      refine TrL.nil ?_
      refine Fin.keepG (Γ' := [(4, _), (5, _)]) (.same rfl (.same rfl .nil)) ?_
      refine Fin.next ?_
      refine Tr.ret ?_
      refine Fin.blockRet ?_
      refine Fin.thenRet ?_
      refine Fin.retI (rs := [_, _]) (Rs' := [is (.int .i64 (cl (a * b))), is (.bool (fit (a * b)))]) rfl (.cons (.tmp rfl) (.cons (.tmp rfl) .nil)) (.cons (L.iv ?_) (.cons (L.iv ?_) .nil))
      · have e : fit (a * b) = true := by (rw [fit_iff]; (try simp only [wrap_i64, wrap_u64] at *); omega)
        simp only [cl, e, if_true]; (try simp only [wrap_i64, wrap_u64]); (try congr 1); (try omega)
      · have e : fit (a * b) = true := by (rw [fit_iff]; (try simp only [wrap_i64, wrap_u64] at *); omega)
        rw [e]
    · try simp only [decide_eq_true_eq, decide_eq_false_iff_not, beq_iff_eq, beq_eq_false_iff_ne, bne_iff_ne, bne_eq_false_iff_eq, Bool.and_eq_true, Bool.and_eq_false_iff, Bool.or_eq_true, Bool.or_eq_false_iff, Bool.not_eq_true', Bool.not_eq_false', gt_iff_lt, ge_iff_le, Int.not_lt, Int.not_le, ne_eq, Int.natCast_nonneg, true_and, and_true, Decidable.not_not, not_true_eq_false, not_false_eq_true] at hb1
      simp at hb1
      refine Tr.seq ?_
      refine Tr.region ?_
      refine TrL.stepS 35 (.plain rfl (.move rfl (.of rfl))) rfl rfl ?_
      refine TrL.stepS 36 (.plain rfl (.not rfl (.of rfl))) rfl rfl ?_
      refine TrL.stepS 37 (.plain rfl (.move rfl (.of rfl))) rfl rfl ?_
      refine TrL.stepS 38 (.guarded rfl rfl rfl fun hg => .move rfl (.of rfl)) rfl rfl ?_
      refine TrL.stepS 39 (.guarded rfl rfl rfl fun hg => .leq rfl (.cond rfl hg) (.of rfl)) rfl rfl ?_
      refine TrL.stepS 40 (.plain rfl (.and rfl (.of rfl) (.cond rfl fun h => h))) rfl rfl ?_
      refine TrL.stepS 34 (.plain rfl (.assign rfl (.of rfl))) rfl rfl ?_
      refine TrL.nil ?_
      refine Fin.keepG (Γ' := [(7, _), (34, _)]) (.same rfl (.same rfl .nil)) ?_
      refine Fin.next ?_
      refine Tr.cond rfl (fun hb2 => ?_) (fun hb2 => ?_)
      · try simp only [decide_eq_true_eq, decide_eq_false_iff_not, beq_iff_eq, beq_eq_false_iff_ne, bne_iff_ne, bne_eq_false_iff_eq, Bool.and_eq_true, Bool.and_eq_false_iff, Bool.or_eq_true, Bool.or_eq_false_iff, Bool.not_eq_true', Bool.not_eq_false', gt_iff_lt, ge_iff_le, Int.not_lt, Int.not_le, ne_eq, Int.natCast_nonneg, true_and, and_true, Decidable.not_not, not_true_eq_false, not_false_eq_true] at hb2
        simp at hb2
        refine Tr.seq ?_
        refine Tr.region ?_
        refine TrL.stepS 41 (.plain rfl (.move rfl (.of rfl))) rfl rfl ?_
        refine TrL.stepS 42 (.plain rfl (.conv rfl (.of rfl) T.us55 Try.underlying2)) rfl rfl ?_
        refine TrL.stepS 4 (.plain rfl (.assign rfl (.of rfl))) rfl rfl ?_
        refine TrL.stepS 5 (.plain rfl (.assign rfl (.of rfl))) rfl rfl ?_
        refine TrL.nil ?_
        refine Fin.keepG (Γ' := [(4, _), (5, _)]) (.same rfl (.same rfl .nil)) ?_
        refine Fin.next ?_
        refine Tr.ret ?_
        refine Fin.blockRet ?_
        refine Fin.thenRet ?_
        refine Fin.retI (rs := [_, _]) (Rs' := [is (.int .i64 (cl (a * b))), is (.bool (fit (a * b)))]) rfl (.cons (.tmp rfl) (.cons (.tmp rfl) .nil)) (.cons (L.iv ?_) (.cons (L.iv ?_) .nil))
        · have e : fit (a * b) = true := by (rw [fit_iff]; (try simp only [wrap_i64, wrap_u64] at *); omega)
          simp only [cl, e, if_true]; (try simp only [wrap_i64, wrap_u64]); (try congr 1); (try omega)
        · have e : fit (a * b) = true := by (rw [fit_iff]; (try simp only [wrap_i64, wrap_u64] at *); omega)
          rw [e]
      · try simp only [decide_eq_true_eq, decide_eq_false_iff_not, beq_iff_eq, beq_eq_false_iff_ne, bne_iff_ne, bne_eq_false_iff_eq, Bool.and_eq_true, Bool.and_eq_false_iff, Bool.or_eq_true, Bool.or_eq_false_iff, Bool.not_eq_true', Bool.not_eq_false', gt_iff_lt, ge_iff_le, Int.not_lt, Int.not_le, ne_eq, Int.natCast_nonneg, true_and, and_true, Decidable.not_not, not_true_eq_false, not_false_eq_true] at hb2
        simp at hb2
        refine Tr.skip ?_
        refine Fin.blockNormal ?_
        refine Fin.next ?_
        refine Tr.seq ?_
        refine Tr.region ?_
        refine TrL.stepS 4 (.plain rfl (.assign rfl (.of rfl))) rfl rfl ?_
        refine TrL.stepS 5 (.plain rfl (.assign rfl (.of rfl))) rfl rfl ?_
        refine TrL.nil ?_
        refine Fin.keepG (Γ' := [(4, _), (5, _)]) (.same rfl (.same rfl .nil)) ?_
        refine Fin.next ?_
        refine Tr.ret ?_
        refine Fin.retI (rs := [_, _]) (Rs' := [is (.int .i64 (cl (a * b))), is (.bool (fit (a * b)))]) rfl (.cons (.tmp rfl) (.cons (.tmp rfl) .nil)) (.cons (L.iv ?_) (.cons (L.iv ?_) .nil))
        · have e : fit (a * b) = false := by (cases h : fit (a * b) with | false => rfl | true => (rw [fit_iff] at h; (try simp only [wrap_i64, wrap_u64] at *); omega))
          simp [cl, e]
        · have e : fit (a * b) = false := by (cases h : fit (a * b) with | false => rfl | true => (rw [fit_iff] at h; (try simp only [wrap_i64, wrap_u64] at *); omega))
          rw [e]

/- tidepool/num.Abs -/
set_option maxRecDepth 100000 in
theorem F86 (n : Int) (hn : -9223372036854775808 ≤ n ∧ n ≤ 9223372036854775807) : FnP Try.prog 86 [is (.int .i64 n)] (Tup [is (.int .i64 (if n = -9223372036854775808 then 0 else if n < 0 then -n else n)), is (.bool (!decide (n = -9223372036854775808)))]) := by
  refine FnP.mk' Try.func86 T.nm86 rfl (N := 10) rfl rfl fun B hB hκ => ?_
  refine Tr.seq ?_
  refine Tr.region ?_
  refine TrL.stepS 2 (.plain rfl (.assign rfl (.of rfl))) rfl rfl ?_
  refine TrL.stepS 3 (.plain rfl (.assign rfl (.of rfl))) rfl rfl ?_
  refine TrL.nil ?_
  refine Fin.keepG (Γ' := [(0, _)]) (.same rfl .nil) ?_
  refine Fin.next ?_
  refine Tr.seq ?_
  refine Tr.seq ?_
  refine Tr.region ?_
  refine TrL.stepS 4 (.plain rfl (.move rfl (.of rfl))) rfl rfl ?_
  refine TrL.stepS 5 (.plain rfl (.eql rfl (.of rfl) (.of rfl))) rfl rfl ?_
  refine TrL.nil ?_
  refine Fin.keepG (Γ' := [(0, _), (5, _)]) (.same rfl (.same rfl .nil)) ?_
  refine Fin.next ?_
  refine Tr.cond rfl (fun hb0 => ?_) (fun hb0 => ?_)
  · try simp only [decide_eq_true_eq, decide_eq_false_iff_not, beq_iff_eq, beq_eq_false_iff_ne, bne_iff_ne, bne_eq_false_iff_eq, Bool.and_eq_true, Bool.and_eq_false_iff, Bool.or_eq_true, Bool.or_eq_false_iff, Bool.not_eq_true', Bool.not_eq_false', gt_iff_lt, ge_iff_le, Int.not_lt, Int.not_le, ne_eq, Int.natCast_nonneg, true_and, and_true, Decidable.not_not, not_true_eq_false, not_false_eq_true] at hb0
    refine Tr.seq ?_
    refine Tr.region ?_
    refine TrL.stepS 2 (.plain rfl (.assign rfl (.of rfl))) rfl rfl ?_
    refine TrL.stepS 3 (.plain rfl (.assign rfl (.of rfl))) rfl rfl ?_
    refine TrL.nil ?_
    refine Fin.keepG (Γ' := [(2, _), (3, _)]) (.same rfl (.same rfl .nil)) ?_
    refine Fin.next ?_
    refine Tr.ret ?_
    refine Fin.thenRet ?_
    refine Fin.retI (rs := [_, _]) (Rs' := [is (.int .i64 (if n = -9223372036854775808 then 0 else if n < 0 then -n else n)), is (.bool (!decide (n = -9223372036854775808)))]) rfl (.cons (.tmp rfl) (.cons (.tmp rfl) .nil)) (.cons (L.iv ?_) (.cons (L.iv ?_) .nil))
    · rw [if_pos hb0]
    · simp [hb0]
  · try simp only [decide_eq_true_eq, decide_eq_false_iff_not, beq_iff_eq, beq_eq_false_iff_ne, bne_iff_ne, bne_eq_false_iff_eq, Bool.and_eq_true, Bool.and_eq_false_iff, Bool.or_eq_true, Bool.or_eq_false_iff, Bool.not_eq_true', Bool.not_eq_false', gt_iff_lt, ge_iff_le, Int.not_lt, Int.not_le, ne_eq, Int.natCast_nonneg, true_and, and_true, Decidable.not_not, not_true_eq_false, not_false_eq_true] at hb0
    refine Tr.skip ?_
    refine Fin.next ?_
    refine Tr.seq ?_
    refine Tr.region ?_
    refine TrL.stepS 6 (.plain rfl (.move rfl (.of rfl))) rfl rfl ?_
    refine TrL.stepS 7 (.plain rfl (.move rfl (.of rfl))) rfl rfl ?_
    refine TrL.stepS 8 (.plain rfl (.neg rfl (.of rfl))) rfl rfl ?_
    refine TrL.stepS 9 (.plain rfl (.max2 rfl (.of rfl) (.of rfl))) rfl rfl ?_
    refine TrL.stepS 2 (.plain rfl (.assign rfl (.of rfl))) rfl rfl ?_
    refine TrL.stepS 3 (.plain rfl (.assign rfl (.of rfl))) rfl rfl ?_
    refine TrL.nil ?_
    refine Fin.keepG (Γ' := [(2, _), (3, _)]) (.same rfl (.same rfl .nil)) ?_
    refine Fin.next ?_
    refine Tr.ret ?_
    refine Fin.retI (rs := [_, _]) (Rs' := [is (.int .i64 (if n = -9223372036854775808 then 0 else if n < 0 then -n else n)), is (.bool (!decide (n = -9223372036854775808)))]) rfl (.cons (.tmp rfl) (.cons (.tmp rfl) .nil)) (.cons (L.iv ?_) (.cons (L.iv ?_) .nil))
    · congr 1; rw [if_neg hb0, wrap_i64]; split <;> omega
    · simp [hb0]

end Go.Proofs.Ytemkogoclljhpaa