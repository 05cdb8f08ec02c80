import Derived.Test.YtemkogoclljhpaaLT
import Derived.Test.YtemkogoclljhpaaLS
namespace Go.Proofs.Ytemkogoclljhpaa
open Go Go.Proofs.Ytemkogoclljhpaa.L
set_option linter.unusedVariables false
set_option linter.unusedSimpArgs false

namespace T

end T


theorem wrap_i64 (n : Int) : IntKind.i64.wrap n = (n + 9223372036854775808) % 18446744073709551616 - 9223372036854775808 := by
  have e : IntKind.i64.wrap n = if n % 18446744073709551616 ≥ 9223372036854775808 then n % 18446744073709551616 - 18446744073709551616 else n % 18446744073709551616 := by
    simp [IntKind.wrap, IntKind.bits, IntKind.signed]
  rw [e]; split <;> omega
theorem wrap_u64 (n : Int) : IntKind.u64.wrap n = n % 18446744073709551616 := by
  simp [IntKind.wrap, IntKind.bits, IntKind.signed]
/-- does a number fit? -/
def fit (s : Int) : Bool := decide (-9223372036854775808 ≤ s ∧ s ≤ 9223372036854775807)
theorem fit_iff {s : Int} : fit s = true ↔ -9223372036854775808 ≤ s ∧ s ≤ 9223372036854775807 := by simp [fit]
def cl (s : Int) : Int := if fit s then s else 0
def lo (s : Int) : Int := (s + 9223372036854775808) % 18446744073709551616 - 9223372036854775808
def hi (s : Int) : Int := (s + 9223372036854775808) / 18446744073709551616
theorem ex_get {α : Type} {xs : List α} {i : Nat} (h : i < xs.length) : ∃ x, xs[i]? = some x := ⟨_, List.getElem?_eq_getElem h⟩
theorem take_snoc {α : Type} {xs : List α} {k : Nat} {x : α} (h : xs[k]? = some x) : xs.take (k + 1) = xs.take k ++ [x] := by
  have hk := getL_len h
  rw [List.take_succ_eq_append_getElem hk]
  rw [List.getElem?_eq_getElem hk] at h
  simp only [Option.some.injEq] at h
  rw [h]
theorem sum_take {xs : List Int} {k : Nat} {x : Int} (h : xs[k]? = some x) : (xs.take (k + 1)).sum = (xs.take k).sum + x := by
  rw [take_snoc h, List.sum_append]; simp
theorem sum_bd {xs : List Int} (h : ∀ x ∈ xs, -9223372036854775808 ≤ x ∧ x ≤ 9223372036854775807) : -((xs.length : Int) * 9223372036854775808) ≤ xs.sum ∧ xs.sum ≤ (xs.length : Int) * 9223372036854775808 := by
  induction xs with
  | nil => simp
  | cons x xs ih =>
    have h1 := h x (by simp)
    have h2 := ih fun y hy => h y (by simp [hy])
    simp only [List.sum_cons, List.length_cons]
    omega
theorem sum_bd' {xs : List Int} (k : Nat) (hl : xs.length ≤ 1000) (h : ∀ x ∈ xs, -9223372036854775808 ≤ x ∧ x ≤ 9223372036854775807) : -9223372036854775808000 ≤ (xs.take k).sum ∧ (xs.take k).sum ≤ 9223372036854775808000 := by
  have := sum_bd (xs := xs.take k) fun x hx => h x (List.mem_of_mem_take hx)
  have hk : (xs.take k).length ≤ 1000 := by rw [List.length_take]; omega
  omega

/- tidepool/num.Add -/
set_option maxRecDepth 100000 in
theorem F70 (a b : Int) (ha : -9223372036854775808 ≤ a ∧ a ≤ 9223372036854775807) (hb : -9223372036854775808 ≤ b ∧ b ≤ 9223372036854775807) : FnP Try.prog 70 [is (.int .i64 a), is (.int .i64 b)] (Tup [is (.int .i64 (cl (a + b))), is (.bool (fit (a + b)))]) := by
  refine FnP.mk' Try.func70 T.nm70 rfl (N := 23) rfl rfl fun B hB hκ => ?_
  refine Tr.seq ?_
  refine Tr.region ?_
  refine TrL.stepS 4 (.plain rfl (.assign rfl (.of rfl))) rfl rfl ?_
  refine TrL.stepS 5 (.plain rfl (.assign rfl (.of rfl))) rfl rfl ?_
  refine TrL.nil ?_
  refine Fin.keepG (Γ' := [(0, _), (1, _)]) (.same rfl (.same rfl .nil)) ?_
  refine Fin.next ?_
  refine Tr.seq ?_
  refine Tr.region ?_
  refine TrL.stepS 7 (.plain rfl (.move rfl (.of rfl))) rfl rfl ?_
  refine TrL.stepS 8 (.plain rfl (.move rfl (.of rfl))) rfl rfl ?_
  refine TrL.stepS 9 (.plain rfl (.add rfl (.of rfl) (.of rfl))) rfl rfl ?_
  refine TrL.stepS 6 (.plain rfl (.assign rfl (.of rfl))) rfl rfl ?_
  refine TrL.nil ?_
  refine Fin.keepG (Γ' := [(0, _), (1, _), (6, _)]) (.same rfl (.same rfl (.same rfl .nil))) ?_
  refine Fin.next ?_
  refine Tr.seq ?_
  refine Tr.seq ?_
  refine Tr.region ?_
  refine TrL.stepS 10 (.plain rfl (.move rfl (.of rfl))) rfl rfl ?_
  refine TrL.stepS 11 (.plain rfl (.geq rfl (.of rfl) (.of rfl))) rfl rfl ?_
  refine TrL.stepS 12 (.plain rfl (.move rfl (.of rfl))) rfl rfl ?_
  refine TrL.stepS 13 (.plain rfl (.geq rfl (.of rfl) (.of rfl))) rfl rfl ?_
  refine TrL.stepS 14 (.plain rfl (.eqlB rfl (.of rfl) (.of rfl) Try.underlying4)) rfl rfl ?_
  refine TrL.stepS 15 (.plain rfl (.move rfl (.of rfl))) rfl rfl ?_
  refine TrL.stepS 16 (.guarded rfl rfl rfl fun hg => .move rfl (.of rfl)) rfl rfl ?_
  refine TrL.stepS 17 (.guarded rfl rfl rfl fun hg => .geq rfl (.cond rfl hg) (.of rfl)) rfl rfl ?_
  refine TrL.stepS 18 (.guarded rfl rfl rfl fun hg => .move rfl (.of rfl)) rfl rfl ?_
  refine TrL.stepS 19 (.guarded rfl rfl rfl fun hg => .geq rfl (.cond rfl hg) (.of rfl)) rfl rfl ?_
  refine TrL.stepS 20 (.guarded rfl rfl rfl fun hg => .neqB rfl (.cond rfl hg) (.cond rfl hg) Try.underlying4) rfl rfl ?_
  refine TrL.stepS 21 (.plain rfl (.and rfl (.of rfl) (.cond rfl fun h => h))) rfl rfl ?_
  refine TrL.nil ?_
  refine Fin.keepG (Γ' := [(6, _), (21, _)]) (.same rfl (.same rfl .nil)) ?_
  refine Fin.next ?_
  refine Tr.cond rfl (fun hb0 => ?_) (fun hb0 => ?_)
  · try simp only [decide_eq_true_eq, decide_eq_false_iff_not, beq_iff_eq, beq_eq_false_iff_ne, bne_iff_ne, bne_eq_false_iff_eq, Bool.and_eq_true, Bool.and_eq_false_iff, Bool.or_eq_true, Bool.or_eq_false_iff, Bool.not_eq_true', Bool.not_eq_false', gt_iff_lt, ge_iff_le, Int.not_lt, Int.not_le, ne_eq, Int.natCast_nonneg, true_and, and_true, Decidable.not_not, not_true_eq_false, not_false_eq_true] at hb0
    simp [wrap_i64] at hb0
    refine Tr.seq ?_
    refine Tr.region ?_
    refine TrL.stepS 4 (.plain rfl (.assign rfl (.of rfl))) rfl rfl ?_
    refine TrL.stepS 5 (.plain rfl (.assign rfl (.of rfl))) rfl rfl ?_
    refine TrL.nil ?_
    refine Fin.keepG (Γ' := [(4, _), (5, _)]) (.same rfl (.same rfl .nil)) ?_
    refine Fin.next ?_
    refine Tr.ret ?_
    refine Fin.thenRet ?_
    refine Fin.retI (rs := [_, _]) (Rs' := [is (.int .i64 (cl (a + b))), is (.bool (fit (a + b)))]) rfl (.cons (.tmp rfl) (.cons (.tmp rfl) .nil)) (.cons (L.iv ?_) (.cons (L.iv ?_) .nil))
    · have e : fit (a + b) = false := by (cases h : fit (a + b) with | false => rfl | true => (rw [fit_iff] at h; (try simp only [wrap_i64, wrap_u64] at *); omega))
      simp [cl, e]
    · have e : fit (a + b) = false := by (cases h : fit (a + b) with | false => rfl | true => (rw [fit_iff] at h; (try simp only [wrap_i64, wrap_u64] at *); omega))
      rw [e]
  · try simp only [decide_eq_true_eq, decide_eq_false_iff_not, beq_iff_eq, beq_eq_false_iff_ne, bne_iff_ne, bne_eq_false_iff_eq, Bool.and_eq_true, Bool.and_eq_false_iff, Bool.or_eq_true, Bool.or_eq_false_iff, Bool.not_eq_true', Bool.not_eq_false', gt_iff_lt, ge_iff_le, Int.not_lt, Int.not_le, ne_eq, Int.natCast_nonneg, true_and, and_true, Decidable.not_not, not_true_eq_false, not_false_eq_true] at hb0
    simp [wrap_i64] at hb0
    refine Tr.skip ?_
    refine Fin.next ?_
    refine Tr.seq ?_
    refine Tr.region ?_
    refine TrL.stepS 22 (.plain rfl (.move rfl (.of rfl))) rfl rfl ?_
    refine TrL.stepS 4 (.plain rfl (.assign rfl (.of rfl))) rfl rfl ?_
    refine TrL.stepS 5 (.plain rfl (.assign rfl (.of rfl))) rfl rfl ?_
    refine TrL.nil ?_
    refine Fin.keepG (Γ' := [(4, _), (5, _)]) (.same rfl (.same rfl .nil)) ?_
    refine Fin.next ?_
    refine Tr.ret ?_
    refine Fin.retI (rs := [_, _]) (Rs' := [is (.int .i64 (cl (a + b))), is (.bool (fit (a + b)))]) rfl (.cons (.tmp rfl) (.cons (.tmp rfl) .nil)) (.cons (L.iv ?_) (.cons (L.iv ?_) .nil))
    · have e : fit (a + b) = true := by (rw [fit_iff]; (try simp only [wrap_i64, wrap_u64] at *); omega)
      simp only [cl, e, if_true]; (try simp only [wrap_i64, wrap_u64]); (try congr 1); (try omega)
    · have e : fit (a + b) = true := by (rw [fit_iff]; (try simp only [wrap_i64, wrap_u64] at *); omega)
      rw [e]

/- tidepool/num.Sub -/
set_option maxRecDepth 100000 in
theorem F71 (a b : Int) (ha : -9223372036854775808 ≤ a ∧ a ≤ 9223372036854775807) (hb : -9223372036854775808 ≤ b ∧ b ≤ 9223372036854775807) : FnP Try.prog 71 [is (.int .i64 a), is (.int .i64 b)] (Tup [is (.int .i64 (cl (a - b))), is (.bool (fit (a - b)))]) := by
  refine FnP.mk' Try.func71 T.nm71 rfl (N := 23) rfl rfl fun B hB hκ => ?_
  refine Tr.seq ?_
  refine Tr.region ?_
  refine TrL.stepS 4 (.plain rfl (.assign rfl (.of rfl))) rfl rfl ?_
  refine TrL.stepS 5 (.plain rfl (.assign rfl (.of rfl))) rfl rfl ?_
  refine TrL.nil ?_
  refine Fin.keepG (Γ' := [(0, _), (1, _)]) (.same rfl (.same rfl .nil)) ?_
  refine Fin.next ?_
  refine Tr.seq ?_
  refine Tr.region ?_
  refine TrL.stepS 7 (.plain rfl (.move rfl (.of rfl))) rfl rfl ?_
  refine TrL.stepS 8 (.plain rfl (.move rfl (.of rfl))) rfl rfl ?_
  refine TrL.stepS 9 (.plain rfl (.sub rfl (.of rfl) (.of rfl))) rfl rfl ?_
  refine TrL.stepS 6 (.plain rfl (.assign rfl (.of rfl))) rfl rfl ?_
  refine TrL.nil ?_
  refine Fin.keepG (Γ' := [(0, _), (1, _), (6, _)]) (.same rfl (.same rfl (.same rfl .nil))) ?_
  refine Fin.next ?_
  refine Tr.seq ?_
  refine Tr.seq ?_
  refine Tr.region ?_
  refine TrL.stepS 10 (.plain rfl (.move rfl (.of rfl))) rfl rfl ?_
  refine TrL.stepS 11 (.plain rfl (.geq rfl (.of rfl) (.of rfl))) rfl rfl ?_
  refine TrL.stepS 12 (.plain rfl (.move rfl (.of rfl))) rfl rfl ?_
  refine TrL.stepS 13 (.plain rfl (.geq rfl (.of rfl) (.of rfl))) rfl rfl ?_
  refine TrL.stepS 14 (.plain rfl (.neqB rfl (.of rfl) (.of rfl) Try.underlying4)) rfl rfl ?_
  refine TrL.stepS 15 (.plain rfl (.move rfl (.of rfl))) rfl rfl ?_
  refine TrL.stepS 16 (.guarded rfl rfl rfl fun hg => .move rfl (.of rfl)) rfl rfl ?_
  refine TrL.stepS 17 (.guarded rfl rfl rfl fun hg => .geq rfl (.cond rfl hg) (.of rfl)) rfl rfl ?_
  refine TrL.stepS 18 (.guarded rfl rfl rfl fun hg => .move rfl (.of rfl)) rfl rfl ?_
  refine TrL.stepS 19 (.guarded rfl rfl rfl fun hg => .geq rfl (.cond rfl hg) (.of rfl)) rfl rfl ?_
  refine TrL.stepS 20 (.guarded rfl rfl rfl fun hg => .neqB rfl (.cond rfl hg) (.cond rfl hg) Try.underlying4) rfl rfl ?_
  refine TrL.stepS 21 (.plain rfl (.and rfl (.of rfl) (.cond rfl fun h => h))) rfl rfl ?_
  refine TrL.nil ?_
  refine Fin.keepG (Γ' := [(6, _), (21, _)]) (.same rfl (.same rfl .nil)) ?_
  refine Fin.next ?_
  refine Tr.cond rfl (fun hb0 => ?_) (fun hb0 => ?_)
  · try simp only [decide_eq_true_eq, decide_eq_false_iff_not, beq_iff_eq, beq_eq_false_iff_ne, bne_iff_ne, bne_eq_false_iff_eq, Bool.and_eq_true, Bool.and_eq_false_iff, Bool.or_eq_true, Bool.or_eq_false_iff, Bool.not_eq_true', Bool.not_eq_false', gt_iff_lt, ge_iff_le, Int.not_lt, Int.not_le, ne_eq, Int.natCast_nonneg, true_and, and_true, Decidable.not_not, not_true_eq_false, not_false_eq_true] at hb0
    simp [wrap_i64] at hb0
    refine Tr.seq ?_
    refine Tr.region ?_
    refine TrL.stepS 4 (.plain rfl (.assign rfl (.of rfl))) rfl rfl ?_
    refine TrL.stepS 5 (.plain rfl (.assign rfl (.of rfl))) rfl rfl ?_
    refine TrL.nil ?_
    refine Fin.keepG (Γ' := [(4, _), (5, _)]) (.same rfl (.same rfl .nil)) ?_
    refine Fin.next ?_
    refine Tr.ret ?_
    refine Fin.thenRet ?_
    refine Fin.retI (rs := [_, _]) (Rs' := [is (.int .i64 (cl (a - b))), is (.bool (fit (a - b)))]) rfl (.cons (.tmp rfl) (.cons (.tmp rfl) .nil)) (.cons (L.iv ?_) (.cons (L.iv ?_) .nil))
    · have e : fit (a - b) = false := by (cases h : fit (a - b) with | false => rfl | true => (rw [fit_iff] at h; (try simp only [wrap_i64, wrap_u64] at *); omega))
      simp [cl, e]
    · have e : fit (a - b) = false := by (cases h : fit (a - b) with | false => rfl | true => (rw [fit_iff] at h; (try simp only [wrap_i64, wrap_u64] at *); omega))
      rw [e]
  · try simp only [decide_eq_true_eq, decide_eq_false_iff_not, beq_iff_eq, beq_eq_false_iff_ne, bne_iff_ne, bne_eq_false_iff_eq, Bool.and_eq_true, Bool.and_eq_false_iff, Bool.or_eq_true, Bool.or_eq_false_iff, Bool.not_eq_true', Bool.not_eq_false', gt_iff_lt, ge_iff_le, Int.not_lt, Int.not_le, ne_eq, Int.natCast_nonneg, true_and, and_true, Decidable.not_not, not_true_eq_false, not_false_eq_true] at hb0
    simp [wrap_i64] at hb0
    refine Tr.skip ?_
    refine Fin.next ?_
    refine Tr.seq ?_
    refine Tr.region ?_
    refine TrL.stepS 22 (.plain rfl (.move rfl (.of rfl))) rfl rfl ?_
    refine TrL.stepS 4 (.plain rfl (.assign rfl (.of rfl))) rfl rfl ?_
    refine TrL.stepS 5 (.plain rfl (.assign rfl (.of rfl))) rfl rfl ?_
    refine TrL.nil ?_
    refine Fin.keepG (Γ' := [(4, _), (5, _)]) (.same rfl (.same rfl .nil)) ?_
    refine Fin.next ?_
    refine Tr.ret ?_
    refine Fin.retI (rs := [_, _]) (Rs' := [is (.int .i64 (cl (a - b))), is (.bool (fit (a - b)))]) rfl (.cons (.tmp rfl) (.cons (.tmp rfl) .nil)) (.cons (L.iv ?_) (.cons (L.iv ?_) .nil))
    · have e : fit (a - b) = true := by (rw [fit_iff]; (try simp only [wrap_i64, wrap_u64] at *); omega)
      simp only [cl, e, if_true]; (try simp only [wrap_i64, wrap_u64]); (try congr 1); (try omega)
    · have e : fit (a - b) = true := by (rw [fit_iff]; (try simp only [wrap_i64, wrap_u64] at *); omega)
      rw [e]

/- tidepool/num.Clamp -/
set_option maxRecDepth 100000 in
theorem F77 (n l m : Int) : FnP Try.prog 77 [is (.int .i64 n), is (.int .i64 l), is (.int .i64 m)] (is (.int .i64 (max l (min n m)))) := by
  refine FnP.mk' Try.func77 T.nm77 rfl (N := 12) rfl rfl fun B hB hκ => ?_
  refine Tr.seq ?_
  refine Tr.region ?_
  refine TrL.stepS 6 (.plain rfl (.assign rfl (.of rfl))) rfl rfl ?_
  refine TrL.nil ?_
  refine Fin.keepG (Γ' := [(0, _), (1, _), (2, _)]) (.same rfl (.same rfl (.same rfl .nil))) ?_
  refine Fin.next ?_
  refine Tr.seq ?_
  refine Tr.region ?_
  refine TrL.stepS 7 (.plain rfl (.move rfl (.of rfl))) rfl rfl ?_
  refine TrL.stepS 8 (.plain rfl (.move rfl (.of rfl))) rfl rfl ?_
  refine TrL.stepS 9 (.plain rfl (.move rfl (.of rfl))) rfl rfl ?_
  refine TrL.stepS 10 (.plain rfl (.min2 rfl (.of rfl) (.of rfl))) rfl rfl ?_
  refine TrL.stepS 11 (.plain rfl (.max2 rfl (.of rfl) (.of rfl))) rfl rfl ?_
  refine TrL.stepS 6 (.plain rfl (.assign rfl (.of rfl))) rfl rfl ?_
  refine TrL.nil ?_
  refine Fin.keepG (Γ' := [(6, _)]) (.same rfl .nil) ?_
  refine Fin.next ?_
  refine Tr.ret ?_
  exact Fin.retI (rs := [_]) (Rs' := [is (.int .i64 (max l (min n m)))]) rfl (.cons (.tmp rfl) .nil) (.cons (L.iv rfl) .nil)

/- (*tidepool/tidepooltop.big33).put -/
set_option maxRecDepth 100000 in
theorem F83 (b : Nat) (S v : Int) (hS : -9223372036854775808000000 ≤ S ∧ S ≤ 9223372036854775808000000) (hv : -9223372036854775808 ≤ v ∧ v ≤ 9223372036854775807) : FnG Try.prog 83 [is (.pointer (some ⟨b, 0, none⟩)), is (.int .i64 v)] [] [Blk b [.int .i64 (S / 18446744073709551616), .int .u64 (S % 18446744073709551616)] 130] (γ := Unit) (fun _ => Tup []) (fun _ => [Blk b [.int .i64 ((S + v) / 18446744073709551616), .int .u64 ((S + v) % 18446744073709551616)] 130]) := by
  refine FnG.mk' Try.func83 T.nm83 rfl (N := 40) rfl rfl (t := 2) rfl fun B => ?_
  refine Tr.seq ?_
  refine Tr.region ?_
  refine TrL.stepS 5 (.plain rfl (.move rfl (.of rfl))) rfl rfl ?_
  refine TrL.stepS 6 (.plain rfl (.nilCheckP rfl (.of rfl))) rfl rfl ?_
  refine TrL.stepS 7 (.plain rfl (.fieldP rfl (.of rfl) T.fl130_1)) rfl rfl ?_
  refine TrL.stepS 8 (.plain rfl (.loadB 2 rfl (.of rfl) rfl rfl rfl T.sc55)) rfl rfl ?_
  refine TrL.stepS 4 (.plain rfl (.assign rfl (.of rfl))) rfl rfl ?_
  refine TrL.nil ?_
  refine Fin.keepG (Γ' := [(0, _), (1, _), (4, _)]) (.same rfl (.same rfl (.same rfl .nil))) ?_
  refine Fin.next ?_
  refine Tr.seq ?_
  refine Tr.region ?_
  refine TrL.stepS 9 (.plain rfl (.move rfl (.of rfl))) rfl rfl ?_
  refine TrL.stepS 10 (.plain rfl (.nilCheckP rfl (.of rfl))) rfl rfl ?_
  refine TrL.stepS 11 (.plain rfl (.fieldP rfl (.of rfl) T.fl130_1)) rfl rfl ?_
  refine TrL.stepS 12 (.plain rfl (.loadB 2 rfl (.of rfl) rfl rfl rfl T.sc55)) rfl rfl ?_
  refine TrL.stepS 13 (.plain rfl (.move rfl (.of rfl))) rfl rfl ?_
  refine TrL.stepS 14 (.plain rfl (.conv rfl (.of rfl) T.us2 Try.underlying55)) rfl rfl ?_
  refine TrL.stepS 15 (.plain rfl (.add rfl (.of rfl) (.of rfl))) rfl rfl ?_
  refine TrL.stepS 16 (.plain rfl (.nilCheckP rfl (.of rfl))) rfl rfl ?_
  refine TrL.stepS 17 (.plain rfl (.fieldP rfl (.of rfl) T.fl130_1)) rfl rfl ?_
  refine TrL.store1 2 rfl rfl rfl (.of rfl) (.of rfl) rfl rfl rfl T.sz55 rfl rfl ?_
  refine TrL.nil ?_
  refine Fin.keepG (Γ' := [(0, _), (1, _), (4, _)]) (.same rfl (.same rfl (.same rfl .nil))) ?_
  refine Fin.next ?_
  refine Tr.seqJK (γ := Unit) (Γk := [(0, _), (1, _)]) (Mk := []) (.same rfl (.same rfl .nil)) .nil (fun _ => True) (fun _ => fun r => (2, Blk b [.int .i64 ((S + v) / 18446744073709551616 + if v < 0 then 1 else 0), .int .u64 ((S + v) % 18446744073709551616)] 130) :: r) (fun _ => fun r => r) ?jx4 ?jk4
  case jx4 =>
    refine Tr.seq ?_
    refine Tr.region ?_
    refine TrL.stepS 18 (.plain rfl (.move rfl (.of rfl))) rfl rfl ?_
    refine TrL.stepS 19 (.plain rfl (.nilCheckP rfl (.of rfl))) rfl rfl ?_
    refine TrL.stepS 20 (.plain rfl (.fieldP rfl (.of rfl) T.fl130_1)) rfl rfl ?_
    refine TrL.stepS 21 (.plain rfl (.loadB 2 rfl (.of rfl) rfl rfl rfl T.sc55)) rfl rfl ?_
    refine TrL.stepS 22 (.plain rfl (.move rfl (.of rfl))) rfl rfl ?_
    refine TrL.stepS 23 (.plain rfl (.lss rfl (.of rfl) (.of rfl))) rfl rfl ?_
    refine TrL.nil ?_
    refine Fin.keepG (Γ' := [(0, _), (1, _), (23, _)]) (.same rfl (.same rfl (.same rfl .nil))) ?_
    refine Fin.next ?_
    refine Tr.cond rfl (fun hb0 => ?_) (fun hb0 => ?_)
    · try simp only [decide_eq_true_eq, decide_eq_false_iff_not, beq_iff_eq, beq_eq_false_iff_ne, bne_iff_ne, bne_eq_false_iff_eq, Bool.and_eq_true, Bool.and_eq_false_iff, Bool.or_eq_true, Bool.or_eq_false_iff, Bool.not_eq_true', Bool.not_eq_false', gt_iff_lt, ge_iff_le, Int.not_lt, Int.not_le, ne_eq, Int.natCast_nonneg, true_and, and_true, Decidable.not_not, not_true_eq_false, not_false_eq_true] at hb0
      refine Tr.region ?_
      refine TrL.stepS 24 (.plain rfl (.move rfl (.of rfl))) rfl rfl ?_
      refine TrL.stepS 25 (.plain rfl (.nilCheckP rfl (.of rfl))) rfl rfl ?_
      refine TrL.stepS 26 (.plain rfl (.fieldP rfl (.of rfl) T.fl130_0)) rfl rfl ?_
      refine TrL.stepS 27 (.plain rfl (.loadB 2 rfl (.of rfl) rfl rfl rfl T.sc2)) rfl rfl ?_
      refine TrL.stepS 28 (.plain rfl (.addI L.bd_i64 rfl (.of rfl) (.of rfl) (by omega) (by omega))) rfl rfl ?_
      refine TrL.stepS 29 (.plain rfl (.nilCheckP rfl (.of rfl))) rfl rfl ?_
      refine TrL.stepS 30 (.plain rfl (.fieldP rfl (.of rfl) T.fl130_0)) rfl rfl ?_
      refine TrL.store1 2 rfl rfl rfl (.of rfl) (.of rfl) rfl rfl rfl T.sz2 rfl rfl ?_
      refine TrL.nil ?_
      refine Fin.keepG (Γ' := [(0, _), (1, _)]) (.same rfl (.same rfl .nil)) ?_
      exact Fin.reach (()) (trivial) (.cons rfl (fun F L w h => by have e1 : (S + v) / 18446744073709551616 + (if v < 0 then 1 else 0) = S / 18446744073709551616 + 1 := (by simp only [wrap_i64, wrap_u64] at hb0; split <;> omega); have e2 : (S + v) % 18446744073709551616 = IntKind.u64.wrap (S % 18446744073709551616 + IntKind.u64.wrap v) := (by simp only [wrap_u64]; omega); rw [e1, e2]; exact h) .nil) (.same rfl (.same rfl .nil))
    · try simp only [decide_eq_true_eq, decide_eq_false_iff_not, beq_iff_eq, beq_eq_false_iff_ne, bne_iff_ne, bne_eq_false_iff_eq, Bool.and_eq_true, Bool.and_eq_false_iff, Bool.or_eq_true, Bool.or_eq_false_iff, Bool.not_eq_true', Bool.not_eq_false', gt_iff_lt, ge_iff_le, Int.not_lt, Int.not_le, ne_eq, Int.natCast_nonneg, true_and, and_true, Decidable.not_not, not_true_eq_false, not_false_eq_true] at hb0
      refine Tr.skip ?_
      exact Fin.reach (()) (trivial) (.cons rfl (fun F L w h => by have e1 : (S + v) / 18446744073709551616 + (if v < 0 then 1 else 0) = S / 18446744073709551616 := (by simp only [wrap_i64, wrap_u64] at hb0; split <;> omega); have e2 : (S + v) % 18446744073709551616 = IntKind.u64.wrap (S % 18446744073709551616 + IntKind.u64.wrap v) := (by simp only [wrap_u64]; omega); rw [e1, e2]; exact h) .nil) (.same rfl (.same rfl .nil))
  case jk4 =>
    intro _ hI
    refine Tr.seq ?_
    refine Tr.region ?_
    refine TrL.stepS 31 (.plain rfl (.move rfl (.of rfl))) rfl rfl ?_
    refine TrL.stepS 32 (.plain rfl (.lss rfl (.of rfl) (.of rfl))) rfl rfl ?_
    refine TrL.nil ?_
    refine Fin.keepG (Γ' := [(0, _), (32, _)]) (.same rfl (.same rfl .nil)) ?_
    refine Fin.next ?_
    refine Tr.cond rfl (fun hb1 => ?_) (fun hb1 => ?_)
    · try simp only [decide_eq_true_eq, decide_eq_false_iff_not, beq_iff_eq, beq_eq_false_iff_ne, bne_iff_ne, bne_eq_false_iff_eq, Bool.and_eq_true, Bool.and_eq_false_iff, Bool.or_eq_true, Bool.or_eq_false_iff, Bool.not_eq_true', Bool.not_eq_false', gt_iff_lt, ge_iff_le, Int.not_lt, Int.not_le, ne_eq, Int.natCast_nonneg, true_and, and_true, Decidable.not_not, not_true_eq_false, not_false_eq_true] at hb1
      refine Tr.region ?_
      refine TrL.stepS 33 (.plain rfl (.move rfl (.of rfl))) rfl rfl ?_
      refine TrL.stepS 34 (.plain rfl (.nilCheckP rfl (.of rfl))) rfl rfl ?_
      refine TrL.stepS 35 (.plain rfl (.fieldP rfl (.of rfl) T.fl130_0)) rfl rfl ?_
      refine TrL.stepS 36 (.plain rfl (.loadB 2 rfl (.of rfl) rfl rfl rfl T.sc2)) rfl rfl ?_
      refine TrL.stepS 37 (.plain rfl (.subI L.bd_i64 rfl (.of rfl) (.of rfl) (by omega) (by omega))) rfl rfl ?_
      refine TrL.stepS 38 (.plain rfl (.nilCheckP rfl (.of rfl))) rfl rfl ?_
      refine TrL.stepS 39 (.plain rfl (.fieldP rfl (.of rfl) T.fl130_0)) rfl rfl ?_
      refine TrL.store1 2 rfl rfl rfl (.of rfl) (.of rfl) rfl rfl rfl T.sz2 rfl rfl ?_
      refine TrL.nil ?_
      refine Fin.keepG (Γ' := []) .nil ?_
      exact Fin.retGIN 2 rfl (()) [2] (rs := []) rfl .nil .nil rfl (.cons rfl (fun F L w h => by rw [if_pos hb1] at h; simpa using h) .nil) rfl
    · try simp only [decide_eq_true_eq, decide_eq_false_iff_not, beq_iff_eq, beq_eq_false_iff_ne, bne_iff_ne, bne_eq_false_iff_eq, Bool.and_eq_true, Bool.and_eq_false_iff, Bool.or_eq_true, Bool.or_eq_false_iff, Bool.not_eq_true', Bool.not_eq_false', gt_iff_lt, ge_iff_le, Int.not_lt, Int.not_le, ne_eq, Int.natCast_nonneg, true_and, and_true, Decidable.not_not, not_true_eq_false, not_false_eq_true] at hb1
      refine Tr.skip ?_
      exact Fin.retGIN 2 rfl (()) [2] (rs := []) rfl .nil .nil rfl (.cons rfl (fun F L w h => by rw [if_neg (by omega)] at h; simpa using h) .nil) rfl

/- (*tidepool/tidepooltop.big33).fits -/
set_option maxRecDepth 100000 in
theorem F84 (b : Nat) (S : Int) (hS : -9223372036854775808000000 ≤ S ∧ S ≤ 9223372036854775808000000) : FnG Try.prog 84 [is (.pointer (some ⟨b, 0, none⟩))] [Blk b [.int .i64 (S / 18446744073709551616), .int .u64 (S % 18446744073709551616)] 130] [] (γ := Unit) (fun _ => Tup [is (.int .i64 (cl (S))), is (.bool (fit (S)))]) (fun _ => []) := by
  refine FnG.mk' Try.func84 T.nm84 rfl (N := 35) rfl rfl (t := 3) rfl fun B => ?_
  refine Tr.seq ?_
  refine Tr.region ?_
  refine TrL.stepS 2 (.plain rfl (.assign rfl (.of rfl))) rfl rfl ?_
  refine TrL.stepS 3 (.plain rfl (.assign rfl (.of rfl))) rfl rfl ?_
  refine TrL.nil ?_
  refine Fin.keepG (Γ' := [(0, _)]) (.same rfl .nil) ?_
  refine Fin.next ?_
  refine Tr.seq ?_
  refine Tr.seq ?_
  refine Tr.region ?_
  refine TrL.stepS 4 (.plain rfl (.move rfl (.of rfl))) rfl rfl ?_
  refine TrL.stepS 5 (.plain rfl (.nilCheckP rfl (.of rfl))) rfl rfl ?_
  refine TrL.stepS 6 (.plain rfl (.fieldP rfl (.of rfl) T.fl130_0)) rfl rfl ?_
  refine TrL.stepS 7 (.plain rfl (.loadB 2 rfl (.of rfl) rfl rfl rfl T.sc2)) rfl rfl ?_
  refine TrL.stepS 8 (.plain rfl (.eql rfl (.of rfl) (.of rfl))) rfl rfl ?_
  refine TrL.stepS 9 (.plain rfl (.move rfl (.of rfl))) rfl rfl ?_
  refine TrL.stepS 10 (.guarded rfl rfl rfl fun hg => .move rfl (.of rfl)) rfl rfl ?_
  refine TrL.stepS 11 (.guarded rfl rfl rfl fun hg => .nilCheckP rfl (.cond rfl hg)) rfl rfl ?_
  refine TrL.stepS 12 (.guarded rfl rfl rfl fun hg => .fieldP rfl (.cond rfl hg) T.fl130_1) rfl rfl ?_
  refine TrL.stepS 13 (.guarded rfl rfl rfl fun hg => .loadB 2 rfl (.cond rfl hg) rfl rfl rfl T.sc55) rfl rfl ?_
  refine TrL.stepS 14 (.guarded rfl rfl rfl fun hg => .lss rfl (.cond rfl hg) (.of rfl)) rfl rfl ?_
  refine TrL.stepS 15 (.plain rfl (.and rfl (.of rfl) (.cond rfl fun h => h))) rfl rfl ?_
  refine TrL.stepS 16 (.plain rfl (.move rfl (.of rfl))) rfl rfl ?_
  refine TrL.stepS 17 (.guarded rfl rfl rfl fun hg => .move rfl (.of rfl)) rfl rfl ?_
  refine TrL.stepS 18 (.guarded rfl rfl rfl fun hg => .nilCheckP rfl (.cond rfl hg)) rfl rfl ?_
  refine TrL.stepS 19 (.guarded rfl rfl rfl fun hg => .fieldP rfl (.cond rfl hg) T.fl130_0) rfl rfl ?_
  refine TrL.stepS 20 (.guarded rfl rfl rfl fun hg => .loadB 2 rfl (.cond rfl hg) rfl rfl rfl T.sc2) rfl rfl ?_
  refine TrL.stepS 21 (.guarded rfl rfl rfl fun hg => .eql rfl (.cond rfl hg) (.of rfl)) rfl rfl ?_
  refine TrL.stepS 22 (.guarded rfl rfl rfl fun hg => .move rfl (.cond rfl hg)) rfl rfl ?_
  refine TrL.stepS 23 (.guarded2 rfl rfl rfl fun hp hg => .move rfl (.of rfl)) rfl rfl ?_
  refine TrL.stepS 24 (.guarded2 rfl rfl rfl fun hp hg => .nilCheckP rfl (.cond rfl ⟨hp, hg⟩)) rfl rfl ?_
  refine TrL.stepS 25 (.guarded2 rfl rfl rfl fun hp hg => .fieldP rfl (.cond rfl ⟨hp, hg⟩) T.fl130_1) rfl rfl ?_
  refine TrL.stepS 26 (.guarded2 rfl rfl rfl fun hp hg => .loadB 2 rfl (.cond rfl ⟨hp, hg⟩) rfl rfl rfl T.sc55) rfl rfl ?_
  refine TrL.stepS 27 (.guarded2 rfl rfl rfl fun hp hg => .geq rfl (.cond rfl ⟨hp, hg⟩) (.of rfl)) rfl rfl ?_
  refine TrL.stepS 28 (.guarded rfl rfl rfl fun hg => .and rfl (.cond rfl hg) (.cond rfl fun h => ⟨hg, h⟩)) rfl rfl ?_
  refine TrL.stepS 29 (.plain rfl (.or rfl (.of rfl) (.cond rfl fun h => h))) rfl rfl ?_
  refine TrL.nil ?_
  refine Fin.keepG (Γ' := [(0, _), (29, _)]) (.same rfl (.same rfl .nil)) ?_
  refine Fin.next ?_
  refine Tr.cond rfl (fun hb0 => ?_) (fun hb0 => ?_)
  · try simp only [decide_eq_true_eq, decide_eq_false_iff_not, beq_iff_eq, beq_eq_false_iff_ne, bne_iff_ne, bne_eq_false_iff_eq, Bool.and_eq_true, Bool.and_eq_false_iff, Bool.or_eq_true, Bool.or_eq_false_iff, Bool.not_eq_true', Bool.not_eq_false', gt_iff_lt, ge_iff_le, Int.not_lt, Int.not_le, ne_eq, Int.natCast_nonneg, true_and, and_true, Decidable.not_not, not_true_eq_false, not_false_eq_true] at hb0
    refine Tr.seq ?_
    refine Tr.region ?_
    refine TrL.stepS 30 (.plain rfl (.move rfl (.of rfl))) rfl rfl ?_
    refine TrL.stepS 31 (.plain rfl (.nilCheckP rfl (.of rfl))) rfl rfl ?_
    refine TrL.stepS 32 (.plain rfl (.fieldP rfl (.of rfl) T.fl130_1)) rfl rfl ?_
    refine TrL.stepS 33 (.plain rfl (.loadB 2 rfl (.of rfl) rfl rfl rfl T.sc55)) rfl rfl ?_
    refine TrL.stepS 34 (.plain rfl (.conv rfl (.of rfl) T.us55 Try.underlying2)) rfl rfl ?_
    refine TrL.stepS 2 (.plain rfl (.assign rfl (.of rfl))) rfl rfl ?_
    refine TrL.stepS 3 (.plain rfl (.assign rfl (.of rfl))) rfl rfl ?_
    refine TrL.nil ?_
    refine Fin.keepG (Γ' := [(2, _), (3, _)]) (.same rfl (.same rfl .nil)) ?_
    refine Fin.next ?_
    refine Tr.ret ?_
    refine Fin.thenRet ?_
    refine Fin.retGI 3 rfl (()) [] (rs := [_, _]) rfl (.cons (.tmp rfl) (.cons (.tmp rfl) .nil)) (.cons (L.iv ?_) (.cons (L.iv ?_) .nil)) rfl (.nil) rfl
    · have e : fit (S) = true := by (rw [fit_iff]; (try simp only [wrap_i64, wrap_u64] at *); omega)
      simp only [cl, e, if_true]; (try simp only [wrap_i64, wrap_u64]); (try congr 1); (try omega)
    · have e : fit (S) = true := by (rw [fit_iff]; (try simp only [wrap_i64, wrap_u64] at *); omega)
      rw [e]
  · try simp only [decide_eq_true_eq, decide_eq_false_iff_not, beq_iff_eq, beq_eq_false_iff_ne, bne_iff_ne, bne_eq_false_iff_eq, Bool.and_eq_true, Bool.and_eq_false_iff, Bool.or_eq_true, Bool.or_eq_false_iff, Bool.not_eq_true', Bool.not_eq_false', gt_iff_lt, ge_iff_le, Int.not_lt, Int.not_le, ne_eq, Int.natCast_nonneg, true_and, and_true, Decidable.not_not, not_true_eq_false, not_false_eq_true] at hb0
    refine Tr.skip ?_
    refine Fin.next ?_
    refine Tr.seq ?_
    refine Tr.region ?_
    refine TrL.stepS 2 (.plain rfl (.assign rfl (.of rfl))) rfl rfl ?_
    refine TrL.stepS 3 (.plain rfl (.assign rfl (.of rfl))) rfl rfl ?_
    refine TrL.nil ?_
    refine Fin.keepG (Γ' := [(2, _), (3, _)]) (.same rfl (.same rfl .nil)) ?_
    refine Fin.next ?_
    refine Tr.ret ?_
    refine Fin.retGI 3 rfl (()) [] (rs := [_, _]) rfl (.cons (.tmp rfl) (.cons (.tmp rfl) .nil)) (.cons (L.iv ?_) (.cons (L.iv ?_) .nil)) rfl (.nil) rfl
    · have e : fit (S) = false := by (cases h : fit (S) with | false => rfl | true => (rw [fit_iff] at h; (try simp only [wrap_i64, wrap_u64] at *); omega))
      simp [cl, e]
    · have e : fit (S) = false := by (cases h : fit (S) with | false => rfl | true => (rw [fit_iff] at h; (try simp only [wrap_i64, wrap_u64] at *); omega))
      rw [e]

/- tidepool/tidepooltop.added33 -/
set_option maxRecDepth 100000 in
theorem F82 (xs : List Int) (hl : xs.length ≤ 1000) (hx0 : ∀ x ∈ xs, -9223372036854775808 ≤ x ∧ x ≤ 9223372036854775807) : FnP Try.prog 82 [Lst (intR .i64) xs] (Tup [is (.int .i64 (cl (xs.sum))), is (.bool (fit (xs.sum)))]) := by
  refine FnP.mk' Try.func82 T.nm82 rfl (N := 19) rfl rfl fun B hB hκ => ?_
  refine Tr.seq ?_
  refine Tr.region ?_
  refine TrL.stepS 2 (.plain rfl (.assign rfl (.of rfl))) rfl rfl ?_
  refine TrL.stepS 3 (.plain rfl (.assign rfl (.of rfl))) rfl rfl ?_
  refine TrL.nil ?_
  refine Fin.keepG (Γ' := [(0, _)]) (.same rfl .nil) ?_
  refine Fin.next ?_
  refine Tr.seq ?_
  refine Tr.region ?_
  refine TrL.allocS 20 (zs := [.int .i64 0, .int .u64 0]) rfl rfl (by kernel_rfl) 4 rfl rfl rfl fun b20 => ?_
  refine TrL.nil ?_
  refine Fin.next ?_
  refine Tr.seq ?_
  refine Tr.seq ?_
  refine Tr.region ?_
  refine TrL.stepS 7 (.plain rfl (.move rfl (.of rfl))) rfl rfl ?_
  refine TrL.stepS 8 (.plain rfl (.len rfl (.of rfl) Try.underlying24)) rfl rfl ?_
  refine TrL.stepS 9 (.plain rfl (.move rfl (.of rfl))) rfl rfl ?_
  refine TrL.nil ?_
  refine Fin.keepG (Γ' := [(4, _), (7, _), (8, _), (9, _)]) (.same rfl (.same rfl (.same rfl (.same rfl .nil)))) ?_
  refine Fin.next ?_
  refine Tr.block ?_
  refine Tr.loopK (γ := Nat) (Γk := [(4, _), (7, _), (8, _)]) (Mk := []) (.same rfl (.same rfl (.same rfl .nil))) .nil (fun k => k ≤ xs.length) (fun k => fun r => (20, Blk b20 [.int .i64 ((xs.take k).sum / 18446744073709551616), .int .u64 ((xs.take k).sum % 18446744073709551616)] 130) :: r) (fun k => fun r => (9, is (.int .i64 k)) :: r) (fun k => xs.length - k) (0) ?h0_0 ?hM_0 ?hG_0 ?hl_0
  case h0_0 => exact Nat.zero_le _
  case hM_0 => exact (.same rfl .nil)
  case hG_0 => exact (.eq rfl (by first | rfl | (congr 1; first | done | omega | (push_cast; omega) | (push_cast; rfl))) (.same rfl (.same rfl (.same rfl .nil))))
  case hl_0 =>
    intro k hI
    refine Tr.seq ?_
    refine Tr.region ?_
    refine TrL.stepS 10 (.plain rfl (.lss rfl (.of rfl) (.of rfl))) rfl rfl ?_
    refine TrL.nil ?_
    refine Fin.next ?_
    refine Tr.seq ?_
    refine Tr.cond rfl (fun hb0 => ?_) (fun hb0 => ?_)
    · try simp only [decide_eq_true_eq, decide_eq_false_iff_not, beq_iff_eq, beq_eq_false_iff_ne, bne_iff_ne, bne_eq_false_iff_eq, Bool.and_eq_true, Bool.and_eq_false_iff, Bool.or_eq_true, Bool.or_eq_false_iff, Bool.not_eq_true', Bool.not_eq_false', gt_iff_lt, ge_iff_le, Int.not_lt, Int.not_le, ne_eq, Int.natCast_nonneg, true_and, and_true, Decidable.not_not, not_true_eq_false, not_false_eq_true] at hb0
      obtain ⟨x, hx⟩ := ex_get (xs := xs) (i := k) (by omega)
      have hxb := hx0 x (List.mem_of_getElem? hx)
      have hsb := sum_bd' k hl hx0
      refine Tr.skip ?_
      refine Fin.next ?_
      refine Tr.seq ?_
      refine Tr.block ?_
      refine Tr.seq ?_
      refine Tr.region ?_
      refine TrL.stepS 11 (.plain rfl (.indexE rfl (.of rfl) (.of rfl) Try.underlying24 T.sz2 (by omega) hx)) rfl rfl ?_
      refine TrL.stepS 12 (.plain rfl (.load1 rfl (.of rfl) T.sc2)) rfl rfl ?_
      refine TrL.stepS 6 (.plain rfl (.assign rfl (.of rfl))) rfl rfl ?_
      refine TrL.nil ?_
      refine Fin.keepG (Γ' := [(4, _), (6, _), (7, _), (8, _), (9, _)]) (.same rfl (.same rfl (.same rfl (.same rfl (.same rfl .nil))))) ?_
      refine Fin.next ?_
      refine Tr.region ?_
      refine TrL.stepS 13 (.plain rfl (.move rfl (.of rfl))) rfl rfl ?_
      refine TrL.callG [] [20] [20] rfl rfl 14 rfl rfl (F83 b20 (xs.take k).sum x (by omega) hxb) (.cons (.of rfl) (.cons (.of rfl) .nil)) (.same rfl .nil) rfl rfl (fun _ => rfl) fun _ => ?_
      refine TrL.nil ?_
      refine Fin.keepG (Γ' := [(4, _), (7, _), (8, _), (9, _)]) (.same rfl (.same rfl (.same rfl (.same rfl .nil)))) ?_
      refine Fin.blockNormal ?_
      refine Fin.next ?_
      refine Tr.region ?_
      first | refine TrL.stepS 15 (.plain rfl (.addI L.bd_i64 rfl (.of rfl) (.of rfl) (by omega) (by omega))) rfl rfl ?_ | refine TrL.stepS 15 (.plain rfl (.add rfl (.of rfl) (.of rfl))) rfl rfl ?_
      refine TrL.stepS 9 (.plain rfl (.move rfl (.of rfl))) rfl rfl ?_
      refine TrL.nil ?_
      refine Fin.keepG (Γ' := [(4, _), (7, _), (8, _), (9, _)]) (.same rfl (.same rfl (.same rfl (.same rfl .nil)))) ?_
      exact Fin.again (k + 1) (by omega) (by omega) (.cons rfl (fun F L w h => by rw [sum_take hx]; exact h) .nil) (.eq rfl (by first | rfl | (congr 1; first | done | omega | (push_cast; omega) | (push_cast; rfl))) (.same rfl (.same rfl (.same rfl .nil))))
    · try simp only [decide_eq_true_eq, decide_eq_false_iff_not, beq_iff_eq, beq_eq_false_iff_ne, bne_iff_ne, bne_eq_false_iff_eq, Bool.and_eq_true, Bool.and_eq_false_iff, Bool.or_eq_true, Bool.or_eq_false_iff, Bool.not_eq_true', Bool.not_eq_false', gt_iff_lt, ge_iff_le, Int.not_lt, Int.not_le, ne_eq, Int.natCast_nonneg, true_and, and_true, Decidable.not_not, not_true_eq_false, not_false_eq_true] at hb0
      have hkl : xs.take k = xs := List.take_of_length_le (by omega)
      have hsb := sum_bd' k hl hx0
      rw [hkl] at hsb
      refine Tr.exit ?_
      refine Fin.thenExit ?_
      refine Fin.thenExit ?_
      refine Fin.blockOut ?_
      refine Fin.next ?_
      refine Tr.seq ?_
      refine Tr.memI 20 rfl (ψ := Blk b20 [.int .i64 (xs.sum / 18446744073709551616), .int .u64 (xs.sum % 18446744073709551616)] 130) (fun F L w h => by rw [hkl] at h; exact h) ?_
      refine Tr.region ?_
      refine TrL.stepS 16 (.plain rfl (.callR [20] rfl (F84 b20 xs.sum (by omega)) (.cons (.of rfl) .nil) (.same rfl .nil) rfl)) rfl rfl ?_
      refine TrL.stepS 17 (.plain rfl (.extract rfl (.of rfl) rfl)) rfl rfl ?_
      refine TrL.stepS 18 (.plain rfl (.extract rfl (.of rfl) rfl)) rfl rfl ?_
      refine TrL.stepS 2 (.plain rfl (.assign rfl (.of rfl))) rfl rfl ?_
      refine TrL.stepS 3 (.plain rfl (.assign rfl (.of rfl))) rfl rfl ?_
      refine TrL.nil ?_
      refine Fin.keepG (Γ' := [(2, _), (3, _)]) (.same rfl (.same rfl .nil)) ?_
      refine Fin.next ?_
      refine Tr.ret ?_
      exact Fin.retI (rs := [_, _]) (Rs' := [is (.int .i64 (cl (xs.sum))), is (.bool (fit (xs.sum)))]) rfl (.cons (.tmp rfl) (.cons (.tmp rfl) .nil)) (.cons (L.iv rfl) (.cons (L.iv rfl) .nil))

/- tidepool/num.Sum$1 -/
set_option maxRecDepth 100000 in
theorem F136 (bs bo : Nat) (S n : Int) (hS : -9223372036854775808000000 ≤ S ∧ S ≤ 9223372036854775808000000) (hn : -9223372036854775808 ≤ n ∧ n ≤ 9223372036854775807) : FnG Try.prog 136 [is (.int .i64 n), is (.pointer (some ⟨bs, 0, none⟩)), is (.pointer (some ⟨bo, 0, none⟩))] [] [Blk bs [.int .i64 (lo S)] 2, Blk bo [.int .i64 (hi S)] 3] (γ := Unit) (fun _ => Tup []) (fun _ => [Blk bs [.int .i64 (lo (S + n))] 2, Blk bo [.int .i64 (hi (S + n))] 3]) := by
  refine FnG.mk' Try.func136 T.nm136 rfl (N := 35) rfl rfl (t := 2) rfl fun B => ?_
  refine Tr.seq ?_
  refine Tr.region ?_
  refine TrL.stepS 5 (.plain rfl (.loadB 2 rfl (.of rfl) rfl rfl rfl T.sc2)) rfl rfl ?_
  refine TrL.stepS 4 (.plain rfl (.assign rfl (.of rfl))) rfl rfl ?_
  refine TrL.nil ?_
  refine Fin.keepG (Γ' := [(0, _), (1, _), (2, _), (4, _)]) (.same rfl (.same rfl (.same rfl (.same rfl .nil)))) ?_
  refine Fin.next ?_
  refine Tr.seq ?_
  refine Tr.region ?_
  refine TrL.stepS 6 (.plain rfl (.loadB 2 rfl (.of rfl) rfl rfl rfl T.sc2)) rfl rfl ?_
  refine TrL.stepS 7 (.plain rfl (.move rfl (.of rfl))) rfl rfl ?_
  refine TrL.stepS 8 (.plain rfl (.add rfl (.of rfl) (.of rfl))) rfl rfl ?_
  refine TrL.store1 2 rfl rfl rfl (.of rfl) (.of rfl) rfl rfl rfl T.sz2 rfl rfl ?_
  refine TrL.nil ?_
  refine Fin.keepG (Γ' := [(0, _), (1, _), (2, _), (4, _)]) (.same rfl (.same rfl (.same rfl (.same rfl .nil)))) ?_
  refine Fin.next ?_
  refine Tr.block ?_
  refine Tr.seq ?_
  refine Tr.region ?_
  refine TrL.memI 2 rfl (ψ := Blk bs [.int .i64 (lo (S + n))] 2) (fun F L w h => by rw [show lo (S + n) = IntKind.i64.wrap (lo S + n) by (simp only [lo, wrap_i64]; omega)]; exact h) ?_
  refine TrL.stepS 10 (.plain rfl (.move rfl (.of rfl))) rfl rfl ?_
  refine TrL.stepS 11 (.plain rfl (.geq rfl (.of rfl) (.of rfl))) rfl rfl ?_
  refine TrL.stepS 12 (.plain rfl (.move rfl (.of rfl))) rfl rfl ?_
  refine TrL.stepS 13 (.guarded rfl rfl rfl fun hg => .move rfl (.of rfl)) rfl rfl ?_
  refine TrL.stepS 14 (.guarded rfl rfl rfl fun hg => .geq rfl (.cond rfl hg) (.of rfl)) rfl rfl ?_
  refine TrL.stepS 15 (.plain rfl (.and rfl (.of rfl) (.cond rfl fun h => h))) rfl rfl ?_
  refine TrL.stepS 16 (.plain rfl (.move rfl (.of rfl))) rfl rfl ?_
  refine TrL.stepS 17 (.guarded rfl rfl rfl fun hg => .loadB 2 rfl (.of rfl) rfl rfl rfl T.sc2) rfl rfl ?_
  refine TrL.stepS 18 (.guarded rfl rfl rfl fun hg => .lss rfl (.cond rfl hg) (.of rfl)) rfl rfl ?_
  refine TrL.stepS 19 (.plain rfl (.and rfl (.of rfl) (.cond rfl fun h => h))) rfl rfl ?_
  refine TrL.stepS 9 (.plain rfl (.assign rfl (.of rfl))) rfl rfl ?_
  refine TrL.nil ?_
  refine Fin.keepG (Γ' := [(0, _), (1, _), (2, _), (4, _), (9, _)]) (.same rfl (.same rfl (.same rfl (.same rfl (.same rfl .nil))))) ?_
  refine Fin.next ?_
  refine Tr.cond rfl (fun hb0 => ?_) (fun hb0 => ?_)
  · try simp only [decide_eq_true_eq, decide_eq_false_iff_not, beq_iff_eq, beq_eq_false_iff_ne, bne_iff_ne, bne_eq_false_iff_eq, Bool.and_eq_true, Bool.and_eq_false_iff, Bool.or_eq_true, Bool.or_eq_false_iff, Bool.not_eq_true', Bool.not_eq_false', gt_iff_lt, ge_iff_le, Int.not_lt, Int.not_le, ne_eq, Int.natCast_nonneg, true_and, and_true, Decidable.not_not, not_true_eq_false, not_false_eq_true] at hb0
    refine Tr.region ?_
    refine TrL.stepS 20 (.plain rfl (.loadB 3 rfl (.of rfl) rfl rfl rfl T.sc3)) rfl rfl ?_
    refine TrL.stepS 21 (.plain rfl (.addI L.bd_i64 rfl (.of rfl) (.of rfl) (by simp only [lo, hi]; omega) (by simp only [lo, hi]; omega))) rfl rfl ?_
    refine TrL.store1 3 rfl rfl rfl (.of rfl) (.of rfl) rfl rfl rfl T.sz3 rfl rfl ?_
    refine TrL.nil ?_
    refine Fin.keepG (Γ' := []) .nil ?_
    refine Fin.blockNormal ?_
    exact Fin.retGIN 2 rfl (()) [2, 3] (rs := []) rfl .nil .nil rfl (.same rfl (.cons rfl (fun F L w h => by rw [show hi (S + n) = hi S + 1 by (simp only [lo, hi] at *; omega)]; exact h) .nil)) rfl
  · try simp only [decide_eq_true_eq, decide_eq_false_iff_not, beq_iff_eq, beq_eq_false_iff_ne, bne_iff_ne, bne_eq_false_iff_eq, Bool.and_eq_true, Bool.and_eq_false_iff, Bool.or_eq_true, Bool.or_eq_false_iff, Bool.not_eq_true', Bool.not_eq_false', gt_iff_lt, ge_iff_le, Int.not_lt, Int.not_le, ne_eq, Int.natCast_nonneg, true_and, and_true, Decidable.not_not, not_true_eq_false, not_false_eq_true] at hb0
    refine Tr.seq ?_
    refine Tr.region ?_
    refine TrL.stepS 23 (.plain rfl (.move rfl (.of rfl))) rfl rfl ?_
    refine TrL.stepS 24 (.plain rfl (.lss rfl (.of rfl) (.of rfl))) rfl rfl ?_
    refine TrL.stepS 25 (.plain rfl (.move rfl (.of rfl))) rfl rfl ?_
    refine TrL.stepS 26 (.guarded rfl rfl rfl fun hg => .move rfl (.of rfl)) rfl rfl ?_
    refine TrL.stepS 27 (.guarded rfl rfl rfl fun hg => .lss rfl (.cond rfl hg) (.of rfl)) rfl rfl ?_
    refine TrL.stepS 28 (.plain rfl (.and rfl (.of rfl) (.cond rfl fun h => h))) rfl rfl ?_
    refine TrL.stepS 29 (.plain rfl (.move rfl (.of rfl))) rfl rfl ?_
    refine TrL.stepS 30 (.guarded rfl rfl rfl fun hg => .loadB 2 rfl (.of rfl) rfl rfl rfl T.sc2) rfl rfl ?_
    refine TrL.stepS 31 (.guarded rfl rfl rfl fun hg => .geq rfl (.cond rfl hg) (.of rfl)) rfl rfl ?_
    refine TrL.stepS 32 (.plain rfl (.and rfl (.of rfl) (.cond rfl fun h => h))) rfl rfl ?_
    refine TrL.stepS 22 (.plain rfl (.assign rfl (.of rfl))) rfl rfl ?_
    refine TrL.nil ?_
    refine Fin.keepG (Γ' := [(2, _), (22, _)]) (.same rfl (.same rfl .nil)) ?_
    refine Fin.next ?_
    refine Tr.cond rfl (fun hb1 => ?_) (fun hb1 => ?_)
    · try simp only [decide_eq_true_eq, decide_eq_false_iff_not, beq_iff_eq, beq_eq_false_iff_ne, bne_iff_ne, bne_eq_false_iff_eq, Bool.and_eq_true, Bool.and_eq_false_iff, Bool.or_eq_true, Bool.or_eq_false_iff, Bool.not_eq_true', Bool.not_eq_false', gt_iff_lt, ge_iff_le, Int.not_lt, Int.not_le, ne_eq, Int.natCast_nonneg, true_and, and_true, Decidable.not_not, not_true_eq_false, not_false_eq_true] at hb1
      refine Tr.region ?_
      refine TrL.stepS 33 (.plain rfl (.loadB 3 rfl (.of rfl) rfl rfl rfl T.sc3)) rfl rfl ?_
      refine TrL.stepS 34 (.plain rfl (.subI L.bd_i64 rfl (.of rfl) (.of rfl) (by simp only [lo, hi]; omega) (by simp only [lo, hi]; omega))) rfl rfl ?_
      refine TrL.store1 3 rfl rfl rfl (.of rfl) (.of rfl) rfl rfl rfl T.sz3 rfl rfl ?_
      refine TrL.nil ?_
      refine Fin.keepG (Γ' := []) .nil ?_
      refine Fin.blockNormal ?_
      exact Fin.retGIN 2 rfl (()) [2, 3] (rs := []) rfl .nil .nil rfl (.same rfl (.cons rfl (fun F L w h => by rw [show hi (S + n) = hi S - 1 by (simp only [lo, hi] at *; omega)]; exact h) .nil)) rfl
    · try simp only [decide_eq_true_eq, decide_eq_false_iff_not, beq_iff_eq, beq_eq_false_iff_ne, bne_iff_ne, bne_eq_false_iff_eq, Bool.and_eq_true, Bool.and_eq_false_iff, Bool.or_eq_true, Bool.or_eq_false_iff, Bool.not_eq_true', Bool.not_eq_false', gt_iff_lt, ge_iff_le, Int.not_lt, Int.not_le, ne_eq, Int.natCast_nonneg, true_and, and_true, Decidable.not_not, not_true_eq_false, not_false_eq_true] at hb1
      refine Tr.skip ?_
      refine Fin.blockNormal ?_
      exact Fin.retGIN 2 rfl (()) [2, 3] (rs := []) rfl .nil .nil rfl (.same rfl (.cons rfl (fun F L w h => by rw [show hi (S + n) = hi S by (simp only [lo, hi] at *; omega)]; exact h) .nil)) rfl

/- tidepool/num.Sum -/
set_option maxRecDepth 100000 in
theorem F73 (xs : List Int) (hl : xs.length ≤ 1000) (hx0 : ∀ x ∈ xs, -9223372036854775808 ≤ x ∧ x ≤ 9223372036854775807) : FnP Try.prog 73 [Lst (intR .i64) xs] (Tup [is (.int .i64 (cl xs.sum)), is (.int .i64 (if fit xs.sum then 0 else 30))]) := by
  refine FnP.mk' Try.func73 T.nm73 rfl (N := 23) rfl rfl fun B hB hκ => ?_
  refine Tr.seq ?_
  refine Tr.region ?_
  refine TrL.stepS 2 (.plain rfl (.assign rfl (.of rfl))) rfl rfl ?_
  refine TrL.stepS 3 (.plain rfl (.assign rfl (.of rfl))) rfl rfl ?_
  refine TrL.nil ?_
  refine Fin.keepG (Γ' := [(0, _)]) (.same rfl .nil) ?_
  refine Fin.next ?_
  refine Tr.seq ?_
  refine Tr.region ?_
  refine TrL.allocS 20 (zs := [.int .i64 0]) rfl rfl (by kernel_rfl) 4 rfl rfl rfl fun b20 => ?_
  refine TrL.allocS 21 (zs := [.int .i64 0]) rfl rfl (by kernel_rfl) 5 rfl rfl rfl fun b21 => ?_
  refine TrL.store1 20 rfl rfl rfl (.of rfl) (.of rfl) rfl rfl rfl T.sz2 rfl rfl ?_
  refine TrL.store1 21 rfl rfl rfl (.of rfl) (.of rfl) rfl rfl rfl T.sz3 rfl rfl ?_
  refine TrL.nil ?_
  refine Fin.next ?_
  refine Tr.seq ?_
  refine Tr.region ?_
  refine TrL.stepS 9 (.plain rfl (.func0 rfl (.cons (.of rfl) (.cons (.of rfl) .nil)))) rfl rfl ?_
  refine TrL.stepS 6 (.plain rfl (.assign rfl (.of rfl))) rfl rfl ?_
  refine TrL.nil ?_
  refine Fin.keepG (Γ' := [(0, _), (4, _), (5, _), (6, _)]) (.same rfl (.same rfl (.same rfl (.same rfl .nil)))) ?_
  refine Fin.next ?_
  refine Tr.seq ?_
  refine Tr.seq ?_
  refine Tr.region ?_
  refine TrL.stepS 10 (.plain rfl (.move rfl (.of rfl))) rfl rfl ?_
  refine TrL.stepS 11 (.plain rfl (.len rfl (.of rfl) Try.underlying24)) rfl rfl ?_
  refine TrL.stepS 12 (.plain rfl (.move rfl (.of rfl))) rfl rfl ?_
  refine TrL.nil ?_
  refine Fin.keepG (Γ' := [(4, _), (5, _), (6, _), (10, _), (11, _), (12, _)]) (.same rfl (.same rfl (.same rfl (.same rfl (.same rfl (.same rfl .nil)))))) ?_
  refine Fin.next ?_
  refine Tr.block ?_
  refine Tr.loopK (γ := Nat) (Γk := [(4, _), (5, _), (6, _), (10, _), (11, _)]) (Mk := []) (.same rfl (.same rfl (.same rfl (.same rfl (.same rfl .nil))))) .nil (fun k => k ≤ xs.length) (fun k => fun r => (20, Blk b20 [.int .i64 (lo (xs.take k).sum)] 2) :: (21, Blk b21 [.int .i64 (hi (xs.take k).sum)] 3) :: r) (fun k => fun r => (12, is (.int .i64 k)) :: r) (fun k => xs.length - k) (0) ?h0_0 ?hM_0 ?hG_0 ?hl_0
  case h0_0 => exact Nat.zero_le _
  case hM_0 => exact (.same rfl (.same rfl .nil))
  case hG_0 => exact (.eq rfl (by first | rfl | (congr 1; first | done | omega | (push_cast; omega) | (push_cast; rfl))) (.same rfl (.same rfl (.same rfl (.same rfl (.same rfl .nil))))))
  case hl_0 =>
    intro k hI
    refine Tr.seq ?_
    refine Tr.region ?_
    refine TrL.stepS 13 (.plain rfl (.lss rfl (.of rfl) (.of rfl))) rfl rfl ?_
    refine TrL.nil ?_
    refine Fin.next ?_
    refine Tr.seq ?_
    refine Tr.cond rfl (fun hb0 => ?_) (fun hb0 => ?_)
    · try simp only [decide_eq_true_eq, decide_eq_false_iff_not, beq_iff_eq, beq_eq_false_iff_ne, bne_iff_ne, bne_eq_false_iff_eq, Bool.and_eq_true, Bool.and_eq_false_iff, Bool.or_eq_true, Bool.or_eq_false_iff, Bool.not_eq_true', Bool.not_eq_false', gt_iff_lt, ge_iff_le, Int.not_lt, Int.not_le, ne_eq, Int.natCast_nonneg, true_and, and_true, Decidable.not_not, not_true_eq_false, not_false_eq_true] at hb0
      obtain ⟨x, hx⟩ := ex_get (xs := xs) (i := k) (by omega)
      have hxb := hx0 x (List.mem_of_getElem? hx)
      have hsb := sum_bd' k hl hx0
      refine Tr.skip ?_
      refine Fin.next ?_
      refine Tr.seq ?_
      refine Tr.block ?_
      refine Tr.seq ?_
      refine Tr.region ?_
      refine TrL.stepS 14 (.plain rfl (.indexE rfl (.of rfl) (.of rfl) Try.underlying24 T.sz2 (by omega) hx)) rfl rfl ?_
      refine TrL.stepS 15 (.plain rfl (.load1 rfl (.of rfl) T.sc2)) rfl rfl ?_
      refine TrL.stepS 8 (.plain rfl (.assign rfl (.of rfl))) rfl rfl ?_
      refine TrL.nil ?_
      refine Fin.keepG (Γ' := [(4, _), (5, _), (6, _), (8, _), (10, _), (11, _), (12, _)]) (.same rfl (.same rfl (.same rfl (.same rfl (.same rfl (.same rfl (.same rfl .nil))))))) ?_
      refine Fin.next ?_
      refine Tr.region ?_
      refine TrL.stepS 16 (.plain rfl (.move rfl (.of rfl))) rfl rfl ?_
      refine TrL.stepS 17 (.plain rfl (.move rfl (.of rfl))) rfl rfl ?_
      refine TrL.callGv (first := []) (caps := [_, _]) [] [20, 21] [20, 21] rfl rfl 18 rfl rfl (.of rfl) (F136 b20 b21 (xs.take k).sum x (by omega) hxb) (.cons (.of rfl) .nil) (.same rfl (.same rfl .nil)) rfl rfl (fun _ => rfl) fun _ => ?_
      refine TrL.nil ?_
      refine Fin.keepG (Γ' := [(4, _), (5, _), (6, _), (10, _), (11, _), (12, _)]) (.same rfl (.same rfl (.same rfl (.same rfl (.same rfl (.same rfl .nil)))))) ?_
      refine Fin.blockNormal ?_
      refine Fin.next ?_
      refine Tr.region ?_
      first | refine TrL.stepS 19 (.plain rfl (.addI L.bd_i64 rfl (.of rfl) (.of rfl) (by omega) (by omega))) rfl rfl ?_ | refine TrL.stepS 19 (.plain rfl (.add rfl (.of rfl) (.of rfl))) rfl rfl ?_
      refine TrL.stepS 12 (.plain rfl (.move rfl (.of rfl))) rfl rfl ?_
      refine TrL.nil ?_
      refine Fin.keepG (Γ' := [(4, _), (5, _), (6, _), (10, _), (11, _), (12, _)]) (.same rfl (.same rfl (.same rfl (.same rfl (.same rfl (.same rfl .nil)))))) ?_
      exact Fin.again (k + 1) (by omega) (by omega) (.cons rfl (fun F L w h => by rw [sum_take hx]; exact h) (.cons rfl (fun F L w h => by rw [sum_take hx]; exact h) .nil)) (.eq rfl (by first | rfl | (congr 1; first | done | omega | (push_cast; omega) | (push_cast; rfl))) (.same rfl (.same rfl (.same rfl (.same rfl (.same rfl .nil))))))
    · try simp only [decide_eq_true_eq, decide_eq_false_iff_not, beq_iff_eq, beq_eq_false_iff_ne, bne_iff_ne, bne_eq_false_iff_eq, Bool.and_eq_true, Bool.and_eq_false_iff, Bool.or_eq_true, Bool.or_eq_false_iff, Bool.not_eq_true', Bool.not_eq_false', gt_iff_lt, ge_iff_le, Int.not_lt, Int.not_le, ne_eq, Int.natCast_nonneg, true_and, and_true, Decidable.not_not, not_true_eq_false, not_false_eq_true] at hb0
      have hkl : xs.take k = xs := List.take_of_length_le (by omega)
      have hsb := sum_bd' k hl hx0
      rw [hkl] at hsb
      refine Tr.exit ?_
      refine Fin.thenExit ?_
      refine Fin.thenExit ?_
      refine Fin.blockOut ?_
      refine Fin.next ?_
      refine Tr.seq ?_
      refine Tr.seq ?_
      rw [hkl]
      refine Tr.region ?_
      refine TrL.stepS 20 (.plain rfl (.loadB 21 rfl (.of rfl) rfl rfl rfl T.sc3)) rfl rfl ?_
      refine TrL.stepS 21 (.plain rfl (.neq rfl (.of rfl) (.of rfl))) rfl rfl ?_
      refine TrL.nil ?_
      refine Fin.keepG (Γ' := [(4, _), (21, _)]) (.same rfl (.same rfl .nil)) ?_
      refine Fin.next ?_
      refine Tr.cond rfl (fun hb1 => ?_) (fun hb1 => ?_)
      · try simp only [decide_eq_true_eq, decide_eq_false_iff_not, beq_iff_eq, beq_eq_false_iff_ne, bne_iff_ne, bne_eq_false_iff_eq, Bool.and_eq_true, Bool.and_eq_false_iff, Bool.or_eq_true, Bool.or_eq_false_iff, Bool.not_eq_true', Bool.not_eq_false', gt_iff_lt, ge_iff_le, Int.not_lt, Int.not_le, ne_eq, Int.natCast_nonneg, true_and, and_true, Decidable.not_not, not_true_eq_false, not_false_eq_true] at hb1
        refine Tr.seq ?_
        refine Tr.region ?_
        refine TrL.stepS 2 (.plain rfl (.assign rfl (.of rfl))) rfl rfl ?_
        refine TrL.stepS 3 (.plain rfl (.assign rfl (.of rfl))) rfl rfl ?_
        refine TrL.nil ?_
        refine Fin.keepG (Γ' := [(2, _), (3, _)]) (.same rfl (.same rfl .nil)) ?_
        refine Fin.next ?_
        refine Tr.ret ?_
        refine Fin.thenRet ?_
        refine Fin.retI (rs := [_, _]) (Rs' := [is (.int .i64 (cl xs.sum)), is (.int .i64 (if fit xs.sum then 0 else 30))]) rfl (.cons (.tmp rfl) (.cons (.tmp rfl) .nil)) (.cons (L.iv ?_) (.cons (L.iv ?_) .nil))
        · have e : fit xs.sum = false := by (cases h : fit xs.sum with | false => rfl | true => (rw [fit_iff] at h; simp only [hi] at hb1; omega))
          simp [cl, e]
        · have e : fit xs.sum = false := by (cases h : fit xs.sum with | false => rfl | true => (rw [fit_iff] at h; simp only [hi] at hb1; omega))
          simp [e]
      · try simp only [decide_eq_true_eq, decide_eq_false_iff_not, beq_iff_eq, beq_eq_false_iff_ne, bne_iff_ne, bne_eq_false_iff_eq, Bool.and_eq_true, Bool.and_eq_false_iff, Bool.or_eq_true, Bool.or_eq_false_iff, Bool.not_eq_true', Bool.not_eq_false', gt_iff_lt, ge_iff_le, Int.not_lt, Int.not_le, ne_eq, Int.natCast_nonneg, true_and, and_true, Decidable.not_not, not_true_eq_false, not_false_eq_true] at hb1
        refine Tr.skip ?_
        refine Fin.next ?_
        refine Tr.seq ?_
        refine Tr.region ?_
        refine TrL.stepS 22 (.plain rfl (.loadB 20 rfl (.of rfl) rfl rfl rfl T.sc2)) rfl rfl ?_
        refine TrL.stepS 2 (.plain rfl (.assign rfl (.of rfl))) rfl rfl ?_
        refine TrL.stepS 3 (.plain rfl (.assign rfl (.of rfl))) rfl rfl ?_
        refine TrL.nil ?_
        refine Fin.keepG (Γ' := [(2, _), (3, _)]) (.same rfl (.same rfl .nil)) ?_
        refine Fin.next ?_
        refine Tr.ret ?_
        refine Fin.retI (rs := [_, _]) (Rs' := [is (.int .i64 (cl xs.sum)), is (.int .i64 (if fit xs.sum then 0 else 30))]) rfl (.cons (.tmp rfl) (.cons (.tmp rfl) .nil)) (.cons (L.iv ?_) (.cons (L.iv ?_) .nil))
        · have e : fit xs.sum = true := by (rw [fit_iff]; simp only [hi] at hb1; omega)
          rw [fit_iff] at e; simp only [cl, fit_iff.2 e, lo, if_true]; congr 1; omega
        · have e : fit xs.sum = true := by (rw [fit_iff]; simp only [hi] at hb1; omega)
          simp [e]

end Go.Proofs.Ytemkogoclljhpaa