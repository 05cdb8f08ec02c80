import Derived.Test.YtemkogoclljhpaaLT
import Derived.Test.YtemkogoclljhpaaLG
namespace Go.Proofs.Ytemkogoclljhpaa
open Go Go.Proofs.Ytemkogoclljhpaa.L
set_option linter.unusedVariables false
set_option linter.unusedSimpArgs false

namespace T
theorem bd30_0_1 (c0 : Int) (c1 : Int) : Try.prog.built 30 [(0, .int .u8 c0), (1, .int .i64 c1)] = some #[.int .u8 c0, .int .i64 c1, .int .i64 0, .int .i64 0] := by kernel_rfl
theorem bd30_0_1_2 (c0 : Int) (c1 : Int) (c2 : Int) : Try.prog.built 30 [(0, .int .u8 c0), (1, .int .i64 c1), (2, .int .i64 c2)] = some #[.int .u8 c0, .int .i64 c1, .int .i64 c2, .int .i64 0] := by kernel_rfl
theorem bd30_0_3 (c0 : Int) (c3 : Int) : Try.prog.built 30 [(0, .int .u8 c0), (3, .int .i64 c3)] = some #[.int .u8 c0, .int .i64 0, .int .i64 0, .int .i64 c3] := by kernel_rfl
theorem bd66  : Try.prog.built 66 [] = some #[.int .i64 0, .int .i64 0] := by kernel_rfl
theorem bd66_0_1 (c0 : Int) (c1 : Int) : Try.prog.built 66 [(0, .int .i64 c0), (1, .int .i64 c1)] = some #[.int .i64 c0, .int .i64 c1] := by kernel_rfl
end T


theorem tmod_neg (n d : Int) (hd : 0 < d) (h : n.tmod d < 0) : n.tmod d + d = n % d := by
  have := Int.tmod_eq_emod (a := n) (b := d)
  have h1 := Int.emod_nonneg n (show d ≠ 0 by omega)
  split at this <;> omega
theorem tmod_pos (n d : Int) (hd : 0 < d) (h : 0 ≤ n.tmod d) : n.tmod d = n % d := by
  have := Int.tmod_eq_emod (a := n) (b := d)
  have h1 := Int.emod_nonneg n (show d ≠ 0 by omega)
  have h2 := Int.emod_lt_of_pos n hd
  split at this
  · omega
  · omega
theorem tmod_bd (n d : Int) (hd : 0 < d) : -d < n.tmod d ∧ n.tmod d < d := by
  have := Int.tmod_eq_emod (a := n) (b := d)
  have h1 := Int.emod_nonneg n (show d ≠ 0 by omega)
  have h2 := Int.emod_lt_of_pos n hd
  split at this
  · omega
  · rename_i hx
    by_cases h0 : n % d = 0
    · exact absurd (Or.inr (Int.dvd_of_emod_eq_zero h0)) hx
    · have : ((d.natAbs : Int)) = d := by omega
      omega

theorem take_more {α : Type} {p : α → Prop} {xs : List α} {k : Nat} {x : α} (h : ∀ y ∈ xs.take k, p y) (hx : xs[k]? = some x) (hp : p x) : ∀ y ∈ xs.take (k + 1), p y := by
  intro y hy
  have hk : k < xs.length := by
    rcases Nat.lt_or_ge k xs.length with h | h
    · exact h
    · rw [List.getElem?_eq_none h] at hx; cases hx
  rw [List.take_succ_eq_append_getElem hk, List.mem_append] at hy
  rw [List.getElem?_eq_getElem hk] at hx
  rcases hy with hy | hy
  · exact h y hy
  · simp only [List.mem_singleton] at hy
    simp only [Option.some.injEq] at hx
    rw [hy, hx]; exact hp

/-- a window is right -/
def rightW (k s l g : Int) : Bool := decide ((k = 1 ∧ (1 ≤ s ∧ s ≤ 1048576) ∧ l = 0 ∧ g = 0) ∨ (k = 2 ∧ (1 ≤ s ∧ s ≤ 1048576) ∧ (1 ≤ l ∧ l ≤ 1048576) ∧ g = 0 ∧ s.tmod l = 0 ∧ s.tdiv l ≤ 16) ∨ (k = 3 ∧ (1 ≤ g ∧ g ≤ 1048576) ∧ s = 0 ∧ l = 0))

/-- a water is right -/
def rightA (m l : Int) : Bool := decide ((0 ≤ l ∧ l ≤ 1048576) ∧ (m = -2199023255552 ∨ (-1099511627776 ≤ m ∧ m ≤ 1099511627776)))

/- tidepool/window.OfTumbling -/
set_option maxRecDepth 100000 in
theorem F29 (s : Int) : FnP Try.prog 29 [is (.int .i64 s)] (is (.agg #[.int .u8 1, .int .i64 s, .int .i64 0, .int .i64 0])) := by
  refine FnP.mk' Try.func29 T.nm29 rfl (N := 5) rfl rfl fun B hB hκ => ?_
  refine Tr.seq ?_
  refine Tr.region ?_
  refine TrL.allocS 10 (zs := [.int .u8 0, .int .i64 0, .int .i64 0, .int .i64 0]) rfl rfl (by kernel_rfl) 2 rfl rfl rfl fun b10 => ?_
  refine TrL.nil ?_
  refine Fin.next ?_
  refine Tr.seq ?_
  refine Tr.region ?_
  refine TrL.stepS 3 (.plain rfl (.move rfl (.of rfl))) rfl rfl ?_
  refine TrL.stepS 4 (.plain rfl (.build rfl (.cons (.of rfl) (.cons (.of rfl) .nil)) (T.bd30_0_1 _ _))) rfl rfl ?_
  refine TrL.storeW 10 (vs := [_, _, _, _]) rfl rfl rfl (.of rfl) (.of rfl) rfl rfl T.sz30 rfl rfl ?_
  refine TrL.nil ?_
  refine Fin.keepG (Γ' := [(0, _), (2, _)]) (.same rfl (.same rfl .nil)) ?_
  refine Fin.next ?_
  refine Tr.ret ?_
  refine Fin.retI (rs := [_]) (Rs' := [is (.agg #[.int .u8 1, .int .i64 s, .int .i64 0, .int .i64 0])]) rfl (.cons (.cellB 10 (k := 4) (ds := [_, _, _, _]) rfl rfl rfl rfl T.ag30 rfl) .nil) ?_
  exact (.cons (L.iv rfl) .nil)

/- tidepool/window.OfSliding -/
set_option maxRecDepth 100000 in
theorem F30 (s l : Int) : FnP Try.prog 30 [is (.int .i64 s), is (.int .i64 l)] (is (.agg #[.int .u8 2, .int .i64 s, .int .i64 l, .int .i64 0])) := by
  refine FnP.mk' Try.func30 T.nm30 rfl (N := 8) rfl rfl fun B hB hκ => ?_
  refine Tr.seq ?_
  refine Tr.region ?_
  refine TrL.allocS 10 (zs := [.int .u8 0, .int .i64 0, .int .i64 0, .int .i64 0]) rfl rfl (by kernel_rfl) 4 rfl rfl rfl fun b10 => ?_
  refine TrL.nil ?_
  refine Fin.next ?_
  refine Tr.seq ?_
  refine Tr.region ?_
  refine TrL.stepS 5 (.plain rfl (.move rfl (.of rfl))) rfl rfl ?_
  refine TrL.stepS 6 (.plain rfl (.move rfl (.of rfl))) rfl rfl ?_
  refine TrL.stepS 7 (.plain rfl (.build rfl (.cons (.of rfl) (.cons (.of rfl) (.cons (.of rfl) .nil))) (T.bd30_0_1_2 _ _ _))) rfl rfl ?_
  refine TrL.storeW 10 (vs := [_, _, _, _]) rfl rfl rfl (.of rfl) (.of rfl) rfl rfl T.sz30 rfl rfl ?_
  refine TrL.nil ?_
  refine Fin.keepG (Γ' := [(0, _), (1, _), (4, _)]) (.same rfl (.same rfl (.same rfl .nil))) ?_
  refine Fin.next ?_
  refine Tr.ret ?_
  refine Fin.retI (rs := [_]) (Rs' := [is (.agg #[.int .u8 2, .int .i64 s, .int .i64 l, .int .i64 0])]) rfl (.cons (.cellB 10 (k := 4) (ds := [_, _, _, _]) rfl rfl rfl rfl T.ag30 rfl) .nil) ?_
  exact (.cons (L.iv rfl) .nil)

/- tidepool/window.OfSession -/
set_option maxRecDepth 100000 in
theorem F32 (g : Int) : FnP Try.prog 32 [is (.int .i64 g)] (is (.agg #[.int .u8 3, .int .i64 0, .int .i64 0, .int .i64 g])) := by
  refine FnP.mk' Try.func32 T.nm32 rfl (N := 5) rfl rfl fun B hB hκ => ?_
  refine Tr.seq ?_
  refine Tr.region ?_
  refine TrL.allocS 10 (zs := [.int .u8 0, .int .i64 0, .int .i64 0, .int .i64 0]) rfl rfl (by kernel_rfl) 2 rfl rfl rfl fun b10 => ?_
  refine TrL.nil ?_
  refine Fin.next ?_
  refine Tr.seq ?_
  refine Tr.region ?_
  refine TrL.stepS 3 (.plain rfl (.move rfl (.of rfl))) rfl rfl ?_
  refine TrL.stepS 4 (.plain rfl (.build rfl (.cons (.of rfl) (.cons (.of rfl) .nil)) (T.bd30_0_3 _ _))) rfl rfl ?_
  refine TrL.storeW 10 (vs := [_, _, _, _]) rfl rfl rfl (.of rfl) (.of rfl) rfl rfl T.sz30 rfl rfl ?_
  refine TrL.nil ?_
  refine Fin.keepG (Γ' := [(0, _), (2, _)]) (.same rfl (.same rfl .nil)) ?_
  refine Fin.next ?_
  refine Tr.ret ?_
  refine Fin.retI (rs := [_]) (Rs' := [is (.agg #[.int .u8 3, .int .i64 0, .int .i64 0, .int .i64 g])]) rfl (.cons (.cellB 10 (k := 4) (ds := [_, _, _, _]) rfl rfl rfl rfl T.ag30 rfl) .nil) ?_
  exact (.cons (L.iv rfl) .nil)

/- (tidepool/window.Window).Right$1 -/
set_option maxRecDepth 100000 in
theorem F117 (xs : List Int) (hl : xs.length ≤ 1000) : FnP Try.prog 117 [Lst (intR .i64) xs] (is (.bool (xs.all fun n => decide (1 ≤ n ∧ n ≤ 1048576)))) := by
  refine FnP.mk' Try.func117 T.nm117 rfl (N := 18) rfl rfl fun B hB hκ => ?_
  refine Tr.seq ?_
  refine Tr.region ?_
  refine TrL.stepS 2 (.plain rfl (.assign rfl (.of rfl))) rfl rfl ?_
  refine TrL.nil ?_
  refine Fin.next ?_
  refine Tr.seq ?_
  refine Tr.seq ?_
  refine Tr.region ?_
  refine TrL.stepS 5 (.plain rfl (.move rfl (.of rfl))) rfl rfl ?_
  refine TrL.stepS 6 (.plain rfl (.len rfl (.of rfl) Try.underlying24)) rfl rfl ?_
  refine TrL.stepS 7 (.plain rfl (.move rfl (.of rfl))) rfl rfl ?_
  refine TrL.nil ?_
  refine Fin.next ?_
  refine Tr.block ?_
  refine Tr.loop (γ := Nat) (fun k => k ≤ xs.length ∧ ∀ x ∈ xs.take k, 1 ≤ x ∧ x ≤ 1048576) (fun _ => []) (fun k => [(5, Lst (intR .i64) xs), (6, is (.int .i64 xs.length)), (7, is (.int .i64 k))]) (fun k => xs.length - k) (0) ?h0_0 ?hM_0 ?hG_0 ?hl_0
  case h0_0 => exact ⟨by omega, by simp⟩
  case hM_0 => exact .nil
  case hG_0 => exact (.same rfl (.same rfl (.eq rfl (by rfl) .nil)))
  case hl_0 =>
    intro k hI
    obtain ⟨hk, hI⟩ := hI
    refine Tr.seq ?_
    refine Tr.region ?_
    refine TrL.stepS 8 (.plain rfl (.lss rfl (.of rfl) (.of rfl))) rfl rfl ?_
    refine TrL.nil ?_
    refine Fin.next ?_
    refine Tr.seq ?_
    refine Tr.cond rfl (fun hb0 => ?_) (fun hb0 => ?_)
    · try simp only [decide_eq_true_eq, decide_eq_false_iff_not, beq_iff_eq, beq_eq_false_iff_ne, bne_iff_ne, bne_eq_false_iff_eq, Bool.and_eq_true, Bool.and_eq_false_iff, Bool.or_eq_true, Bool.or_eq_false_iff, Bool.not_eq_true', Bool.not_eq_false', gt_iff_lt, ge_iff_le, Int.not_lt, Int.not_le, ne_eq, Int.natCast_nonneg, true_and, and_true, Decidable.not_not, not_true_eq_false, not_false_eq_true] at hb0
      obtain ⟨x, hx⟩ : ∃ x, xs[k]? = some x := ⟨_, List.getElem?_eq_getElem (by omega)⟩
      refine Tr.skip ?_
      refine Fin.next ?_
      refine Tr.seq ?_
      refine Tr.block ?_
      refine Tr.seq ?_
      refine Tr.region ?_
      refine TrL.stepS 9 (.plain rfl (.indexE rfl (.of rfl) (.of rfl) Try.underlying24 T.sz2 (by omega) hx)) rfl rfl ?_
      refine TrL.stepS 10 (.plain rfl (.load1 rfl (.of rfl) T.sc2)) rfl rfl ?_
      refine TrL.stepS 4 (.plain rfl (.assign rfl (.of rfl))) rfl rfl ?_
      refine TrL.nil ?_
      refine Fin.keepG (Γ' := [(4, _), (5, _), (6, _), (7, _), (8, _)]) (.same rfl (.same rfl (.same rfl (.same rfl (.same rfl .nil))))) ?_
      refine Fin.next ?_
      refine Tr.seq ?_
      refine Tr.region ?_
      refine TrL.stepS 11 (.plain rfl (.move rfl (.of rfl))) rfl rfl ?_
      refine TrL.stepS 12 (.plain rfl (.lss rfl (.of rfl) (.of rfl))) rfl rfl ?_
      refine TrL.stepS 13 (.plain rfl (.move rfl (.of rfl))) rfl rfl ?_
      refine TrL.stepS 14 (.guarded rfl rfl rfl fun hg => .move rfl (.of rfl)) rfl rfl ?_
      refine TrL.stepS 15 (.guarded rfl rfl rfl fun hg => .gtr rfl (.cond rfl hg) (.of rfl)) rfl rfl ?_
      refine TrL.stepS 16 (.plain rfl (.or rfl (.of rfl) (.cond rfl fun h => h))) rfl rfl ?_
      refine TrL.nil ?_
      refine Fin.keepG (Γ' := [(4, _), (5, _), (6, _), (7, _), (8, _), (16, _)]) (.same rfl (.same rfl (.same rfl (.same rfl (.same rfl (.same rfl .nil)))))) ?_
      refine Fin.next ?_
      refine Tr.cond rfl (fun hb1 => ?_) (fun hb1 => ?_)
      · try simp only [decide_eq_true_eq, decide_eq_false_iff_not, beq_iff_eq, beq_eq_false_iff_ne, bne_iff_ne, bne_eq_false_iff_eq, Bool.and_eq_true, Bool.and_eq_false_iff, Bool.or_eq_true, Bool.or_eq_false_iff, Bool.not_eq_true', Bool.not_eq_false', gt_iff_lt, ge_iff_le, Int.not_lt, Int.not_le, ne_eq, Int.natCast_nonneg, true_and, and_true, Decidable.not_not, not_true_eq_false, not_false_eq_true] at hb1
        refine Tr.seq ?_
        refine Tr.region ?_
        refine TrL.stepS 2 (.plain rfl (.assign rfl (.of rfl))) rfl rfl ?_
        refine TrL.nil ?_
        refine Fin.next ?_
        refine Tr.ret ?_
        refine Fin.blockRet ?_
        refine Fin.thenRet ?_
        refine Fin.thenRet ?_
        refine Fin.blockRet ?_
        refine Fin.thenRet ?_
        refine Fin.retI (rs := [_]) (Rs' := [is (.bool (xs.all fun n => decide (1 ≤ n ∧ n ≤ 1048576)))]) rfl (.cons (.tmp rfl) .nil) ?_
        refine (.cons (L.iv ?_) .nil)
        · congr 1; symm; rw [List.all_eq_false]; exact ⟨x, List.mem_of_getElem? hx, by simp; omega⟩
      · try simp only [decide_eq_true_eq, decide_eq_false_iff_not, beq_iff_eq, beq_eq_false_iff_ne, bne_iff_ne, bne_eq_false_iff_eq, Bool.and_eq_true, Bool.and_eq_false_iff, Bool.or_eq_true, Bool.or_eq_false_iff, Bool.not_eq_true', Bool.not_eq_false', gt_iff_lt, ge_iff_le, Int.not_lt, Int.not_le, ne_eq, Int.natCast_nonneg, true_and, and_true, Decidable.not_not, not_true_eq_false, not_false_eq_true] at hb1
        refine Tr.skip ?_
        refine Fin.blockNormal ?_
        refine Fin.next ?_
        refine Tr.region ?_
        first | refine TrL.stepS 17 (.plain rfl (.addI L.bd_i64 rfl (.of rfl) (.of rfl) (by omega) (by omega))) rfl rfl ?_ | refine TrL.stepS 17 (.plain rfl (.add rfl (.of rfl) (.of rfl))) rfl rfl ?_
        refine TrL.stepS 7 (.plain rfl (.move rfl (.of rfl))) rfl rfl ?_
        refine TrL.nil ?_
        refine Fin.keepG (Γ' := [(4, _), (5, _), (6, _), (7, _), (8, _), (16, _)]) (.same rfl (.same rfl (.same rfl (.same rfl (.same rfl (.same rfl .nil)))))) ?_
        exact Fin.again (k + 1) (⟨by omega, take_more hI hx (by omega)⟩) (by omega) (.nil) (.same rfl (.same rfl (.eq rfl (by push_cast; rfl) .nil)))
    · try simp only [decide_eq_true_eq, decide_eq_false_iff_not, beq_iff_eq, beq_eq_false_iff_ne, bne_iff_ne, bne_eq_false_iff_eq, Bool.and_eq_true, Bool.and_eq_false_iff, Bool.or_eq_true, Bool.or_eq_false_iff, Bool.not_eq_true', Bool.not_eq_false', gt_iff_lt, ge_iff_le, Int.not_lt, Int.not_le, ne_eq, Int.natCast_nonneg, true_and, and_true, Decidable.not_not, not_true_eq_false, not_false_eq_true] at hb0
      refine Tr.exit ?_
      refine Fin.thenExit ?_
      refine Fin.thenExit ?_
      refine Fin.blockOut ?_
      refine Fin.next ?_
      refine Tr.seq ?_
      refine Tr.region ?_
      refine TrL.stepS 2 (.plain rfl (.assign rfl (.of rfl))) rfl rfl ?_
      refine TrL.nil ?_
      refine Fin.next ?_
      refine Tr.ret ?_
      refine Fin.retI (rs := [_]) (Rs' := [is (.bool (xs.all fun n => decide (1 ≤ n ∧ n ≤ 1048576)))]) rfl (.cons (.tmp rfl) .nil) ?_
      refine (.cons (L.iv ?_) .nil)
      · congr 1; symm; rw [List.all_eq_true]; intro x hx; have := hI x (by rw [List.take_of_length_le (by omega)]; exact hx); simpa using this

/- (tidepool/window.Window).Right -/
set_option maxRecDepth 100000 in
theorem F38 (k s l g : Int) : FnP Try.prog 38 [is (.agg #[.int .u8 k, .int .i64 s, .int .i64 l, .int .i64 g])] (is (.bool (rightW k s l g))) := by
  refine FnP.mk' Try.func38 T.nm38 rfl (N := 68) rfl rfl fun B hB hκ => ?_
  refine Tr.seq ?_
  refine Tr.region ?_
  refine TrL.stepS 1 (.plain rfl (.boxR rfl (.of rfl))) rfl rfl ?_
  refine TrL.stepS 2 (.plain rfl (.assign rfl (.of rfl))) rfl rfl ?_
  refine TrL.nil ?_
  refine Fin.next ?_
  refine Tr.seq ?_
  refine Tr.region ?_
  refine TrL.stepS 3 (.plain rfl (.assign rfl (.of rfl))) rfl rfl ?_
  refine TrL.nil ?_
  refine Fin.next ?_
  refine Tr.seq ?_
  refine Tr.seq ?_
  refine Tr.region ?_
  refine TrL.stepS 4 (.plain rfl (.fieldC rfl (.of rfl) T.fl30_0)) rfl rfl ?_
  refine TrL.stepS 5 (.plain rfl (.load1 rfl (.of rfl) T.sc5)) rfl rfl ?_
  refine TrL.nil ?_
  refine Fin.keepG (Γ' := [(0, _), (1, _), (2, _), (3, _), (5, _)]) (.same rfl (.same rfl (.same rfl (.same rfl (.same rfl .nil))))) ?_
  refine Fin.next ?_
  refine Tr.block ?_
  refine Tr.seq ?_
  refine Tr.region ?_
  refine TrL.stepS 7 (.plain rfl (.eql rfl (.of rfl) (.of rfl))) rfl rfl ?_
  refine TrL.stepS 6 (.plain rfl (.assign rfl (.of rfl))) rfl rfl ?_
  refine TrL.nil ?_
  refine Fin.keepG (Γ' := [(0, _), (1, _), (2, _), (3, _), (5, _), (6, _)]) (.same rfl (.same rfl (.same rfl (.same rfl (.same rfl (.same rfl .nil)))))) ?_
  refine Fin.next ?_
  refine Tr.cond rfl (fun hb0 => ?_) (fun hb0 => ?_)
  · try simp only [decide_eq_true_eq, decide_eq_false_iff_not, beq_iff_eq, beq_eq_false_iff_ne, bne_iff_ne, bne_eq_false_iff_eq, Bool.and_eq_true, Bool.and_eq_false_iff, Bool.or_eq_true, Bool.or_eq_false_iff, Bool.not_eq_true', Bool.not_eq_false', gt_iff_lt, ge_iff_le, Int.not_lt, Int.not_le, ne_eq, Int.natCast_nonneg, true_and, and_true, Decidable.not_not, not_true_eq_false, not_false_eq_true] at hb0
    refine Tr.seq ?_
    refine Tr.regionK T.mixed (by kernel_rfl) (by kernel_rfl) ?_
    refine ChainK.consS 8 (.plain rfl (.move rfl (.of rfl))) rfl ?_
    refine ChainK.consS 9 (.plain rfl (.fieldC rfl (.of rfl) T.fl30_1)) rfl ?_
    refine ChainK.consS 10 (.plain rfl (.load1 rfl (.of rfl) T.sc2)) rfl ?_
    refine ChainK.consS 11 (.plain rfl (.slice (K := intR .i64) (xs := [_]) rfl (.cons (.map (.of rfl) (intR_elem _)) .nil) Try.underlying24 T.sz2 T.zb2 rfl (by decide))) rfl ?_
    refine ChainK.consS 12 (.plain rfl (.callV (first := []) (caps := []) rfl (.of rfl) (F117 _ (by simp)) (.cons (.of rfl) .nil))) rfl ?_
    refine ChainK.consS 13 (.plain rfl (.move rfl (.of rfl))) rfl ?_
    refine ChainK.consS 14 (.guarded rfl rfl rfl fun hg => .load4 rfl (.of rfl) T.ag30) rfl ?_
    refine ChainK.consS 15 (.guarded rfl rfl rfl fun hg => .fieldC rfl (.of rfl) T.fl30_1) rfl ?_
    refine ChainK.consS 16 (.guarded rfl rfl rfl fun hg => .load1 rfl (.cond rfl hg) T.sc2) rfl ?_
    refine ChainK.consS 17 (.guarded rfl rfl rfl fun hg => .call rfl (F29 ..) (.cons (.cond rfl hg) .nil)) rfl ?_
    refine ChainK.consS 18 (.guarded rfl rfl rfl fun hg => .eqlS rfl (.cond rfl hg) (.cond rfl hg) (by kernel_rfl) (T.eq30 _ _ _ _ _ _ _ _)) rfl ?_
    refine ChainK.consS 19 (.plain rfl (.and rfl (.of rfl) (.cond rfl fun h => h))) rfl ?_
    refine ChainK.consS 2 (.plain rfl (.assign rfl (.of rfl))) rfl ?_
    refine ChainK.nil ?_
    refine Fin.keepG (Γ' := [(0, _), (1, _), (2, _), (3, _), (5, _), (6, _)]) (.same rfl (.same rfl (.same rfl (.same rfl (.same rfl (.same rfl .nil)))))) ?_
    refine Fin.next ?_
    refine Tr.ret ?_
    refine Fin.blockRet ?_
    refine Fin.thenRet ?_
    refine Fin.retI (rs := [_]) (Rs' := [is (.bool (rightW k s l g))]) rfl (.cons (.tmp rfl) .nil) ?_
    refine (.cons (L.iv ?_) .nil)
    · congr 1; rw [Bool.eq_iff_iff]; simp [rightW]; omega
  · try simp only [decide_eq_true_eq, decide_eq_false_iff_not, beq_iff_eq, beq_eq_false_iff_ne, bne_iff_ne, bne_eq_false_iff_eq, Bool.and_eq_true, Bool.and_eq_false_iff, Bool.or_eq_true, Bool.or_eq_false_iff, Bool.not_eq_true', Bool.not_eq_false', gt_iff_lt, ge_iff_le, Int.not_lt, Int.not_le, ne_eq, Int.natCast_nonneg, true_and, and_true, Decidable.not_not, not_true_eq_false, not_false_eq_true] at hb0
    refine Tr.seq ?_
    refine Tr.region ?_
    refine TrL.stepS 21 (.plain rfl (.eql rfl (.of rfl) (.of rfl))) rfl rfl ?_
    refine TrL.stepS 20 (.plain rfl (.assign rfl (.of rfl))) rfl rfl ?_
    refine TrL.nil ?_
    refine Fin.keepG (Γ' := [(0, _), (1, _), (2, _), (3, _), (5, _), (6, _), (20, _)]) (.same rfl (.same rfl (.same rfl (.same rfl (.same rfl (.same rfl (.same rfl .nil))))))) ?_
    refine Fin.next ?_
    refine Tr.cond rfl (fun hb1 => ?_) (fun hb1 => ?_)
    · try simp only [decide_eq_true_eq, decide_eq_false_iff_not, beq_iff_eq, beq_eq_false_iff_ne, bne_iff_ne, bne_eq_false_iff_eq, Bool.and_eq_true, Bool.and_eq_false_iff, Bool.or_eq_true, Bool.or_eq_false_iff, Bool.not_eq_true', Bool.not_eq_false', gt_iff_lt, ge_iff_le, Int.not_lt, Int.not_le, ne_eq, Int.natCast_nonneg, true_and, and_true, Decidable.not_not, not_true_eq_false, not_false_eq_true] at hb1
      refine Tr.seq ?_
      refine Tr.regionK T.mixed (by kernel_rfl) (by kernel_rfl) ?_
      refine ChainK.consS 22 (.plain rfl (.move rfl (.of rfl))) rfl ?_
      refine ChainK.consS 23 (.plain rfl (.fieldC rfl (.of rfl) T.fl30_1)) rfl ?_
      refine ChainK.consS 24 (.plain rfl (.load1 rfl (.of rfl) T.sc2)) rfl ?_
      refine ChainK.consS 25 (.plain rfl (.fieldC rfl (.of rfl) T.fl30_2)) rfl ?_
      refine ChainK.consS 26 (.plain rfl (.load1 rfl (.of rfl) T.sc2)) rfl ?_
      refine ChainK.consS 27 (.plain rfl (.slice (K := intR .i64) (xs := [_, _]) rfl (.cons (.map (.of rfl) (intR_elem _)) (.cons (.map (.of rfl) (intR_elem _)) .nil)) Try.underlying24 T.sz2 T.zb2 rfl (by decide))) rfl ?_
      refine ChainK.consS 28 (.plain rfl (.callV (first := []) (caps := []) rfl (.of rfl) (F117 _ (by simp)) (.cons (.of rfl) .nil))) rfl ?_
      refine ChainK.consS 29 (.plain rfl (.move rfl (.of rfl))) rfl ?_
      refine ChainK.consS 30 (.guarded rfl rfl rfl fun hg => .load4 rfl (.of rfl) T.ag30) rfl ?_
      refine ChainK.consS 31 (.guarded rfl rfl rfl fun hg => .fieldC rfl (.of rfl) T.fl30_1) rfl ?_
      refine ChainK.consS 32 (.guarded rfl rfl rfl fun hg => .load1 rfl (.cond rfl hg) T.sc2) rfl ?_
      refine ChainK.consS 33 (.guarded rfl rfl rfl fun hg => .fieldC rfl (.of rfl) T.fl30_2) rfl ?_
      refine ChainK.consS 34 (.guarded rfl rfl rfl fun hg => .load1 rfl (.cond rfl hg) T.sc2) rfl ?_
      refine ChainK.consS 35 (.guarded rfl rfl rfl fun hg => .call rfl (F30 ..) (.cons (.cond rfl hg) (.cons (.cond rfl hg) .nil))) rfl ?_
      refine ChainK.consS 36 (.guarded rfl rfl rfl fun hg => .eqlS rfl (.cond rfl hg) (.cond rfl hg) (by kernel_rfl) (T.eq30 _ _ _ _ _ _ _ _)) rfl ?_
      refine ChainK.consS 37 (.plain rfl (.and rfl (.of rfl) (.cond rfl fun h => h))) rfl ?_
      refine ChainK.consS 38 (.plain rfl (.move rfl (.of rfl))) rfl ?_
      refine ChainK.consS 39 (.guarded rfl rfl rfl fun hg => .fieldC rfl (.of rfl) T.fl30_1) rfl ?_
      refine ChainK.consS 40 (.guarded rfl rfl rfl fun hg => .load1 rfl (.cond rfl hg) T.sc2) rfl ?_
      refine ChainK.consS 41 (.guarded rfl rfl rfl fun hg => .fieldC rfl (.of rfl) T.fl30_2) rfl ?_
      refine ChainK.consS 42 (.guarded rfl rfl rfl fun hg => .load1 rfl (.cond rfl hg) T.sc2) rfl ?_
      refine ChainK.consS 43 (.guarded rfl rfl rfl fun hg => .rem rfl (.cond rfl hg) (.cond rfl hg) (by first | omega | (simp at hg; omega) | (simp at hg hp; omega))) rfl ?_
      refine ChainK.consS 44 (.guarded rfl rfl rfl fun hg => .eql rfl (.cond rfl hg) (.of rfl)) rfl ?_
      refine ChainK.consS 45 (.plain rfl (.and rfl (.of rfl) (.cond rfl fun h => h))) rfl ?_
      refine ChainK.consS 46 (.plain rfl (.move rfl (.of rfl))) rfl ?_
      refine ChainK.consS 47 (.guarded rfl rfl rfl fun hg => .fieldC rfl (.of rfl) T.fl30_1) rfl ?_
      refine ChainK.consS 48 (.guarded rfl rfl rfl fun hg => .load1 rfl (.cond rfl hg) T.sc2) rfl ?_
      refine ChainK.consS 49 (.guarded rfl rfl rfl fun hg => .fieldC rfl (.of rfl) T.fl30_2) rfl ?_
      refine ChainK.consS 50 (.guarded rfl rfl rfl fun hg => .load1 rfl (.cond rfl hg) T.sc2) rfl ?_
      first | refine ChainK.consS 51 (.guarded rfl rfl rfl fun hg => .quoI L.bd_i64 rfl (.cond rfl hg) (.cond rfl hg) (by first | omega | (simp at hg; omega) | (simp at hg hp; omega)) (by decide) (by first | omega | (simp at hg; omega) | (simp at hg hp; omega)) (by first | omega | (simp at hg; omega) | (simp at hg hp; omega))) rfl ?_ | refine ChainK.consS 51 (.guarded rfl rfl rfl fun hg => .quo rfl (.cond rfl hg) (.cond rfl hg) (by first | omega | (simp at hg; omega) | (simp at hg hp; omega))) rfl ?_
      refine ChainK.consS 52 (.guarded rfl rfl rfl fun hg => .leq rfl (.cond rfl hg) (.of rfl)) rfl ?_
      refine ChainK.consS 53 (.plain rfl (.and rfl (.of rfl) (.cond rfl fun h => h))) rfl ?_
      refine ChainK.consS 2 (.plain rfl (.assign rfl (.of rfl))) rfl ?_
      refine ChainK.nil ?_
      refine Fin.keepG (Γ' := [(0, _), (1, _), (2, _), (3, _), (5, _), (6, _), (20, _)]) (.same rfl (.same rfl (.same rfl (.same rfl (.same rfl (.same rfl (.same rfl .nil))))))) ?_
      refine Fin.next ?_
      refine Tr.ret ?_
      refine Fin.blockRet ?_
      refine Fin.thenRet ?_
      refine Fin.retI (rs := [_]) (Rs' := [is (.bool (rightW k s l g))]) rfl (.cons (.tmp rfl) .nil) ?_
      refine (.cons (L.iv ?_) .nil)
      · congr 1; rw [Bool.eq_iff_iff]; simp [rightW]; omega
    · try simp only [decide_eq_true_eq, decide_eq_false_iff_not, beq_iff_eq, beq_eq_false_iff_ne, bne_iff_ne, bne_eq_false_iff_eq, Bool.and_eq_true, Bool.and_eq_false_iff, Bool.or_eq_true, Bool.or_eq_false_iff, Bool.not_eq_true', Bool.not_eq_false', gt_iff_lt, ge_iff_le, Int.not_lt, Int.not_le, ne_eq, Int.natCast_nonneg, true_and, and_true, Decidable.not_not, not_true_eq_false, not_false_eq_true] at hb1
      refine Tr.seq ?_
      refine Tr.region ?_
      refine TrL.stepS 55 (.plain rfl (.eql rfl (.of rfl) (.of rfl))) rfl rfl ?_
      refine TrL.stepS 54 (.plain rfl (.assign rfl (.of rfl))) rfl rfl ?_
      refine TrL.nil ?_
      refine Fin.keepG (Γ' := [(0, _), (1, _), (2, _), (3, _), (5, _), (6, _), (20, _), (54, _)]) (.same rfl (.same rfl (.same rfl (.same rfl (.same rfl (.same rfl (.same rfl (.same rfl .nil)))))))) ?_
      refine Fin.next ?_
      refine Tr.cond rfl (fun hb2 => ?_) (fun hb2 => ?_)
      · try simp only [decide_eq_true_eq, decide_eq_false_iff_not, beq_iff_eq, beq_eq_false_iff_ne, bne_iff_ne, bne_eq_false_iff_eq, Bool.and_eq_true, Bool.and_eq_false_iff, Bool.or_eq_true, Bool.or_eq_false_iff, Bool.not_eq_true', Bool.not_eq_false', gt_iff_lt, ge_iff_le, Int.not_lt, Int.not_le, ne_eq, Int.natCast_nonneg, true_and, and_true, Decidable.not_not, not_true_eq_false, not_false_eq_true] at hb2
        refine Tr.seq ?_
        refine Tr.regionK T.mixed (by kernel_rfl) (by kernel_rfl) ?_
        refine ChainK.consS 56 (.plain rfl (.move rfl (.of rfl))) rfl ?_
        refine ChainK.consS 57 (.plain rfl (.fieldC rfl (.of rfl) T.fl30_3)) rfl ?_
        refine ChainK.consS 58 (.plain rfl (.load1 rfl (.of rfl) T.sc2)) rfl ?_
        refine ChainK.consS 59 (.plain rfl (.slice (K := intR .i64) (xs := [_]) rfl (.cons (.map (.of rfl) (intR_elem _)) .nil) Try.underlying24 T.sz2 T.zb2 rfl (by decide))) rfl ?_
        refine ChainK.consS 60 (.plain rfl (.callV (first := []) (caps := []) rfl (.of rfl) (F117 _ (by simp)) (.cons (.of rfl) .nil))) rfl ?_
        refine ChainK.consS 61 (.plain rfl (.move rfl (.of rfl))) rfl ?_
        refine ChainK.consS 62 (.guarded rfl rfl rfl fun hg => .load4 rfl (.of rfl) T.ag30) rfl ?_
        refine ChainK.consS 63 (.guarded rfl rfl rfl fun hg => .fieldC rfl (.of rfl) T.fl30_3) rfl ?_
        refine ChainK.consS 64 (.guarded rfl rfl rfl fun hg => .load1 rfl (.cond rfl hg) T.sc2) rfl ?_
        refine ChainK.consS 65 (.guarded rfl rfl rfl fun hg => .call rfl (F32 ..) (.cons (.cond rfl hg) .nil)) rfl ?_
        refine ChainK.consS 66 (.guarded rfl rfl rfl fun hg => .eqlS rfl (.cond rfl hg) (.cond rfl hg) (by kernel_rfl) (T.eq30 _ _ _ _ _ _ _ _)) rfl ?_
        refine ChainK.consS 67 (.plain rfl (.and rfl (.of rfl) (.cond rfl fun h => h))) rfl ?_
        refine ChainK.consS 2 (.plain rfl (.assign rfl (.of rfl))) rfl ?_
        refine ChainK.nil ?_
        refine Fin.keepG (Γ' := [(0, _), (1, _), (2, _), (3, _), (5, _), (6, _), (20, _), (54, _)]) (.same rfl (.same rfl (.same rfl (.same rfl (.same rfl (.same rfl (.same rfl (.same rfl .nil)))))))) ?_
        refine Fin.next ?_
        refine Tr.ret ?_
        refine Fin.blockRet ?_
        refine Fin.thenRet ?_
        refine Fin.retI (rs := [_]) (Rs' := [is (.bool (rightW k s l g))]) rfl (.cons (.tmp rfl) .nil) ?_
        refine (.cons (L.iv ?_) .nil)
        · congr 1; rw [Bool.eq_iff_iff]; simp [rightW]; omega
      · try simp only [decide_eq_true_eq, decide_eq_false_iff_not, beq_iff_eq, beq_eq_false_iff_ne, bne_iff_ne, bne_eq_false_iff_eq, Bool.and_eq_true, Bool.and_eq_false_iff, Bool.or_eq_true, Bool.or_eq_false_iff, Bool.not_eq_true', Bool.not_eq_false', gt_iff_lt, ge_iff_le, Int.not_lt, Int.not_le, ne_eq, Int.natCast_nonneg, true_and, and_true, Decidable.not_not, not_true_eq_false, not_false_eq_true] at hb2
        refine Tr.skip ?_
        refine Fin.blockNormal ?_
        refine Fin.next ?_
        refine Tr.seq ?_
        refine Tr.region ?_
        refine TrL.stepS 2 (.plain rfl (.assign rfl (.of rfl))) rfl rfl ?_
        refine TrL.nil ?_
        refine Fin.next ?_
        refine Tr.ret ?_
        refine Fin.retI (rs := [_]) (Rs' := [is (.bool (rightW k s l g))]) rfl (.cons (.tmp rfl) .nil) ?_
        refine (.cons (L.iv ?_) .nil)
        · congr 1; rw [Bool.eq_iff_iff]; simp [rightW]; omega

/- tidepool/window.timely -/
set_option maxRecDepth 100000 in
theorem F114 (t : Int) : FnP Try.prog 114 [is (.int .i64 t)] (is (.bool (decide (-1099511627776 ≤ t ∧ t ≤ 1099511627776)))) := by
  refine FnP.mk' Try.func114 T.nm114 rfl (N := 9) rfl rfl fun B hB hκ => ?_
  refine Tr.seq ?_
  refine Tr.region ?_
  refine TrL.stepS 2 (.plain rfl (.assign rfl (.of rfl))) rfl rfl ?_
  refine TrL.nil ?_
  refine Fin.next ?_
  refine Tr.seq ?_
  refine Tr.region ?_
  refine TrL.stepS 3 (.plain rfl (.move rfl (.of rfl))) rfl rfl ?_
  refine TrL.stepS 4 (.plain rfl (.geq rfl (.of rfl) (.of rfl))) rfl rfl ?_
  refine TrL.stepS 5 (.plain rfl (.move rfl (.of rfl))) rfl rfl ?_
  refine TrL.stepS 6 (.guarded rfl rfl rfl fun hg => .move rfl (.of rfl)) rfl rfl ?_
  refine TrL.stepS 7 (.guarded rfl rfl rfl fun hg => .leq rfl (.cond rfl hg) (.of rfl)) rfl rfl ?_
  refine TrL.stepS 8 (.plain rfl (.and rfl (.of rfl) (.cond rfl fun h => h))) rfl rfl ?_
  refine TrL.stepS 2 (.plain rfl (.assign rfl (.of rfl))) rfl rfl ?_
  refine TrL.nil ?_
  refine Fin.keepG (Γ' := [(0, _), (2, _)]) (.same rfl (.same rfl .nil)) ?_
  refine Fin.next ?_
  refine Tr.ret ?_
  refine Fin.retI (rs := [_]) (Rs' := [is (.bool (decide (-1099511627776 ≤ t ∧ t ≤ 1099511627776)))]) rfl (.cons (.tmp rfl) .nil) ?_
  refine (.cons (L.iv ?_) .nil)
  · congr 1; rw [Bool.eq_iff_iff]; simp

/- (tidepool/window.Window).step -/
set_option maxRecDepth 100000 in
theorem F115 (k s l g : Int) : FnP Try.prog 115 [is (.agg #[.int .u8 k, .int .i64 s, .int .i64 l, .int .i64 g])] (is (.int .i64 (if k = 2 then l else s))) := by
  refine FnP.mk' Try.func115 T.nm115 rfl (N := 10) rfl rfl fun B hB hκ => ?_
  refine Tr.seq ?_
  refine Tr.region ?_
  refine TrL.stepS 1 (.plain rfl (.boxR rfl (.of rfl))) rfl rfl ?_
  refine TrL.stepS 2 (.plain rfl (.assign rfl (.of rfl))) rfl rfl ?_
  refine TrL.nil ?_
  refine Fin.next ?_
  refine Tr.seq ?_
  refine Tr.seq ?_
  refine Tr.region ?_
  refine TrL.stepS 3 (.plain rfl (.fieldC rfl (.of rfl) T.fl30_0)) rfl rfl ?_
  refine TrL.stepS 4 (.plain rfl (.load1 rfl (.of rfl) T.sc5)) rfl rfl ?_
  refine TrL.stepS 5 (.plain rfl (.eql rfl (.of rfl) (.of rfl))) rfl rfl ?_
  refine TrL.nil ?_
  refine Fin.keepG (Γ' := [(0, _), (1, _), (2, _), (5, _)]) (.same rfl (.same rfl (.same rfl (.same rfl .nil)))) ?_
  refine Fin.next ?_
  refine Tr.cond rfl (fun hb0 => ?_) (fun hb0 => ?_)
  · try simp only [decide_eq_true_eq, decide_eq_false_iff_not, beq_iff_eq, beq_eq_false_iff_ne, bne_iff_ne, bne_eq_false_iff_eq, Bool.and_eq_true, Bool.and_eq_false_iff, Bool.or_eq_true, Bool.or_eq_false_iff, Bool.not_eq_true', Bool.not_eq_false', gt_iff_lt, ge_iff_le, Int.not_lt, Int.not_le, ne_eq, Int.natCast_nonneg, true_and, and_true, Decidable.not_not, not_true_eq_false, not_false_eq_true] at hb0
    refine Tr.seq ?_
    refine Tr.region ?_
    refine TrL.stepS 6 (.plain rfl (.fieldC rfl (.of rfl) T.fl30_2)) rfl rfl ?_
    refine TrL.stepS 7 (.plain rfl (.load1 rfl (.of rfl) T.sc2)) rfl rfl ?_
    refine TrL.stepS 2 (.plain rfl (.assign rfl (.of rfl))) rfl rfl ?_
    refine TrL.nil ?_
    refine Fin.keepG (Γ' := [(0, _), (1, _), (2, _), (5, _)]) (.same rfl (.same rfl (.same rfl (.same rfl .nil)))) ?_
    refine Fin.next ?_
    refine Tr.ret ?_
    refine Fin.thenRet ?_
    refine Fin.retI (rs := [_]) (Rs' := [is (.int .i64 (if k = 2 then l else s))]) rfl (.cons (.tmp rfl) .nil) ?_
    refine (.cons (L.iv ?_) .nil)
    · simp [*]
  · try simp only [decide_eq_true_eq, decide_eq_false_iff_not, beq_iff_eq, beq_eq_false_iff_ne, bne_iff_ne, bne_eq_false_iff_eq, Bool.and_eq_true, Bool.and_eq_false_iff, Bool.or_eq_true, Bool.or_eq_false_iff, Bool.not_eq_true', Bool.not_eq_false', gt_iff_lt, ge_iff_le, Int.not_lt, Int.not_le, ne_eq, Int.natCast_nonneg, true_and, and_true, Decidable.not_not, not_true_eq_false, not_false_eq_true] at hb0
    refine Tr.skip ?_
    refine Fin.next ?_
    refine Tr.seq ?_
    refine Tr.region ?_
    refine TrL.stepS 8 (.plain rfl (.fieldC rfl (.of rfl) T.fl30_1)) rfl rfl ?_
    refine TrL.stepS 9 (.plain rfl (.load1 rfl (.of rfl) T.sc2)) rfl rfl ?_
    refine TrL.stepS 2 (.plain rfl (.assign rfl (.of rfl))) rfl rfl ?_
    refine TrL.nil ?_
    refine Fin.keepG (Γ' := [(0, _), (1, _), (2, _), (5, _)]) (.same rfl (.same rfl (.same rfl (.same rfl .nil)))) ?_
    refine Fin.next ?_
    refine Tr.ret ?_
    refine Fin.retI (rs := [_]) (Rs' := [is (.int .i64 (if k = 2 then l else s))]) rfl (.cons (.tmp rfl) .nil) ?_
    refine (.cons (L.iv ?_) .nil)
    · simp [*]

/- tidepool/num.FloorMod -/
set_option maxRecDepth 100000 in
theorem F75 (n d : Int) (hd : d ≤ 9223372036854775807) : FnP Try.prog 75 [is (.int .i64 n), is (.int .i64 d)] (Tup [is (.int .i64 (if d ≤ 0 then 0 else n % d)), is (.int .i64 (if d ≤ 0 then 2 else 0))]) := by
  refine FnP.mk' Try.func75 T.nm75 rfl (N := 18) rfl rfl fun B hB hκ => ?_
  refine Tr.seq ?_
  refine Tr.region ?_
  refine TrL.stepS 4 (.plain rfl (.assign rfl (.of rfl))) rfl rfl ?_
  refine TrL.stepS 5 (.plain rfl (.assign rfl (.of rfl))) rfl rfl ?_
  refine TrL.nil ?_
  refine Fin.next ?_
  refine Tr.seq ?_
  refine Tr.seq ?_
  refine Tr.region ?_
  refine TrL.stepS 7 (.plain rfl (.move rfl (.of rfl))) rfl rfl ?_
  refine TrL.stepS 8 (.plain rfl (.leq rfl (.of rfl) (.of rfl))) rfl rfl ?_
  refine TrL.nil ?_
  refine Fin.keepG (Γ' := [(0, _), (1, _), (4, _), (5, _), (8, _)]) (.same rfl (.same rfl (.same rfl (.same rfl (.same rfl .nil))))) ?_
  refine Fin.next ?_
  refine Tr.cond rfl (fun hb0 => ?_) (fun hb0 => ?_)
  · try simp only [decide_eq_true_eq, decide_eq_false_iff_not, beq_iff_eq, beq_eq_false_iff_ne, bne_iff_ne, bne_eq_false_iff_eq, Bool.and_eq_true, Bool.and_eq_false_iff, Bool.or_eq_true, Bool.or_eq_false_iff, Bool.not_eq_true', Bool.not_eq_false', gt_iff_lt, ge_iff_le, Int.not_lt, Int.not_le, ne_eq, Int.natCast_nonneg, true_and, and_true, Decidable.not_not, not_true_eq_false, not_false_eq_true] at hb0
    refine Tr.seq ?_
    refine Tr.region ?_
    refine TrL.stepS 4 (.plain rfl (.assign rfl (.of rfl))) rfl rfl ?_
    refine TrL.stepS 5 (.plain rfl (.assign rfl (.of rfl))) rfl rfl ?_
    refine TrL.nil ?_
    refine Fin.next ?_
    refine Tr.ret ?_
    refine Fin.thenRet ?_
    refine Fin.retI (rs := [_, _]) (Rs' := [is (.int .i64 (if d ≤ 0 then 0 else n % d)), is (.int .i64 (if d ≤ 0 then 2 else 0))]) rfl (.cons (.tmp rfl) (.cons (.tmp rfl) .nil)) ?_
    refine (.cons (L.iv ?_) (.cons (L.iv ?_) .nil))
    · rw [if_pos hb0]
    · rw [if_pos hb0]
  · try simp only [decide_eq_true_eq, decide_eq_false_iff_not, beq_iff_eq, beq_eq_false_iff_ne, bne_iff_ne, bne_eq_false_iff_eq, Bool.and_eq_true, Bool.and_eq_false_iff, Bool.or_eq_true, Bool.or_eq_false_iff, Bool.not_eq_true', Bool.not_eq_false', gt_iff_lt, ge_iff_le, Int.not_lt, Int.not_le, ne_eq, Int.natCast_nonneg, true_and, and_true, Decidable.not_not, not_true_eq_false, not_false_eq_true] at hb0
    refine Tr.skip ?_
    refine Fin.next ?_
    refine Tr.seq ?_
    refine Tr.region ?_
    refine TrL.stepS 9 (.plain rfl (.move rfl (.of rfl))) rfl rfl ?_
    refine TrL.stepS 10 (.plain rfl (.move rfl (.of rfl))) rfl rfl ?_
    refine TrL.stepS 11 (.plain rfl (.rem rfl (.of rfl) (.of rfl) (by omega))) rfl rfl ?_
    refine TrL.stepS 6 (.plain rfl (.assign rfl (.of rfl))) rfl rfl ?_
    refine TrL.nil ?_
    refine Fin.keepG (Γ' := [(0, _), (1, _), (4, _), (5, _), (6, _), (8, _)]) (.same rfl (.same rfl (.same rfl (.same rfl (.same rfl (.same rfl .nil)))))) ?_
    refine Fin.next ?_
    refine Tr.seq ?_
    refine Tr.seq ?_
    refine Tr.region ?_
    refine TrL.stepS 12 (.plain rfl (.move rfl (.of rfl))) rfl rfl ?_
    refine TrL.stepS 13 (.plain rfl (.lss rfl (.of rfl) (.of rfl))) rfl rfl ?_
    refine TrL.nil ?_
    refine Fin.keepG (Γ' := [(0, _), (1, _), (4, _), (5, _), (6, _), (8, _), (13, _)]) (.same rfl (.same rfl (.same rfl (.same rfl (.same rfl (.same rfl (.same rfl .nil))))))) ?_
    refine Fin.next ?_
    refine Tr.cond rfl (fun hb1 => ?_) (fun hb1 => ?_)
    · try simp only [decide_eq_true_eq, decide_eq_false_iff_not, beq_iff_eq, beq_eq_false_iff_ne, bne_iff_ne, bne_eq_false_iff_eq, Bool.and_eq_true, Bool.and_eq_false_iff, Bool.or_eq_true, Bool.or_eq_false_iff, Bool.not_eq_true', Bool.not_eq_false', gt_iff_lt, ge_iff_le, Int.not_lt, Int.not_le, ne_eq, Int.natCast_nonneg, true_and, and_true, Decidable.not_not, not_true_eq_false, not_false_eq_true] at hb1
      have hbd := tmod_bd n d (by omega)
      refine Tr.region ?_
      refine TrL.stepS 14 (.plain rfl (.move rfl (.of rfl))) rfl rfl ?_
      refine TrL.stepS 15 (.plain rfl (.move rfl (.of rfl))) rfl rfl ?_
      first | refine TrL.stepS 16 (.plain rfl (.addI L.bd_i64 rfl (.of rfl) (.of rfl) (by omega) (by omega))) rfl rfl ?_ | refine TrL.stepS 16 (.plain rfl (.add rfl (.of rfl) (.of rfl))) rfl rfl ?_
      refine TrL.stepS 6 (.plain rfl (.assign rfl (.of rfl))) rfl rfl ?_
      refine TrL.nil ?_
      refine Fin.keepG (Γ' := [(0, _), (1, _), (4, _), (5, _), (6, _), (8, _), (13, _)]) (.same rfl (.same rfl (.same rfl (.same rfl (.same rfl (.same rfl (.same rfl .nil))))))) ?_
      refine Fin.next ?_
      refine Tr.seq ?_
      refine Tr.region ?_
      refine TrL.stepS 17 (.plain rfl (.move rfl (.of rfl))) rfl rfl ?_
      refine TrL.stepS 4 (.plain rfl (.assign rfl (.of rfl))) rfl rfl ?_
      refine TrL.stepS 5 (.plain rfl (.assign rfl (.of rfl))) rfl rfl ?_
      refine TrL.nil ?_
      refine Fin.keepG (Γ' := [(0, _), (1, _), (4, _), (5, _), (6, _), (8, _), (13, _)]) (.same rfl (.same rfl (.same rfl (.same rfl (.same rfl (.same rfl (.same rfl .nil))))))) ?_
      refine Fin.next ?_
      refine Tr.ret ?_
      refine Fin.retI (rs := [_, _]) (Rs' := [is (.int .i64 (if d ≤ 0 then 0 else n % d)), is (.int .i64 (if d ≤ 0 then 2 else 0))]) rfl (.cons (.tmp rfl) (.cons (.tmp rfl) .nil)) ?_
      refine (.cons (L.iv ?_) (.cons (L.iv ?_) .nil))
      · rw [if_neg (by omega), tmod_neg n d (by omega) hb1]
      · rw [if_neg (by omega)]
    · try simp only [decide_eq_true_eq, decide_eq_false_iff_not, beq_iff_eq, beq_eq_false_iff_ne, bne_iff_ne, bne_eq_false_iff_eq, Bool.and_eq_true, Bool.and_eq_false_iff, Bool.or_eq_true, Bool.or_eq_false_iff, Bool.not_eq_true', Bool.not_eq_false', gt_iff_lt, ge_iff_le, Int.not_lt, Int.not_le, ne_eq, Int.natCast_nonneg, true_and, and_true, Decidable.not_not, not_true_eq_false, not_false_eq_true] at hb1
      refine Tr.skip ?_
      refine Fin.next ?_
      refine Tr.seq ?_
      refine Tr.region ?_
      refine TrL.stepS 17 (.plain rfl (.move rfl (.of rfl))) rfl rfl ?_
      refine TrL.stepS 4 (.plain rfl (.assign rfl (.of rfl))) rfl rfl ?_
      refine TrL.stepS 5 (.plain rfl (.assign rfl (.of rfl))) rfl rfl ?_
      refine TrL.nil ?_
      refine Fin.keepG (Γ' := [(0, _), (1, _), (4, _), (5, _), (6, _), (8, _), (13, _)]) (.same rfl (.same rfl (.same rfl (.same rfl (.same rfl (.same rfl (.same rfl .nil))))))) ?_
      refine Fin.next ?_
      refine Tr.ret ?_
      refine Fin.retI (rs := [_, _]) (Rs' := [is (.int .i64 (if d ≤ 0 then 0 else n % d)), is (.int .i64 (if d ≤ 0 then 2 else 0))]) rfl (.cons (.tmp rfl) (.cons (.tmp rfl) .nil)) ?_
      refine (.cons (L.iv ?_) (.cons (L.iv ?_) .nil))
      · rw [if_neg (by omega), tmod_pos n d (by omega) (by omega)]
      · rw [if_neg (by omega)]

/- tidepool/num.Sub -/
set_option maxRecDepth 100000 in
theorem F71 (a b : Int) (ha : -9223372036854775808 ≤ a ∧ a ≤ 9223372036854775807) (hb : -9223372036854775808 ≤ b ∧ b ≤ 9223372036854775807) : FnP Try.prog 71 [is (.int .i64 a), is (.int .i64 b)] (Tup [is (.int .i64 (if -9223372036854775808 ≤ a - b ∧ a - b ≤ 9223372036854775807 then a - b else 0)), is (.bool (decide (-9223372036854775808 ≤ a - b ∧ a - b ≤ 9223372036854775807)))]) := by
  refine FnP.mk' Try.func71 T.nm71 rfl (N := 23) rfl rfl fun B hB hκ => ?_
  refine Tr.seq ?_
  refine Tr.region ?_
  refine TrL.stepS 4 (.plain rfl (.assign rfl (.of rfl))) rfl rfl ?_
  refine TrL.stepS 5 (.plain rfl (.assign rfl (.of rfl))) rfl rfl ?_
  refine TrL.nil ?_
  refine Fin.next ?_
  refine Tr.seq ?_
  refine Tr.region ?_
  refine TrL.stepS 7 (.plain rfl (.move rfl (.of rfl))) rfl rfl ?_
  refine TrL.stepS 8 (.plain rfl (.move rfl (.of rfl))) rfl rfl ?_
  first | refine TrL.stepS 9 (.plain rfl (.subI L.bd_i64 rfl (.of rfl) (.of rfl) (by omega) (by omega))) rfl rfl ?_ | refine TrL.stepS 9 (.plain rfl (.sub rfl (.of rfl) (.of rfl))) rfl rfl ?_
  refine TrL.stepS 6 (.plain rfl (.assign rfl (.of rfl))) rfl rfl ?_
  refine TrL.nil ?_
  refine Fin.keepG (Γ' := [(0, _), (1, _), (4, _), (5, _), (6, _)]) (.same rfl (.same rfl (.same rfl (.same rfl (.same rfl .nil))))) ?_
  refine Fin.next ?_
  refine Tr.seq ?_
  refine Tr.seq ?_
  refine Tr.region ?_
  refine TrL.stepS 10 (.plain rfl (.move rfl (.of rfl))) rfl rfl ?_
  refine TrL.stepS 11 (.plain rfl (.geq rfl (.of rfl) (.of rfl))) rfl rfl ?_
  refine TrL.stepS 12 (.plain rfl (.move rfl (.of rfl))) rfl rfl ?_
  refine TrL.stepS 13 (.plain rfl (.geq rfl (.of rfl) (.of rfl))) rfl rfl ?_
  refine TrL.stepS 14 (.plain rfl (.neqB rfl (.of rfl) (.of rfl) Try.underlying4)) rfl rfl ?_
  refine TrL.stepS 15 (.plain rfl (.move rfl (.of rfl))) rfl rfl ?_
  refine TrL.stepS 16 (.guarded rfl rfl rfl fun hg => .move rfl (.of rfl)) rfl rfl ?_
  refine TrL.stepS 17 (.guarded rfl rfl rfl fun hg => .geq rfl (.cond rfl hg) (.of rfl)) rfl rfl ?_
  refine TrL.stepS 18 (.guarded rfl rfl rfl fun hg => .move rfl (.of rfl)) rfl rfl ?_
  refine TrL.stepS 19 (.guarded rfl rfl rfl fun hg => .geq rfl (.cond rfl hg) (.of rfl)) rfl rfl ?_
  refine TrL.stepS 20 (.guarded rfl rfl rfl fun hg => .neqB rfl (.cond rfl hg) (.cond rfl hg) Try.underlying4) rfl rfl ?_
  refine TrL.stepS 21 (.plain rfl (.and rfl (.of rfl) (.cond rfl fun h => h))) rfl rfl ?_
  refine TrL.nil ?_
  refine Fin.keepG (Γ' := [(0, _), (1, _), (4, _), (5, _), (6, _), (21, _)]) (.same rfl (.same rfl (.same rfl (.same rfl (.same rfl (.same rfl .nil)))))) ?_
  refine Fin.next ?_
  refine Tr.cond rfl (fun hb0 => ?_) (fun hb0 => ?_)
  · try simp only [decide_eq_true_eq, decide_eq_false_iff_not, beq_iff_eq, beq_eq_false_iff_ne, bne_iff_ne, bne_eq_false_iff_eq, Bool.and_eq_true, Bool.and_eq_false_iff, Bool.or_eq_true, Bool.or_eq_false_iff, Bool.not_eq_true', Bool.not_eq_false', gt_iff_lt, ge_iff_le, Int.not_lt, Int.not_le, ne_eq, Int.natCast_nonneg, true_and, and_true, Decidable.not_not, not_true_eq_false, not_false_eq_true] at hb0
    obtain ⟨q, hq, hw1, hw2⟩ := wrap_ex (a - b)
    simp at hb0
    generalize IntKind.i64.wrap (a - b) = z at *
    refine Tr.seq ?_
    refine Tr.region ?_
    refine TrL.stepS 4 (.plain rfl (.assign rfl (.of rfl))) rfl rfl ?_
    refine TrL.stepS 5 (.plain rfl (.assign rfl (.of rfl))) rfl rfl ?_
    refine TrL.nil ?_
    refine Fin.next ?_
    refine Tr.ret ?_
    refine Fin.thenRet ?_
    refine Fin.retI (rs := [_, _]) (Rs' := [is (.int .i64 (if -9223372036854775808 ≤ a - b ∧ a - b ≤ 9223372036854775807 then a - b else 0)), is (.bool (decide (-9223372036854775808 ≤ a - b ∧ a - b ≤ 9223372036854775807)))]) rfl (.cons (.tmp rfl) (.cons (.tmp rfl) .nil)) ?_
    refine (.cons (L.iv ?_) (.cons (L.iv ?_) .nil))
    · rw [if_neg (by omega)]
    · congr 1; symm; exact decide_eq_false (by omega)
  · try simp only [decide_eq_true_eq, decide_eq_false_iff_not, beq_iff_eq, beq_eq_false_iff_ne, bne_iff_ne, bne_eq_false_iff_eq, Bool.and_eq_true, Bool.and_eq_false_iff, Bool.or_eq_true, Bool.or_eq_false_iff, Bool.not_eq_true', Bool.not_eq_false', gt_iff_lt, ge_iff_le, Int.not_lt, Int.not_le, ne_eq, Int.natCast_nonneg, true_and, and_true, Decidable.not_not, not_true_eq_false, not_false_eq_true] at hb0
    obtain ⟨q, hq, hw1, hw2⟩ := wrap_ex (a - b)
    simp at hb0
    generalize IntKind.i64.wrap (a - b) = z at *
    refine Tr.skip ?_
    refine Fin.next ?_
    refine Tr.seq ?_
    refine Tr.region ?_
    refine TrL.stepS 22 (.plain rfl (.move rfl (.of rfl))) rfl rfl ?_
    refine TrL.stepS 4 (.plain rfl (.assign rfl (.of rfl))) rfl rfl ?_
    refine TrL.stepS 5 (.plain rfl (.assign rfl (.of rfl))) rfl rfl ?_
    refine TrL.nil ?_
    refine Fin.keepG (Γ' := [(0, _), (1, _), (4, _), (5, _), (6, _), (21, _)]) (.same rfl (.same rfl (.same rfl (.same rfl (.same rfl (.same rfl .nil)))))) ?_
    refine Fin.next ?_
    refine Tr.ret ?_
    refine Fin.retI (rs := [_, _]) (Rs' := [is (.int .i64 (if -9223372036854775808 ≤ a - b ∧ a - b ≤ 9223372036854775807 then a - b else 0)), is (.bool (decide (-9223372036854775808 ≤ a - b ∧ a - b ≤ 9223372036854775807)))]) rfl (.cons (.tmp rfl) (.cons (.tmp rfl) .nil)) ?_
    refine (.cons (L.iv ?_) (.cons (L.iv ?_) .nil))
    · rw [if_pos (by omega)]; congr 1; omega
    · congr 1; symm; exact decide_eq_true (by omega)

/- tidepool/num.Down -/
set_option maxRecDepth 100000 in
theorem F76 (n d : Int) (hn : -9223372036854775808 ≤ n ∧ n ≤ 9223372036854775807) (hd : d ≤ 9223372036854775807) : FnP Try.prog 76 [is (.int .i64 n), is (.int .i64 d)] (Tup [is (.int .i64 (if d ≤ 0 then 0 else if -9223372036854775808 ≤ n - n % d then n - n % d else 0)), is (.int .i64 (if d ≤ 0 then 2 else if -9223372036854775808 ≤ n - n % d then 0 else 30))]) := by
  refine FnP.mk' Try.func76 T.nm76 rfl (N := 28) rfl rfl fun B hB hκ => ?_
  refine Tr.seq ?_
  refine Tr.region ?_
  refine TrL.stepS 4 (.plain rfl (.assign rfl (.of rfl))) rfl rfl ?_
  refine TrL.stepS 5 (.plain rfl (.assign rfl (.of rfl))) rfl rfl ?_
  refine TrL.nil ?_
  refine Fin.next ?_
  refine Tr.seq ?_
  refine Tr.region ?_
  refine TrL.stepS 11 (.plain rfl (.move rfl (.of rfl))) rfl rfl ?_
  refine TrL.stepS 12 (.plain rfl (.move rfl (.of rfl))) rfl rfl ?_
  refine TrL.stepS 13 (.plain rfl (.call rfl (F75 n d hd) (.cons (.of rfl) (.cons (.of rfl) .nil)))) rfl rfl ?_
  refine TrL.stepS 10 (.plain rfl (.move rfl (.of rfl))) rfl rfl ?_
  refine TrL.stepS 14 (.plain rfl (.extract rfl (.of rfl) rfl)) rfl rfl ?_
  refine TrL.stepS 15 (.plain rfl (.extract rfl (.of rfl) rfl)) rfl rfl ?_
  refine TrL.stepS 6 (.plain rfl (.assign rfl (.of rfl))) rfl rfl ?_
  refine TrL.stepS 7 (.plain rfl (.assign rfl (.of rfl))) rfl rfl ?_
  refine TrL.nil ?_
  refine Fin.keepG (Γ' := [(0, _), (1, _), (4, _), (5, _), (6, _), (7, _)]) (.same rfl (.same rfl (.same rfl (.same rfl (.same rfl (.same rfl .nil)))))) ?_
  refine Fin.next ?_
  refine Tr.seq ?_
  refine Tr.seq ?_
  refine Tr.region ?_
  refine TrL.stepS 16 (.plain rfl (.move rfl (.of rfl))) rfl rfl ?_
  refine TrL.stepS 17 (.plain rfl (.neq rfl (.of rfl) (.of rfl))) rfl rfl ?_
  refine TrL.nil ?_
  refine Fin.keepG (Γ' := [(0, _), (1, _), (4, _), (5, _), (6, _), (7, _), (17, _)]) (.same rfl (.same rfl (.same rfl (.same rfl (.same rfl (.same rfl (.same rfl .nil))))))) ?_
  refine Fin.next ?_
  refine Tr.cond rfl (fun hb0 => ?_) (fun hb0 => ?_)
  · try simp only [decide_eq_true_eq, decide_eq_false_iff_not, beq_iff_eq, beq_eq_false_iff_ne, bne_iff_ne, bne_eq_false_iff_eq, Bool.and_eq_true, Bool.and_eq_false_iff, Bool.or_eq_true, Bool.or_eq_false_iff, Bool.not_eq_true', Bool.not_eq_false', gt_iff_lt, ge_iff_le, Int.not_lt, Int.not_le, ne_eq, Int.natCast_nonneg, true_and, and_true, Decidable.not_not, not_true_eq_false, not_false_eq_true] at hb0
    have hd0 : d ≤ 0 := Classical.byContradiction fun h => by simp [h] at hb0
    refine Tr.seq ?_
    refine Tr.region ?_
    refine TrL.stepS 18 (.plain rfl (.move rfl (.of rfl))) rfl rfl ?_
    refine TrL.stepS 4 (.plain rfl (.assign rfl (.of rfl))) rfl rfl ?_
    refine TrL.stepS 5 (.plain rfl (.assign rfl (.of rfl))) rfl rfl ?_
    refine TrL.nil ?_
    refine Fin.keepG (Γ' := [(0, _), (1, _), (4, _), (5, _), (6, _), (7, _), (17, _)]) (.same rfl (.same rfl (.same rfl (.same rfl (.same rfl (.same rfl (.same rfl .nil))))))) ?_
    refine Fin.next ?_
    refine Tr.ret ?_
    refine Fin.thenRet ?_
    refine Fin.retI (rs := [_, _]) (Rs' := [is (.int .i64 (if d ≤ 0 then 0 else if -9223372036854775808 ≤ n - n % d then n - n % d else 0)), is (.int .i64 (if d ≤ 0 then 2 else if -9223372036854775808 ≤ n - n % d then 0 else 30))]) rfl (.cons (.tmp rfl) (.cons (.tmp rfl) .nil)) ?_
    refine (.cons (L.iv ?_) (.cons (L.iv ?_) .nil))
    · simp [hd0]
    · simp [hd0]
  · try simp only [decide_eq_true_eq, decide_eq_false_iff_not, beq_iff_eq, beq_eq_false_iff_ne, bne_iff_ne, bne_eq_false_iff_eq, Bool.and_eq_true, Bool.and_eq_false_iff, Bool.or_eq_true, Bool.or_eq_false_iff, Bool.not_eq_true', Bool.not_eq_false', gt_iff_lt, ge_iff_le, Int.not_lt, Int.not_le, ne_eq, Int.natCast_nonneg, true_and, and_true, Decidable.not_not, not_true_eq_false, not_false_eq_true] at hb0
    have hd0 : ¬ d ≤ 0 := fun h => by simp [h] at hb0
    have h1 := Int.emod_nonneg n (show d ≠ 0 by omega)
    refine Tr.skip ?_
    refine Fin.next ?_
    refine Tr.seq ?_
    refine Tr.region ?_
    refine TrL.stepS 20 (.plain rfl (.move rfl (.of rfl))) rfl rfl ?_
    refine TrL.stepS 21 (.plain rfl (.move rfl (.of rfl))) rfl rfl ?_
    refine TrL.stepS 22 (.plain rfl (.call rfl (F71 n (if d ≤ 0 then 0 else n % d) hn (by split; omega; have h1 := Int.emod_nonneg n (show d ≠ 0 by omega); have h2 := Int.emod_lt_of_pos n (show 0 < d by omega); omega)) (.cons (.of rfl) (.cons (.of rfl) .nil)))) rfl rfl ?_
    refine TrL.stepS 19 (.plain rfl (.move rfl (.of rfl))) rfl rfl ?_
    refine TrL.stepS 23 (.plain rfl (.extract rfl (.of rfl) rfl)) rfl rfl ?_
    refine TrL.stepS 24 (.plain rfl (.extract rfl (.of rfl) rfl)) rfl rfl ?_
    refine TrL.stepS 8 (.plain rfl (.assign rfl (.of rfl))) rfl rfl ?_
    refine TrL.stepS 9 (.plain rfl (.assign rfl (.of rfl))) rfl rfl ?_
    refine TrL.nil ?_
    refine Fin.keepG (Γ' := [(0, _), (1, _), (4, _), (5, _), (6, _), (7, _), (8, _), (9, _), (17, _)]) (.same rfl (.same rfl (.same rfl (.same rfl (.same rfl (.same rfl (.same rfl (.same rfl (.same rfl .nil))))))))) ?_
    refine Fin.next ?_
    refine Tr.seq ?_
    refine Tr.seq ?_
    refine Tr.region ?_
    refine TrL.stepS 25 (.plain rfl (.move rfl (.of rfl))) rfl rfl ?_
    refine TrL.stepS 26 (.plain rfl (.not rfl (.of rfl))) rfl rfl ?_
    refine TrL.nil ?_
    refine Fin.keepG (Γ' := [(0, _), (1, _), (4, _), (5, _), (6, _), (7, _), (8, _), (9, _), (17, _), (26, _)]) (.same rfl (.same rfl (.same rfl (.same rfl (.same rfl (.same rfl (.same rfl (.same rfl (.same rfl (.same rfl .nil)))))))))) ?_
    refine Fin.next ?_
    refine Tr.cond rfl (fun hb1 => ?_) (fun hb1 => ?_)
    · try simp only [decide_eq_true_eq, decide_eq_false_iff_not, beq_iff_eq, beq_eq_false_iff_ne, bne_iff_ne, bne_eq_false_iff_eq, Bool.and_eq_true, Bool.and_eq_false_iff, Bool.or_eq_true, Bool.or_eq_false_iff, Bool.not_eq_true', Bool.not_eq_false', gt_iff_lt, ge_iff_le, Int.not_lt, Int.not_le, ne_eq, Int.natCast_nonneg, true_and, and_true, Decidable.not_not, not_true_eq_false, not_false_eq_true] at hb1
      refine Tr.seq ?_
      refine Tr.region ?_
      refine TrL.stepS 4 (.plain rfl (.assign rfl (.of rfl))) rfl rfl ?_
      refine TrL.stepS 5 (.plain rfl (.assign rfl (.of rfl))) rfl rfl ?_
      refine TrL.nil ?_
      refine Fin.next ?_
      refine Tr.ret ?_
      refine Fin.thenRet ?_
      refine Fin.retI (rs := [_, _]) (Rs' := [is (.int .i64 (if d ≤ 0 then 0 else if -9223372036854775808 ≤ n - n % d then n - n % d else 0)), is (.int .i64 (if d ≤ 0 then 2 else if -9223372036854775808 ≤ n - n % d then 0 else 30))]) rfl (.cons (.tmp rfl) (.cons (.tmp rfl) .nil)) ?_
      refine (.cons (L.iv ?_) (.cons (L.iv ?_) .nil))
      · simp [hd0] at hb1 ⊢; intro; omega
      · simp [hd0] at hb1 ⊢; omega
    · try simp only [decide_eq_true_eq, decide_eq_false_iff_not, beq_iff_eq, beq_eq_false_iff_ne, bne_iff_ne, bne_eq_false_iff_eq, Bool.and_eq_true, Bool.and_eq_false_iff, Bool.or_eq_true, Bool.or_eq_false_iff, Bool.not_eq_true', Bool.not_eq_false', gt_iff_lt, ge_iff_le, Int.not_lt, Int.not_le, ne_eq, Int.natCast_nonneg, true_and, and_true, Decidable.not_not, not_true_eq_false, not_false_eq_true] at hb1
      refine Tr.skip ?_
      refine Fin.next ?_
      refine Tr.seq ?_
      refine Tr.region ?_
      refine TrL.stepS 27 (.plain rfl (.move rfl (.of rfl))) rfl rfl ?_
      refine TrL.stepS 4 (.plain rfl (.assign rfl (.of rfl))) rfl rfl ?_
      refine TrL.stepS 5 (.plain rfl (.assign rfl (.of rfl))) rfl rfl ?_
      refine TrL.nil ?_
      refine Fin.keepG (Γ' := [(0, _), (1, _), (4, _), (5, _), (6, _), (7, _), (8, _), (9, _), (17, _), (26, _)]) (.same rfl (.same rfl (.same rfl (.same rfl (.same rfl (.same rfl (.same rfl (.same rfl (.same rfl (.same rfl .nil)))))))))) ?_
      refine Fin.next ?_
      refine Tr.ret ?_
      refine Fin.retI (rs := [_, _]) (Rs' := [is (.int .i64 (if d ≤ 0 then 0 else if -9223372036854775808 ≤ n - n % d then n - n % d else 0)), is (.int .i64 (if d ≤ 0 then 2 else if -9223372036854775808 ≤ n - n % d then 0 else 30))]) rfl (.cons (.tmp rfl) (.cons (.tmp rfl) .nil)) ?_
      refine (.cons (L.iv ?_) (.cons (L.iv ?_) .nil))
      · simp [hd0] at hb1 ⊢; intros; omega
      · simp [hd0] at hb1 ⊢; omega

/- (tidepool/window.Span).Has -/
set_option maxRecDepth 100000 in
theorem F13 (a b t : Int) : FnP Try.prog 13 [is (.agg #[.int .i64 a, .int .i64 b]), is (.int .i64 t)] (is (.bool (decide (a ≤ t ∧ t < b)))) := by
  refine FnP.mk' Try.func13 T.nm13 rfl (N := 15) rfl rfl fun B hB hκ => ?_
  refine Tr.seq ?_
  refine Tr.region ?_
  refine TrL.stepS 2 (.plain rfl (.boxR rfl (.of rfl))) rfl rfl ?_
  refine TrL.stepS 4 (.plain rfl (.assign rfl (.of rfl))) rfl rfl ?_
  refine TrL.nil ?_
  refine Fin.next ?_
  refine Tr.seq ?_
  refine Tr.region ?_
  refine TrL.stepS 5 (.plain rfl (.move rfl (.of rfl))) rfl rfl ?_
  refine TrL.stepS 6 (.plain rfl (.fieldC rfl (.of rfl) T.fl27_0)) rfl rfl ?_
  refine TrL.stepS 7 (.plain rfl (.load1 rfl (.of rfl) T.sc2)) rfl rfl ?_
  refine TrL.stepS 8 (.plain rfl (.geq rfl (.of rfl) (.of rfl))) rfl rfl ?_
  refine TrL.stepS 9 (.plain rfl (.move rfl (.of rfl))) rfl rfl ?_
  refine TrL.stepS 10 (.guarded rfl rfl rfl fun hg => .move rfl (.of rfl)) rfl rfl ?_
  refine TrL.stepS 11 (.guarded rfl rfl rfl fun hg => .fieldC rfl (.of rfl) T.fl27_1) rfl rfl ?_
  refine TrL.stepS 12 (.guarded rfl rfl rfl fun hg => .load1 rfl (.cond rfl hg) T.sc2) rfl rfl ?_
  refine TrL.stepS 13 (.guarded rfl rfl rfl fun hg => .lss rfl (.cond rfl hg) (.cond rfl hg)) rfl rfl ?_
  refine TrL.stepS 14 (.plain rfl (.and rfl (.of rfl) (.cond rfl fun h => h))) rfl rfl ?_
  refine TrL.stepS 4 (.plain rfl (.assign rfl (.of rfl))) rfl rfl ?_
  refine TrL.nil ?_
  refine Fin.keepG (Γ' := [(0, _), (1, _), (2, _), (4, _)]) (.same rfl (.same rfl (.same rfl (.same rfl .nil)))) ?_
  refine Fin.next ?_
  refine Tr.ret ?_
  refine Fin.retI (rs := [_]) (Rs' := [is (.bool (decide (a ≤ t ∧ t < b)))]) rfl (.cons (.tmp rfl) .nil) ?_
  refine (.cons (L.iv ?_) .nil)
  · congr 1; rw [Bool.eq_iff_iff]; simp

/- (tidepool/window.Span).Overlaps -/
set_option maxRecDepth 100000 in
theorem F11 (a b c d : Int) : FnP Try.prog 11 [is (.agg #[.int .i64 a, .int .i64 b]), is (.agg #[.int .i64 c, .int .i64 d])] (is (.bool (decide (max a c < min b d)))) := by
  refine FnP.mk' Try.func11 T.nm11 rfl (N := 16) rfl rfl fun B hB hκ => ?_
  refine Tr.seq ?_
  refine Tr.region ?_
  refine TrL.stepS 2 (.plain rfl (.boxR rfl (.of rfl))) rfl rfl ?_
  refine TrL.stepS 3 (.plain rfl (.boxR rfl (.of rfl))) rfl rfl ?_
  refine TrL.stepS 4 (.plain rfl (.assign rfl (.of rfl))) rfl rfl ?_
  refine TrL.nil ?_
  refine Fin.next ?_
  refine Tr.seq ?_
  refine Tr.region ?_
  refine TrL.stepS 5 (.plain rfl (.fieldC rfl (.of rfl) T.fl27_0)) rfl rfl ?_
  refine TrL.stepS 6 (.plain rfl (.load1 rfl (.of rfl) T.sc2)) rfl rfl ?_
  refine TrL.stepS 7 (.plain rfl (.fieldC rfl (.of rfl) T.fl27_0)) rfl rfl ?_
  refine TrL.stepS 8 (.plain rfl (.load1 rfl (.of rfl) T.sc2)) rfl rfl ?_
  refine TrL.stepS 9 (.plain rfl (.max2 rfl (.of rfl) (.of rfl))) rfl rfl ?_
  refine TrL.stepS 10 (.plain rfl (.fieldC rfl (.of rfl) T.fl27_1)) rfl rfl ?_
  refine TrL.stepS 11 (.plain rfl (.load1 rfl (.of rfl) T.sc2)) rfl rfl ?_
  refine TrL.stepS 12 (.plain rfl (.fieldC rfl (.of rfl) T.fl27_1)) rfl rfl ?_
  refine TrL.stepS 13 (.plain rfl (.load1 rfl (.of rfl) T.sc2)) rfl rfl ?_
  refine TrL.stepS 14 (.plain rfl (.min2 rfl (.of rfl) (.of rfl))) rfl rfl ?_
  refine TrL.stepS 15 (.plain rfl (.lss rfl (.of rfl) (.of rfl))) rfl rfl ?_
  refine TrL.stepS 4 (.plain rfl (.assign rfl (.of rfl))) rfl rfl ?_
  refine TrL.nil ?_
  refine Fin.keepG (Γ' := [(0, _), (1, _), (2, _), (3, _), (4, _)]) (.same rfl (.same rfl (.same rfl (.same rfl (.same rfl .nil))))) ?_
  refine Fin.next ?_
  refine Tr.ret ?_
  refine Fin.retI (rs := [_]) (Rs' := [is (.bool (decide (max a c < min b d)))]) rfl (.cons (.tmp rfl) .nil) ?_
  exact (.cons (L.iv rfl) .nil)

/- tidepool/tidepooltop.meet34 -/
set_option maxRecDepth 100000 in
theorem F12 (a b c d : Int) : FnP Try.prog 12 [is (.agg #[.int .i64 a, .int .i64 b]), is (.agg #[.int .i64 c, .int .i64 d])] (is (.bool (decide (max a c < min b d)))) := by
  refine FnP.mk' Try.func12 T.nm12 rfl (N := 30) rfl rfl fun B hB hκ => ?_
  refine Tr.seq ?_
  refine Tr.region ?_
  refine TrL.stepS 2 (.plain rfl (.boxR rfl (.of rfl))) rfl rfl ?_
  refine TrL.stepS 3 (.plain rfl (.boxR rfl (.of rfl))) rfl rfl ?_
  refine TrL.stepS 4 (.plain rfl (.assign rfl (.of rfl))) rfl rfl ?_
  refine TrL.nil ?_
  refine Fin.next ?_
  refine Tr.seq ?_
  refine Tr.region ?_
  refine TrL.stepS 5 (.plain rfl (.fieldC rfl (.of rfl) T.fl27_0)) rfl rfl ?_
  refine TrL.stepS 6 (.plain rfl (.load1 rfl (.of rfl) T.sc2)) rfl rfl ?_
  refine TrL.stepS 7 (.plain rfl (.fieldC rfl (.of rfl) T.fl27_1)) rfl rfl ?_
  refine TrL.stepS 8 (.plain rfl (.load1 rfl (.of rfl) T.sc2)) rfl rfl ?_
  refine TrL.stepS 9 (.plain rfl (.lss rfl (.of rfl) (.of rfl))) rfl rfl ?_
  refine TrL.stepS 10 (.plain rfl (.move rfl (.of rfl))) rfl rfl ?_
  refine TrL.stepS 11 (.guarded rfl rfl rfl fun hg => .fieldC rfl (.of rfl) T.fl27_0) rfl rfl ?_
  refine TrL.stepS 12 (.guarded rfl rfl rfl fun hg => .load1 rfl (.cond rfl hg) T.sc2) rfl rfl ?_
  refine TrL.stepS 13 (.guarded rfl rfl rfl fun hg => .fieldC rfl (.of rfl) T.fl27_1) rfl rfl ?_
  refine TrL.stepS 14 (.guarded rfl rfl rfl fun hg => .load1 rfl (.cond rfl hg) T.sc2) rfl rfl ?_
  refine TrL.stepS 15 (.guarded rfl rfl rfl fun hg => .lss rfl (.cond rfl hg) (.cond rfl hg)) rfl rfl ?_
  refine TrL.stepS 16 (.plain rfl (.and rfl (.of rfl) (.cond rfl fun h => h))) rfl rfl ?_
  refine TrL.stepS 17 (.plain rfl (.move rfl (.of rfl))) rfl rfl ?_
  refine TrL.stepS 18 (.guarded rfl rfl rfl fun hg => .fieldC rfl (.of rfl) T.fl27_0) rfl rfl ?_
  refine TrL.stepS 19 (.guarded rfl rfl rfl fun hg => .load1 rfl (.cond rfl hg) T.sc2) rfl rfl ?_
  refine TrL.stepS 20 (.guarded rfl rfl rfl fun hg => .fieldC rfl (.of rfl) T.fl27_0) rfl rfl ?_
  refine TrL.stepS 21 (.guarded rfl rfl rfl fun hg => .load1 rfl (.cond rfl hg) T.sc2) rfl rfl ?_
  refine TrL.stepS 22 (.guarded rfl rfl rfl fun hg => .max2 rfl (.cond rfl hg) (.cond rfl hg)) rfl rfl ?_
  refine TrL.stepS 23 (.guarded rfl rfl rfl fun hg => .fieldC rfl (.of rfl) T.fl27_1) rfl rfl ?_
  refine TrL.stepS 24 (.guarded rfl rfl rfl fun hg => .load1 rfl (.cond rfl hg) T.sc2) rfl rfl ?_
  refine TrL.stepS 25 (.guarded rfl rfl rfl fun hg => .fieldC rfl (.of rfl) T.fl27_1) rfl rfl ?_
  refine TrL.stepS 26 (.guarded rfl rfl rfl fun hg => .load1 rfl (.cond rfl hg) T.sc2) rfl rfl ?_
  refine TrL.stepS 27 (.guarded rfl rfl rfl fun hg => .min2 rfl (.cond rfl hg) (.cond rfl hg)) rfl rfl ?_
  refine TrL.stepS 28 (.guarded rfl rfl rfl fun hg => .lss rfl (.cond rfl hg) (.cond rfl hg)) rfl rfl ?_
  refine TrL.stepS 29 (.plain rfl (.and rfl (.of rfl) (.cond rfl fun h => h))) rfl rfl ?_
  refine TrL.stepS 4 (.plain rfl (.assign rfl (.of rfl))) rfl rfl ?_
  refine TrL.nil ?_
  refine Fin.keepG (Γ' := [(0, _), (1, _), (2, _), (3, _), (4, _)]) (.same rfl (.same rfl (.same rfl (.same rfl (.same rfl .nil))))) ?_
  refine Fin.next ?_
  refine Tr.ret ?_
  refine Fin.retI (rs := [_]) (Rs' := [is (.bool (decide (max a c < min b d)))]) rfl (.cons (.tmp rfl) .nil) ?_
  refine (.cons (L.iv ?_) .nil)
  · congr 1; rw [Bool.eq_iff_iff]; simp; omega

/- tidepool/water.timely -/
set_option maxRecDepth 100000 in
theorem F116 (t : Int) : FnP Try.prog 116 [is (.int .i64 t)] (is (.bool (decide (-1099511627776 ≤ t ∧ t ≤ 1099511627776)))) := by
  refine FnP.mk' Try.func116 T.nm116 rfl (N := 9) rfl rfl fun B hB hκ => ?_
  refine Tr.seq ?_
  refine Tr.region ?_
  refine TrL.stepS 2 (.plain rfl (.assign rfl (.of rfl))) rfl rfl ?_
  refine TrL.nil ?_
  refine Fin.next ?_
  refine Tr.seq ?_
  refine Tr.region ?_
  refine TrL.stepS 3 (.plain rfl (.move rfl (.of rfl))) rfl rfl ?_
  refine TrL.stepS 4 (.plain rfl (.geq rfl (.of rfl) (.of rfl))) rfl rfl ?_
  refine TrL.stepS 5 (.plain rfl (.move rfl (.of rfl))) rfl rfl ?_
  refine TrL.stepS 6 (.guarded rfl rfl rfl fun hg => .move rfl (.of rfl)) rfl rfl ?_
  refine TrL.stepS 7 (.guarded rfl rfl rfl fun hg => .leq rfl (.cond rfl hg) (.of rfl)) rfl rfl ?_
  refine TrL.stepS 8 (.plain rfl (.and rfl (.of rfl) (.cond rfl fun h => h))) rfl rfl ?_
  refine TrL.stepS 2 (.plain rfl (.assign rfl (.of rfl))) rfl rfl ?_
  refine TrL.nil ?_
  refine Fin.keepG (Γ' := [(0, _), (2, _)]) (.same rfl (.same rfl .nil)) ?_
  refine Fin.next ?_
  refine Tr.ret ?_
  refine Fin.retI (rs := [_]) (Rs' := [is (.bool (decide (-1099511627776 ≤ t ∧ t ≤ 1099511627776)))]) rfl (.cons (.tmp rfl) .nil) ?_
  refine (.cons (L.iv ?_) .nil)
  · congr 1; rw [Bool.eq_iff_iff]; simp

/- (tidepool/water.Water).Right -/
set_option maxRecDepth 100000 in
theorem F41 (m l : Int) : FnP Try.prog 41 [is (.agg #[.int .i64 m, .int .i64 l])] (is (.bool (rightA m l))) := by
  refine FnP.mk' Try.func41 T.nm41 rfl (N := 23) rfl rfl fun B hB hκ => ?_
  refine Tr.seq ?_
  refine Tr.region ?_
  refine TrL.stepS 1 (.plain rfl (.boxR rfl (.of rfl))) rfl rfl ?_
  refine TrL.stepS 2 (.plain rfl (.assign rfl (.of rfl))) rfl rfl ?_
  refine TrL.nil ?_
  refine Fin.next ?_
  refine Tr.seq ?_
  refine Tr.region ?_
  refine TrL.stepS 3 (.plain rfl (.fieldC rfl (.of rfl) T.fl66_1)) rfl rfl ?_
  refine TrL.stepS 4 (.plain rfl (.load1 rfl (.of rfl) T.sc2)) rfl rfl ?_
  refine TrL.stepS 5 (.plain rfl (.geq rfl (.of rfl) (.of rfl))) rfl rfl ?_
  refine TrL.stepS 6 (.plain rfl (.move rfl (.of rfl))) rfl rfl ?_
  refine TrL.stepS 7 (.guarded rfl rfl rfl fun hg => .fieldC rfl (.of rfl) T.fl66_1) rfl rfl ?_
  refine TrL.stepS 8 (.guarded rfl rfl rfl fun hg => .load1 rfl (.cond rfl hg) T.sc2) rfl rfl ?_
  refine TrL.stepS 9 (.guarded rfl rfl rfl fun hg => .leq rfl (.cond rfl hg) (.of rfl)) rfl rfl ?_
  refine TrL.stepS 10 (.plain rfl (.and rfl (.of rfl) (.cond rfl fun h => h))) rfl rfl ?_
  refine TrL.stepS 11 (.plain rfl (.move rfl (.of rfl))) rfl rfl ?_
  refine TrL.stepS 12 (.guarded rfl rfl rfl fun hg => .load2 rfl (.of rfl) T.ag66) rfl rfl ?_
  refine TrL.stepS 13 (.guarded rfl rfl rfl fun hg => .fieldC rfl (.of rfl) T.fl66_1) rfl rfl ?_
  refine TrL.stepS 14 (.guarded rfl rfl rfl fun hg => .load1 rfl (.cond rfl hg) T.sc2) rfl rfl ?_
  refine TrL.stepS 15 (.guarded rfl rfl rfl fun hg => .build rfl (.cons (.of rfl) (.cons (.cond rfl hg) .nil)) (T.bd66_0_1 _ _)) rfl rfl ?_
  refine TrL.stepS 16 (.guarded rfl rfl rfl fun hg => .eqlS rfl (.cond rfl hg) (.cond rfl hg) (by kernel_rfl) (T.eq66 _ _ _ _)) rfl rfl ?_
  refine TrL.stepS 17 (.guarded rfl rfl rfl fun hg => .move rfl (.cond rfl hg)) rfl rfl ?_
  refine TrL.stepS 18 (.guarded2 rfl rfl rfl fun hp hg => .fieldC rfl (.of rfl) T.fl66_0) rfl rfl ?_
  refine TrL.stepS 19 (.guarded2 rfl rfl rfl fun hp hg => .load1 rfl (.cond rfl ⟨hp, hg⟩) T.sc2) rfl rfl ?_
  refine TrL.stepS 20 (.guarded2 rfl rfl rfl fun hp hg => .call rfl (F116 ..) (.cons (.cond rfl ⟨hp, hg⟩) .nil)) rfl rfl ?_
  refine TrL.stepS 21 (.guarded rfl rfl rfl fun hg => .or rfl (.cond rfl hg) (.cond rfl fun h => ⟨hg, h⟩)) rfl rfl ?_
  refine TrL.stepS 22 (.plain rfl (.and rfl (.of rfl) (.cond rfl fun h => h))) rfl rfl ?_
  refine TrL.stepS 2 (.plain rfl (.assign rfl (.of rfl))) rfl rfl ?_
  refine TrL.nil ?_
  refine Fin.keepG (Γ' := [(0, _), (1, _), (2, _)]) (.same rfl (.same rfl (.same rfl .nil))) ?_
  refine Fin.next ?_
  refine Tr.ret ?_
  refine Fin.retI (rs := [_]) (Rs' := [is (.bool (rightA m l))]) rfl (.cons (.tmp rfl) .nil) ?_
  refine (.cons (L.iv ?_) .nil)
  · congr 1; rw [Bool.eq_iff_iff]; simp [rightA]; try omega

/- tidepool/water.New -/
set_option maxRecDepth 100000 in
theorem F33 (l : Int) : FnP Try.prog 33 [is (.int .i64 l)] (Tup [is (.agg #[.int .i64 (if 0 ≤ l ∧ l ≤ 1048576 then -2199023255552 else 0), .int .i64 (if 0 ≤ l ∧ l ≤ 1048576 then l else 0)]), is (.int .i64 (if 0 ≤ l ∧ l ≤ 1048576 then 0 else 2))]) := by
  refine FnP.mk' Try.func33 T.nm33 rfl (N := 12) rfl rfl fun B hB hκ => ?_
  refine Tr.seq ?_
  refine Tr.region ?_
  refine TrL.allocS 10 (zs := [.int .i64 0, .int .i64 0]) rfl rfl (by kernel_rfl) 2 rfl rfl rfl fun b10 => ?_
  refine TrL.stepS 3 (.plain rfl (.assign rfl (.of rfl))) rfl rfl ?_
  refine TrL.nil ?_
  refine Fin.next ?_
  refine Tr.seq ?_
  refine Tr.region ?_
  refine TrL.stepS 5 (.plain rfl (.move rfl (.of rfl))) rfl rfl ?_
  refine TrL.stepS 6 (.plain rfl (.build rfl (.cons (.of rfl) (.cons (.of rfl) .nil)) (T.bd66_0_1 _ _))) rfl rfl ?_
  refine TrL.allocS 11 (zs := [.int .i64 0, .int .i64 0]) rfl rfl (by kernel_rfl) 4 rfl rfl rfl fun b11 => ?_
  refine TrL.storeW 11 (vs := [_, _]) rfl rfl rfl (.of rfl) (.of rfl) rfl rfl T.sz66 rfl rfl ?_
  refine TrL.nil ?_
  refine Fin.keepG (Γ' := [(0, _), (2, _), (3, _), (4, _)]) (.same rfl (.same rfl (.same rfl (.same rfl .nil)))) ?_
  refine Fin.next ?_
  refine Tr.seq ?_
  refine Tr.seq ?_
  refine Tr.region ?_
  refine TrL.stepS 7 (.plain rfl (.loadBN 11 (k := 2) (ds := [_, _]) rfl (.of rfl) rfl rfl rfl T.ag66 rfl)) rfl rfl ?_
  refine TrL.stepS 8 (.plain rfl (.call rfl (F41 ..) (.cons (.of rfl) .nil))) rfl rfl ?_
  refine TrL.stepS 9 (.plain rfl (.not rfl (.of rfl))) rfl rfl ?_
  refine TrL.nil ?_
  refine Fin.keepG (Γ' := [(0, _), (2, _), (3, _), (4, _), (9, _)]) (.same rfl (.same rfl (.same rfl (.same rfl (.same rfl .nil))))) ?_
  refine Fin.next ?_
  refine Tr.cond rfl (fun hb0 => ?_) (fun hb0 => ?_)
  · try simp only [decide_eq_true_eq, decide_eq_false_iff_not, beq_iff_eq, beq_eq_false_iff_ne, bne_iff_ne, bne_eq_false_iff_eq, Bool.and_eq_true, Bool.and_eq_false_iff, Bool.or_eq_true, Bool.or_eq_false_iff, Bool.not_eq_true', Bool.not_eq_false', gt_iff_lt, ge_iff_le, Int.not_lt, Int.not_le, ne_eq, Int.natCast_nonneg, true_and, and_true, Decidable.not_not, not_true_eq_false, not_false_eq_true] at hb0
    have hn : ¬ (0 ≤ l ∧ l ≤ 1048576) := by simp [rightA] at hb0; omega
    refine Tr.seq ?_
    refine Tr.region ?_
    refine TrL.stepS 10 (.plain rfl (.build rfl .nil (T.bd66))) rfl rfl ?_
    refine TrL.storeW 10 (vs := [_, _]) rfl rfl rfl (.of rfl) (.of rfl) rfl rfl T.sz66 rfl rfl ?_
    refine TrL.stepS 3 (.plain rfl (.assign rfl (.of rfl))) rfl rfl ?_
    refine TrL.nil ?_
    refine Fin.keepG (Γ' := [(0, _), (2, _), (3, _), (4, _), (9, _)]) (.same rfl (.same rfl (.same rfl (.same rfl (.same rfl .nil))))) ?_
    refine Fin.next ?_
    refine Tr.ret ?_
    refine Fin.thenRet ?_
    refine Fin.retI (rs := [_, _]) (Rs' := [is (.agg #[.int .i64 (if 0 ≤ l ∧ l ≤ 1048576 then -2199023255552 else 0), .int .i64 (if 0 ≤ l ∧ l ≤ 1048576 then l else 0)]), is (.int .i64 (if 0 ≤ l ∧ l ≤ 1048576 then 0 else 2))]) rfl (.cons (.cellB 10 (k := 2) (ds := [_, _]) rfl rfl rfl rfl T.ag66 rfl) (.cons (.tmp rfl) .nil)) ?_
    refine (.cons (L.iv ?_) (.cons (L.iv ?_) .nil))
    · rw [if_neg hn, if_neg hn]
    · rw [if_neg hn]
  · try simp only [decide_eq_true_eq, decide_eq_false_iff_not, beq_iff_eq, beq_eq_false_iff_ne, bne_iff_ne, bne_eq_false_iff_eq, Bool.and_eq_true, Bool.and_eq_false_iff, Bool.or_eq_true, Bool.or_eq_false_iff, Bool.not_eq_true', Bool.not_eq_false', gt_iff_lt, ge_iff_le, Int.not_lt, Int.not_le, ne_eq, Int.natCast_nonneg, true_and, and_true, Decidable.not_not, not_true_eq_false, not_false_eq_true] at hb0
    have hn : (0 ≤ l ∧ l ≤ 1048576) := by simp [rightA] at hb0; omega
    refine Tr.skip ?_
    refine Fin.next ?_
    refine Tr.seq ?_
    refine Tr.region ?_
    refine TrL.stepS 11 (.plain rfl (.loadBN 11 (k := 2) (ds := [_, _]) rfl (.of rfl) rfl rfl rfl T.ag66 rfl)) rfl rfl ?_
    refine TrL.storeW 10 (vs := [_, _]) rfl rfl rfl (.of rfl) (.of rfl) rfl rfl T.sz66 rfl rfl ?_
    refine TrL.stepS 3 (.plain rfl (.assign rfl (.of rfl))) rfl rfl ?_
    refine TrL.nil ?_
    refine Fin.keepG (Γ' := [(0, _), (2, _), (3, _), (4, _), (9, _)]) (.same rfl (.same rfl (.same rfl (.same rfl (.same rfl .nil))))) ?_
    refine Fin.next ?_
    refine Tr.ret ?_
    refine Fin.retI (rs := [_, _]) (Rs' := [is (.agg #[.int .i64 (if 0 ≤ l ∧ l ≤ 1048576 then -2199023255552 else 0), .int .i64 (if 0 ≤ l ∧ l ≤ 1048576 then l else 0)]), is (.int .i64 (if 0 ≤ l ∧ l ≤ 1048576 then 0 else 2))]) rfl (.cons (.cellB 10 (k := 2) (ds := [_, _]) rfl rfl rfl rfl T.ag66 rfl) (.cons (.tmp rfl) .nil)) ?_
    refine (.cons (L.iv ?_) (.cons (L.iv ?_) .nil))
    · rw [if_pos hn, if_pos hn]
    · rw [if_pos hn]

/- (tidepool/water.Water).Advance -/
set_option maxRecDepth 100000 in
theorem F34 (m l t : Int) : FnP Try.prog 34 [is (.agg #[.int .i64 m, .int .i64 l]), is (.int .i64 t)] (Tup [is (.agg #[.int .i64 (if rightA m l = true ∧ (-1099511627776 ≤ t ∧ t ≤ 1099511627776) ∧ m ≤ t then t else m), .int .i64 l]), is (.int .i64 (if rightA m l = false then 2 else if ¬ (-1099511627776 ≤ t ∧ t ≤ 1099511627776) then 61 else if t < m then 181 else 0))]) := by
  refine FnP.mk' Try.func34 T.nm34 rfl (N := 25) rfl rfl fun B hB hκ => ?_
  refine Tr.seq ?_
  refine Tr.region ?_
  refine TrL.boxW 10 (cs := [_, _]) rfl rfl (.of rfl) 2 rfl rfl rfl fun b10 => ?_
  refine TrL.allocS 11 (zs := [.int .i64 0, .int .i64 0]) rfl rfl (by kernel_rfl) 4 rfl rfl rfl fun b11 => ?_
  refine TrL.stepS 5 (.plain rfl (.assign rfl (.of rfl))) rfl rfl ?_
  refine TrL.nil ?_
  refine Fin.next ?_
  refine Tr.seq ?_
  refine Tr.block ?_
  refine Tr.seq ?_
  refine Tr.region ?_
  refine TrL.stepS 7 (.plain rfl (.loadBN 10 (k := 2) (ds := [_, _]) rfl (.of rfl) rfl rfl rfl T.ag66 rfl)) rfl rfl ?_
  refine TrL.stepS 8 (.plain rfl (.call rfl (F41 ..) (.cons (.of rfl) .nil))) rfl rfl ?_
  refine TrL.stepS 9 (.plain rfl (.not rfl (.of rfl))) rfl rfl ?_
  refine TrL.stepS 6 (.plain rfl (.assign rfl (.of rfl))) rfl rfl ?_
  refine TrL.nil ?_
  refine Fin.keepG (Γ' := [(0, _), (1, _), (2, _), (4, _), (5, _), (6, _)]) (.same rfl (.same rfl (.same rfl (.same rfl (.same rfl (.same rfl .nil)))))) ?_
  refine Fin.next ?_
  refine Tr.cond rfl (fun hb0 => ?_) (fun hb0 => ?_)
  · try simp only [decide_eq_true_eq, decide_eq_false_iff_not, beq_iff_eq, beq_eq_false_iff_ne, bne_iff_ne, bne_eq_false_iff_eq, Bool.and_eq_true, Bool.and_eq_false_iff, Bool.or_eq_true, Bool.or_eq_false_iff, Bool.not_eq_true', Bool.not_eq_false', gt_iff_lt, ge_iff_le, Int.not_lt, Int.not_le, ne_eq, Int.natCast_nonneg, true_and, and_true, Decidable.not_not, not_true_eq_false, not_false_eq_true] at hb0
    refine Tr.seq ?_
    refine Tr.region ?_
    refine TrL.stepS 10 (.plain rfl (.loadBN 10 (k := 2) (ds := [_, _]) rfl (.of rfl) rfl rfl rfl T.ag66 rfl)) rfl rfl ?_
    refine TrL.storeW 11 (vs := [_, _]) rfl rfl rfl (.of rfl) (.of rfl) rfl rfl T.sz66 rfl rfl ?_
    refine TrL.stepS 5 (.plain rfl (.assign rfl (.of rfl))) rfl rfl ?_
    refine TrL.nil ?_
    refine Fin.keepG (Γ' := [(0, _), (1, _), (2, _), (4, _), (5, _), (6, _)]) (.same rfl (.same rfl (.same rfl (.same rfl (.same rfl (.same rfl .nil)))))) ?_
    refine Fin.next ?_
    refine Tr.ret ?_
    refine Fin.blockRet ?_
    refine Fin.thenRet ?_
    refine Fin.retI (rs := [_, _]) (Rs' := [is (.agg #[.int .i64 (if rightA m l = true ∧ (-1099511627776 ≤ t ∧ t ≤ 1099511627776) ∧ m ≤ t then t else m), .int .i64 l]), is (.int .i64 (if rightA m l = false then 2 else if ¬ (-1099511627776 ≤ t ∧ t ≤ 1099511627776) then 61 else if t < m then 181 else 0))]) rfl (.cons (.cellB 11 (k := 2) (ds := [_, _]) rfl rfl rfl rfl T.ag66 rfl) (.cons (.tmp rfl) .nil)) ?_
    refine (.cons (L.iv ?_) (.cons (L.iv ?_) .nil))
    · simp [hb0]
    · simp [hb0]
  · try simp only [decide_eq_true_eq, decide_eq_false_iff_not, beq_iff_eq, beq_eq_false_iff_ne, bne_iff_ne, bne_eq_false_iff_eq, Bool.and_eq_true, Bool.and_eq_false_iff, Bool.or_eq_true, Bool.or_eq_false_iff, Bool.not_eq_true', Bool.not_eq_false', gt_iff_lt, ge_iff_le, Int.not_lt, Int.not_le, ne_eq, Int.natCast_nonneg, true_and, and_true, Decidable.not_not, not_true_eq_false, not_false_eq_true] at hb0
    refine Tr.seq ?_
    refine Tr.region ?_
    refine TrL.stepS 12 (.plain rfl (.move rfl (.of rfl))) rfl rfl ?_
    refine TrL.stepS 13 (.plain rfl (.call rfl (F116 ..) (.cons (.of rfl) .nil))) rfl rfl ?_
    refine TrL.stepS 14 (.plain rfl (.not rfl (.of rfl))) rfl rfl ?_
    refine TrL.stepS 11 (.plain rfl (.assign rfl (.of rfl))) rfl rfl ?_
    refine TrL.nil ?_
    refine Fin.keepG (Γ' := [(0, _), (1, _), (2, _), (4, _), (5, _), (6, _), (11, _)]) (.same rfl (.same rfl (.same rfl (.same rfl (.same rfl (.same rfl (.same rfl .nil))))))) ?_
    refine Fin.next ?_
    refine Tr.cond rfl (fun hb1 => ?_) (fun hb1 => ?_)
    · try simp only [decide_eq_true_eq, decide_eq_false_iff_not, beq_iff_eq, beq_eq_false_iff_ne, bne_iff_ne, bne_eq_false_iff_eq, Bool.and_eq_true, Bool.and_eq_false_iff, Bool.or_eq_true, Bool.or_eq_false_iff, Bool.not_eq_true', Bool.not_eq_false', gt_iff_lt, ge_iff_le, Int.not_lt, Int.not_le, ne_eq, Int.natCast_nonneg, true_and, and_true, Decidable.not_not, not_true_eq_false, not_false_eq_true] at hb1
      refine Tr.seq ?_
      refine Tr.region ?_
      refine TrL.stepS 15 (.plain rfl (.loadBN 10 (k := 2) (ds := [_, _]) rfl (.of rfl) rfl rfl rfl T.ag66 rfl)) rfl rfl ?_
      refine TrL.storeW 11 (vs := [_, _]) rfl rfl rfl (.of rfl) (.of rfl) rfl rfl T.sz66 rfl rfl ?_
      refine TrL.stepS 5 (.plain rfl (.assign rfl (.of rfl))) rfl rfl ?_
      refine TrL.nil ?_
      refine Fin.keepG (Γ' := [(0, _), (1, _), (2, _), (4, _), (5, _), (6, _), (11, _)]) (.same rfl (.same rfl (.same rfl (.same rfl (.same rfl (.same rfl (.same rfl .nil))))))) ?_
      refine Fin.next ?_
      refine Tr.ret ?_
      refine Fin.blockRet ?_
      refine Fin.thenRet ?_
      refine Fin.retI (rs := [_, _]) (Rs' := [is (.agg #[.int .i64 (if rightA m l = true ∧ (-1099511627776 ≤ t ∧ t ≤ 1099511627776) ∧ m ≤ t then t else m), .int .i64 l]), is (.int .i64 (if rightA m l = false then 2 else if ¬ (-1099511627776 ≤ t ∧ t ≤ 1099511627776) then 61 else if t < m then 181 else 0))]) rfl (.cons (.cellB 11 (k := 2) (ds := [_, _]) rfl rfl rfl rfl T.ag66 rfl) (.cons (.tmp rfl) .nil)) ?_
      refine (.cons (L.iv ?_) (.cons (L.iv ?_) .nil))
      · rw [if_neg (by omega)]
      · rw [if_neg (by simp [hb0]), if_pos (by omega)]
    · try simp only [decide_eq_true_eq, decide_eq_false_iff_not, beq_iff_eq, beq_eq_false_iff_ne, bne_iff_ne, bne_eq_false_iff_eq, Bool.and_eq_true, Bool.and_eq_false_iff, Bool.or_eq_true, Bool.or_eq_false_iff, Bool.not_eq_true', Bool.not_eq_false', gt_iff_lt, ge_iff_le, Int.not_lt, Int.not_le, ne_eq, Int.natCast_nonneg, true_and, and_true, Decidable.not_not, not_true_eq_false, not_false_eq_true] at hb1
      refine Tr.seq ?_
      refine Tr.region ?_
      refine TrL.stepS 17 (.plain rfl (.move rfl (.of rfl))) rfl rfl ?_
      refine TrL.stepS 18 (.plain rfl (.fieldP rfl (.of rfl) T.fl66_0)) rfl rfl ?_
      refine TrL.stepS 19 (.plain rfl (.loadB 10 rfl (.of rfl) rfl rfl rfl T.sc2)) rfl rfl ?_
      refine TrL.stepS 20 (.plain rfl (.lss rfl (.of rfl) (.of rfl))) rfl rfl ?_
      refine TrL.stepS 16 (.plain rfl (.assign rfl (.of rfl))) rfl rfl ?_
      refine TrL.nil ?_
      refine Fin.keepG (Γ' := [(0, _), (1, _), (2, _), (4, _), (5, _), (6, _), (11, _), (16, _)]) (.same rfl (.same rfl (.same rfl (.same rfl (.same rfl (.same rfl (.same rfl (.same rfl .nil)))))))) ?_
      refine Fin.next ?_
      refine Tr.cond rfl (fun hb2 => ?_) (fun hb2 => ?_)
      · try simp only [decide_eq_true_eq, decide_eq_false_iff_not, beq_iff_eq, beq_eq_false_iff_ne, bne_iff_ne, bne_eq_false_iff_eq, Bool.and_eq_true, Bool.and_eq_false_iff, Bool.or_eq_true, Bool.or_eq_false_iff, Bool.not_eq_true', Bool.not_eq_false', gt_iff_lt, ge_iff_le, Int.not_lt, Int.not_le, ne_eq, Int.natCast_nonneg, true_and, and_true, Decidable.not_not, not_true_eq_false, not_false_eq_true] at hb2
        refine Tr.seq ?_
        refine Tr.region ?_
        refine TrL.stepS 21 (.plain rfl (.loadBN 10 (k := 2) (ds := [_, _]) rfl (.of rfl) rfl rfl rfl T.ag66 rfl)) rfl rfl ?_
        refine TrL.storeW 11 (vs := [_, _]) rfl rfl rfl (.of rfl) (.of rfl) rfl rfl T.sz66 rfl rfl ?_
        refine TrL.stepS 5 (.plain rfl (.assign rfl (.of rfl))) rfl rfl ?_
        refine TrL.nil ?_
        refine Fin.keepG (Γ' := [(0, _), (1, _), (2, _), (4, _), (5, _), (6, _), (11, _), (16, _)]) (.same rfl (.same rfl (.same rfl (.same rfl (.same rfl (.same rfl (.same rfl (.same rfl .nil)))))))) ?_
        refine Fin.next ?_
        refine Tr.ret ?_
        refine Fin.blockRet ?_
        refine Fin.thenRet ?_
        refine Fin.retI (rs := [_, _]) (Rs' := [is (.agg #[.int .i64 (if rightA m l = true ∧ (-1099511627776 ≤ t ∧ t ≤ 1099511627776) ∧ m ≤ t then t else m), .int .i64 l]), is (.int .i64 (if rightA m l = false then 2 else if ¬ (-1099511627776 ≤ t ∧ t ≤ 1099511627776) then 61 else if t < m then 181 else 0))]) rfl (.cons (.cellB 11 (k := 2) (ds := [_, _]) rfl rfl rfl rfl T.ag66 rfl) (.cons (.tmp rfl) .nil)) ?_
        refine (.cons (L.iv ?_) (.cons (L.iv ?_) .nil))
        · rw [if_neg (by omega)]
        · rw [if_neg (by simp [hb0]), if_neg (by omega), if_pos (by omega)]
      · try simp only [decide_eq_true_eq, decide_eq_false_iff_not, beq_iff_eq, beq_eq_false_iff_ne, bne_iff_ne, bne_eq_false_iff_eq, Bool.and_eq_true, Bool.and_eq_false_iff, Bool.or_eq_true, Bool.or_eq_false_iff, Bool.not_eq_true', Bool.not_eq_false', gt_iff_lt, ge_iff_le, Int.not_lt, Int.not_le, ne_eq, Int.natCast_nonneg, true_and, and_true, Decidable.not_not, not_true_eq_false, not_false_eq_true] at hb2
        refine Tr.skip ?_
        refine Fin.blockNormal ?_
        refine Fin.next ?_
        refine Tr.seq ?_
        refine Tr.region ?_
        refine TrL.stepS 22 (.plain rfl (.move rfl (.of rfl))) rfl rfl ?_
        refine TrL.stepS 23 (.plain rfl (.fieldP rfl (.of rfl) T.fl66_0)) rfl rfl ?_
        refine TrL.store1 10 rfl rfl rfl (.of rfl) (.of rfl) rfl rfl rfl T.sz2 rfl rfl ?_
        refine TrL.nil ?_
        refine Fin.keepG (Γ' := [(0, _), (1, _), (2, _), (4, _), (5, _), (6, _), (11, _), (16, _)]) (.same rfl (.same rfl (.same rfl (.same rfl (.same rfl (.same rfl (.same rfl (.same rfl .nil)))))))) ?_
        refine Fin.next ?_
        refine Tr.seq ?_
        refine Tr.region ?_
        refine TrL.stepS 24 (.plain rfl (.loadBN 10 (k := 2) (ds := [_, _]) rfl (.of rfl) rfl rfl rfl T.ag66 rfl)) rfl rfl ?_
        refine TrL.storeW 11 (vs := [_, _]) rfl rfl rfl (.of rfl) (.of rfl) rfl rfl T.sz66 rfl rfl ?_
        refine TrL.stepS 5 (.plain rfl (.assign rfl (.of rfl))) rfl rfl ?_
        refine TrL.nil ?_
        refine Fin.keepG (Γ' := [(0, _), (1, _), (2, _), (4, _), (5, _), (6, _), (11, _), (16, _)]) (.same rfl (.same rfl (.same rfl (.same rfl (.same rfl (.same rfl (.same rfl (.same rfl .nil)))))))) ?_
        refine Fin.next ?_
        refine Tr.ret ?_
        refine Fin.retI (rs := [_, _]) (Rs' := [is (.agg #[.int .i64 (if rightA m l = true ∧ (-1099511627776 ≤ t ∧ t ≤ 1099511627776) ∧ m ≤ t then t else m), .int .i64 l]), is (.int .i64 (if rightA m l = false then 2 else if ¬ (-1099511627776 ≤ t ∧ t ≤ 1099511627776) then 61 else if t < m then 181 else 0))]) rfl (.cons (.cellB 11 (k := 2) (ds := [_, _]) rfl rfl rfl rfl T.ag66 rfl) (.cons (.tmp rfl) .nil)) ?_
        refine (.cons (L.iv ?_) (.cons (L.iv ?_) .nil))
        · rw [if_pos (by exact ⟨hb0, hb1, hb2⟩)]
        · rw [if_neg (by simp [hb0]), if_neg (by omega), if_neg (by omega)]

/- (tidepool/water.Water).Late -/
set_option maxRecDepth 100000 in
theorem F35 (m l t : Int) (hm : -2199023255552 ≤ m ∧ m ≤ 2199023255552) : FnP Try.prog 35 [is (.agg #[.int .i64 m, .int .i64 l]), is (.int .i64 t)] (is (.bool (rightA m l && decide (t < m - l)))) := by
  refine FnP.mk' Try.func35 T.nm35 rfl (N := 16) rfl rfl fun B hB hκ => ?_
  refine Tr.seq ?_
  refine Tr.region ?_
  refine TrL.stepS 2 (.plain rfl (.boxR rfl (.of rfl))) rfl rfl ?_
  refine TrL.stepS 4 (.plain rfl (.assign rfl (.of rfl))) rfl rfl ?_
  refine TrL.nil ?_
  refine Fin.next ?_
  refine Tr.seq ?_
  refine Tr.region ?_
  refine TrL.stepS 5 (.plain rfl (.load2 rfl (.of rfl) T.ag66)) rfl rfl ?_
  refine TrL.stepS 6 (.plain rfl (.call rfl (F41 ..) (.cons (.of rfl) .nil))) rfl rfl ?_
  refine TrL.stepS 7 (.plain rfl (.move rfl (.of rfl))) rfl rfl ?_
  refine TrL.stepS 8 (.guarded rfl rfl rfl fun hg => .move rfl (.of rfl)) rfl rfl ?_
  refine TrL.stepS 9 (.guarded rfl rfl rfl fun hg => .fieldC rfl (.of rfl) T.fl66_0) rfl rfl ?_
  refine TrL.stepS 10 (.guarded rfl rfl rfl fun hg => .load1 rfl (.cond rfl hg) T.sc2) rfl rfl ?_
  refine TrL.stepS 11 (.guarded rfl rfl rfl fun hg => .fieldC rfl (.of rfl) T.fl66_1) rfl rfl ?_
  refine TrL.stepS 12 (.guarded rfl rfl rfl fun hg => .load1 rfl (.cond rfl hg) T.sc2) rfl rfl ?_
  first | refine TrL.stepS 13 (.guarded rfl rfl rfl fun hg => .subI L.bd_i64 rfl (.cond rfl hg) (.cond rfl hg) (by first | first | omega | (simp [rightA] at hg; omega) | (simp at hg; first | omega | (simp [rightA] at hg; omega)) | (simp at hg hp; first | omega | (simp [rightA] at hg; omega))) (by first | first | omega | (simp [rightA] at hg; omega) | (simp at hg; first | omega | (simp [rightA] at hg; omega)) | (simp at hg hp; first | omega | (simp [rightA] at hg; omega)))) rfl rfl ?_ | refine TrL.stepS 13 (.guarded rfl rfl rfl fun hg => .sub rfl (.cond rfl hg) (.cond rfl hg)) rfl rfl ?_
  refine TrL.stepS 14 (.guarded rfl rfl rfl fun hg => .lss rfl (.cond rfl hg) (.cond rfl hg)) rfl rfl ?_
  refine TrL.stepS 15 (.plain rfl (.and rfl (.of rfl) (.cond rfl fun h => h))) rfl rfl ?_
  refine TrL.stepS 4 (.plain rfl (.assign rfl (.of rfl))) rfl rfl ?_
  refine TrL.nil ?_
  refine Fin.keepG (Γ' := [(0, _), (1, _), (2, _), (4, _)]) (.same rfl (.same rfl (.same rfl (.same rfl .nil)))) ?_
  refine Fin.next ?_
  refine Tr.ret ?_
  refine Fin.retI (rs := [_]) (Rs' := [is (.bool (rightA m l && decide (t < m - l)))]) rfl (.cons (.tmp rfl) .nil) ?_
  exact (.cons (L.iv rfl) .nil)

/- (tidepool/water.Water).Fired -/
set_option maxRecDepth 100000 in
theorem F36 (m l a b : Int) : FnP Try.prog 36 [is (.agg #[.int .i64 m, .int .i64 l]), is (.agg #[.int .i64 a, .int .i64 b])] (is (.bool (rightA m l && decide (b ≤ m)))) := by
  refine FnP.mk' Try.func36 T.nm36 rfl (N := 14) rfl rfl fun B hB hκ => ?_
  refine Tr.seq ?_
  refine Tr.region ?_
  refine TrL.stepS 2 (.plain rfl (.boxR rfl (.of rfl))) rfl rfl ?_
  refine TrL.stepS 3 (.plain rfl (.boxR rfl (.of rfl))) rfl rfl ?_
  refine TrL.stepS 4 (.plain rfl (.assign rfl (.of rfl))) rfl rfl ?_
  refine TrL.nil ?_
  refine Fin.next ?_
  refine Tr.seq ?_
  refine Tr.region ?_
  refine TrL.stepS 5 (.plain rfl (.load2 rfl (.of rfl) T.ag66)) rfl rfl ?_
  refine TrL.stepS 6 (.plain rfl (.call rfl (F41 ..) (.cons (.of rfl) .nil))) rfl rfl ?_
  refine TrL.stepS 7 (.plain rfl (.move rfl (.of rfl))) rfl rfl ?_
  refine TrL.stepS 8 (.guarded rfl rfl rfl fun hg => .fieldC rfl (.of rfl) T.fl27_1) rfl rfl ?_
  refine TrL.stepS 9 (.guarded rfl rfl rfl fun hg => .load1 rfl (.cond rfl hg) T.sc2) rfl rfl ?_
  refine TrL.stepS 10 (.guarded rfl rfl rfl fun hg => .fieldC rfl (.of rfl) T.fl66_0) rfl rfl ?_
  refine TrL.stepS 11 (.guarded rfl rfl rfl fun hg => .load1 rfl (.cond rfl hg) T.sc2) rfl rfl ?_
  refine TrL.stepS 12 (.guarded rfl rfl rfl fun hg => .leq rfl (.cond rfl hg) (.cond rfl hg)) rfl rfl ?_
  refine TrL.stepS 13 (.plain rfl (.and rfl (.of rfl) (.cond rfl fun h => h))) rfl rfl ?_
  refine TrL.stepS 4 (.plain rfl (.assign rfl (.of rfl))) rfl rfl ?_
  refine TrL.nil ?_
  refine Fin.keepG (Γ' := [(0, _), (1, _), (2, _), (3, _), (4, _)]) (.same rfl (.same rfl (.same rfl (.same rfl (.same rfl .nil))))) ?_
  refine Fin.next ?_
  refine Tr.ret ?_
  refine Fin.retI (rs := [_]) (Rs' := [is (.bool (rightA m l && decide (b ≤ m)))]) rfl (.cons (.tmp rfl) .nil) ?_
  exact (.cons (L.iv rfl) .nil)

/- (tidepool/water.Water).Newly -/
set_option maxRecDepth 100000 in
theorem F42 (m l m' l' a b : Int) : FnP Try.prog 42 [is (.agg #[.int .i64 m, .int .i64 l]), is (.agg #[.int .i64 m', .int .i64 l']), is (.agg #[.int .i64 a, .int .i64 b])] (is (.bool (rightA m' l' && (rightA m l && decide (b ≤ m)) && !(rightA m' l' && decide (b ≤ m'))))) := by
  refine FnP.mk' Try.func42 T.nm42 rfl (N := 26) rfl rfl fun B hB hκ => ?_
  refine Tr.seq ?_
  refine Tr.region ?_
  refine TrL.stepS 3 (.plain rfl (.boxR rfl (.of rfl))) rfl rfl ?_
  refine TrL.stepS 4 (.plain rfl (.boxR rfl (.of rfl))) rfl rfl ?_
  refine TrL.stepS 5 (.plain rfl (.boxR rfl (.of rfl))) rfl rfl ?_
  refine TrL.stepS 6 (.plain rfl (.assign rfl (.of rfl))) rfl rfl ?_
  refine TrL.nil ?_
  refine Fin.next ?_
  refine Tr.seq ?_
  refine Tr.regionK T.mixed (by kernel_rfl) (by kernel_rfl) ?_
  refine ChainK.consS 9 (.plain rfl (.load2 rfl (.of rfl) T.ag66)) rfl ?_
  refine ChainK.consS 10 (.plain rfl (.func1 rfl (.cons (.of rfl) .nil) .nil)) rfl ?_
  refine ChainK.consS 11 (.plain rfl (.load2 rfl (.of rfl) T.ag66)) rfl ?_
  refine ChainK.consS 12 (.plain rfl (.func1 rfl (.cons (.of rfl) .nil) .nil)) rfl ?_
  refine ChainK.consS 7 (.plain rfl (.assign rfl (.of rfl))) rfl ?_
  refine ChainK.consS 8 (.plain rfl (.assign rfl (.of rfl))) rfl ?_
  refine ChainK.nil ?_
  refine Fin.keepG (Γ' := [(0, _), (1, _), (2, _), (3, _), (4, _), (5, _), (6, _), (7, _), (8, _)]) (.same rfl (.same rfl (.same rfl (.same rfl (.same rfl (.same rfl (.same rfl (.same rfl (.same rfl .nil))))))))) ?_
  refine Fin.next ?_
  refine Tr.seq ?_
  refine Tr.region ?_
  refine TrL.stepS 13 (.plain rfl (.load2 rfl (.of rfl) T.ag66)) rfl rfl ?_
  refine TrL.stepS 14 (.plain rfl (.call rfl (F41 ..) (.cons (.of rfl) .nil))) rfl rfl ?_
  refine TrL.stepS 15 (.plain rfl (.move rfl (.of rfl))) rfl rfl ?_
  refine TrL.stepS 16 (.guarded rfl rfl rfl fun hg => .move rfl (.of rfl)) rfl rfl ?_
  refine TrL.stepS 17 (.guarded rfl rfl rfl fun hg => .load2 rfl (.of rfl) T.ag27) rfl rfl ?_
  refine TrL.stepS 18 (.guarded rfl rfl rfl fun hg => .callV (first := [.agg #[.int .i64 m, .int .i64 l]]) (caps := []) rfl (.cond rfl hg) (F36 ..) (.cons (.cond rfl hg) .nil)) rfl rfl ?_
  refine TrL.stepS 19 (.plain rfl (.and rfl (.of rfl) (.cond rfl fun h => h))) rfl rfl ?_
  refine TrL.stepS 20 (.plain rfl (.move rfl (.of rfl))) rfl rfl ?_
  refine TrL.stepS 21 (.guarded rfl rfl rfl fun hg => .move rfl (.of rfl)) rfl rfl ?_
  refine TrL.stepS 22 (.guarded rfl rfl rfl fun hg => .load2 rfl (.of rfl) T.ag27) rfl rfl ?_
  refine TrL.stepS 23 (.guarded rfl rfl rfl fun hg => .callV (first := [.agg #[.int .i64 m', .int .i64 l']]) (caps := []) rfl (.cond rfl hg) (F36 ..) (.cons (.cond rfl hg) .nil)) rfl rfl ?_
  refine TrL.stepS 24 (.guarded rfl rfl rfl fun hg => .not rfl (.cond rfl hg)) rfl rfl ?_
  refine TrL.stepS 25 (.plain rfl (.and rfl (.of rfl) (.cond rfl fun h => h))) rfl rfl ?_
  refine TrL.stepS 6 (.plain rfl (.assign rfl (.of rfl))) rfl rfl ?_
  refine TrL.nil ?_
  refine Fin.keepG (Γ' := [(0, _), (1, _), (2, _), (3, _), (4, _), (5, _), (6, _), (7, _), (8, _)]) (.same rfl (.same rfl (.same rfl (.same rfl (.same rfl (.same rfl (.same rfl (.same rfl (.same rfl .nil))))))))) ?_
  refine Fin.next ?_
  refine Tr.ret ?_
  refine Fin.retI (rs := [_]) (Rs' := [is (.bool (rightA m' l' && (rightA m l && decide (b ≤ m)) && !(rightA m' l' && decide (b ≤ m'))))]) rfl (.cons (.tmp rfl) .nil) ?_
  exact (.cons (L.iv rfl) .nil)

end Go.Proofs.Ytemkogoclljhpaa