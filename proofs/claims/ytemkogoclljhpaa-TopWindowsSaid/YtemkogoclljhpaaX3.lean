import Derived.Test.YtemkogoclljhpaaX2
namespace Go.Proofs.Ytemkogoclljhpaa
open Go Go.Proofs.Ytemkogoclljhpaa.L
set_option linter.unusedVariables false
set_option linter.unusedSimpArgs false

namespace T

end T


theorem w_mod (x d : Int) (hd : 0 < d) : (x.tmod d + d).tmod d = x % d := by
  have hb := tmod_bd x d hd
  by_cases h : x.tmod d < 0
  · rw [tmod_neg x d hd h]
    have h1 := Int.emod_nonneg x (show d ≠ 0 by omega)
    have h2 := Int.emod_lt_of_pos x hd
    rw [Int.tmod_eq_emod_of_nonneg h1, Int.emod_emod_of_dvd x (Int.dvd_refl d)]
  · rw [tmod_pos x d hd (by omega)]
    have h1 := Int.emod_nonneg x (show d ≠ 0 by omega)
    rw [Int.tmod_eq_emod_of_nonneg (by omega), Int.add_emod_right, Int.emod_emod_of_dvd x (Int.dvd_refl d)]
theorem mul_between {d a b : Int} (hd : 0 < d) (h1 : d * (a - 1) < d * b) (h2 : d * b ≤ d * a) : b = a := by
  have e1 : a - 1 < b := Int.lt_of_mul_lt_mul_left h1 (by omega)
  have e2 : b ≤ a := Int.le_of_mul_le_mul_left h2 hd
  omega
/-- the next multiple -/
theorem w_next {st s t cur A : Int} {n i : Nat} (hst : 1 ≤ st) (hs : s = (n : Int) * st) (hA : A = t - t % st - s + st * ((i : Int) + 1)) (h1 : A - st < cur) (h2 : cur ≤ A) :
    (0 < cur % st → cur + (st - cur % st) = A) ∧ (¬ 0 < cur % st → cur = A) := by
  have ht := Int.mul_ediv_add_emod t st
  have hc := Int.mul_ediv_add_emod cur st
  have b1 := Int.emod_nonneg cur (show st ≠ 0 by omega)
  have b2 := Int.emod_lt_of_pos cur (show 0 < st by omega)
  -- A is a multiple
  have eA : A = st * (t / st - n + i + 1) := by
    have e : (n : Int) * st = st * n := Int.mul_comm _ _
    rw [hA, hs, e]
    simp only [Int.mul_add, Int.mul_sub, Int.mul_one]
    omega
  constructor
  · intro hp
    have : cur / st + 1 = t / st - n + i + 1 := by
      refine mul_between (d := st) (by omega) ?_ ?_
      · rw [Int.mul_sub, Int.mul_one, ← eA, Int.mul_add, Int.mul_one]; omega
      · have h3 : st * (cur / st) < st * (t / st - n + i + 1) := by rw [← eA]; omega
        have h4 : cur / st < t / st - n + i + 1 := Int.lt_of_mul_lt_mul_left h3 (by omega)
        exact Int.mul_le_mul_of_nonneg_left (by omega) (by omega)
    rw [eA, ← this, Int.mul_add, Int.mul_one]
    omega
  · intro hp
    have : cur / st = t / st - n + i + 1 := by
      refine mul_between (d := st) (by omega) ?_ ?_
      · rw [Int.mul_sub, Int.mul_one, ← eA]; omega
      · rw [← eA]; omega
    rw [eA, ← this]
    omega
theorem w_last {st s t A : Int} {n i : Nat} (hst : 1 ≤ st) (hs : s = (n : Int) * st) (hA : A = t - t % st - s + st * ((i : Int) + 1)) (hi : i ≤ n) : (A ≤ t ↔ i < n) ∧ A ≤ t + st := by
  have b1 := Int.emod_nonneg t (show st ≠ 0 by omega)
  have b2 := Int.emod_lt_of_pos t (show 0 < st by omega)
  have e : (n : Int) * st = st * n := Int.mul_comm _ _
  have eA : A = t - t % st + st * ((i : Int) + 1 - n) := by rw [hA, hs, e]; simp only [Int.mul_add, Int.mul_sub, Int.mul_one]; omega
  rcases Nat.lt_or_ge i n with h | h
  · have : st * ((i : Int) + 1 - n) ≤ st * 0 := Int.mul_le_mul_of_nonneg_left (by omega) (by omega)
    rw [Int.mul_zero] at this
    omega
  · have : i = n := by omega
    subst this
    have : st * ((i : Int) + 1 - i) = st := by rw [show (i : Int) + 1 - i = 1 by omega, Int.mul_one]
    omega
theorem w_count {st s : Int} {n : Nat} (hst : 1 ≤ st) (hs : s = (n : Int) * st) : (n : Int) ≤ s := by
  have := Int.mul_le_mul_of_nonneg_left hst (show (0 : Int) ≤ n by omega)
  rw [hs]; omega

/- tidepool/tidepooltop.windows34 -/
set_option maxRecDepth 100000 in
theorem F40 (k s l g : Int) (t : Int) (hr : rightW k s l g = true) (ht : -1099511627776 ≤ t ∧ t ≤ 1099511627776) : FnP Try.prog 40 [is (.agg #[.int .u8 k, .int .i64 s, .int .i64 l, .int .i64 g]), is (.int .i64 t)] (Lst spanR (winsOf k s l g t)) := by
  have hw := rightW_iff.1 hr
  refine FnP.mk' Try.func40 T.nm40 rfl (N := 63) rfl rfl fun B hB hκ => ?_
  refine Tr.seq ?_
  refine Tr.region ?_
  refine TrL.stepS 2 (.plain rfl (.boxR rfl (.of rfl))) rfl rfl ?_
  refine TrL.stepS 4 (.plain rfl (.assign rfl (.of rfl))) rfl rfl ?_
  refine TrL.nil ?_
  refine Fin.next ?_
  refine Tr.seq ?_
  refine Tr.region ?_
  refine TrL.stepS 9 (.plain rfl (.fieldC rfl (.of rfl) T.fl30_1)) rfl rfl ?_
  refine TrL.stepS 10 (.plain rfl (.load1 rfl (.of rfl) T.sc2)) rfl rfl ?_
  refine TrL.stepS 5 (.plain rfl (.assign rfl (.of rfl))) rfl rfl ?_
  refine TrL.nil ?_
  refine Fin.keepG (Γ' := [(0, _), (1, _), (2, _), (4, _), (5, _)]) (.same rfl (.same rfl (.same rfl (.same rfl (.same rfl .nil))))) ?_
  refine Fin.next ?_
  refine Tr.seqJ (γ := Unit) (fun _ => ¬ k = 3) (fun _ => []) (fun _ => [(1, is (.int .i64 t)), (2, Cells (List.map is [.int .u8 k, .int .i64 s, .int .i64 l, .int .i64 g])), (4, is (.slice none 0 0)), (5, is (.int .i64 (stepW k s l)))]) ?jx7 ?jk7
  case jx7 =>
    refine Tr.seq ?_
    refine Tr.region ?_
    refine TrL.stepS 11 (.plain rfl (.fieldC rfl (.of rfl) T.fl30_0)) rfl rfl ?_
    refine TrL.stepS 12 (.plain rfl (.load1 rfl (.of rfl) T.sc5)) rfl rfl ?_
    refine TrL.nil ?_
    refine Fin.keepG (Γ' := [(0, _), (1, _), (2, _), (4, _), (5, _), (12, _)]) (.same rfl (.same rfl (.same rfl (.same rfl (.same rfl (.same rfl .nil)))))) ?_
    refine Fin.next ?_
    refine Tr.block ?_
    refine Tr.seq ?_
    refine Tr.region ?_
    refine TrL.stepS 14 (.plain rfl (.eql rfl (.of rfl) (.of rfl))) rfl rfl ?_
    refine TrL.stepS 13 (.plain rfl (.assign rfl (.of rfl))) rfl rfl ?_
    refine TrL.nil ?_
    refine Fin.keepG (Γ' := [(0, _), (1, _), (2, _), (4, _), (5, _), (12, _), (13, _)]) (.same rfl (.same rfl (.same rfl (.same rfl (.same rfl (.same rfl (.same rfl .nil))))))) ?_
    refine Fin.next ?_
    refine Tr.cond rfl (fun hb0 => ?_) (fun hb0 => ?_)
    · try simp only [decide_eq_true_eq, decide_eq_false_iff_not, beq_iff_eq, beq_eq_false_iff_ne, bne_iff_ne, bne_eq_false_iff_eq, Bool.and_eq_true, Bool.and_eq_false_iff, Bool.or_eq_true, Bool.or_eq_false_iff, Bool.not_eq_true', Bool.not_eq_false', gt_iff_lt, ge_iff_le, Int.not_lt, Int.not_le, ne_eq, Int.natCast_nonneg, true_and, and_true, Decidable.not_not, not_true_eq_false, not_false_eq_true] at hb0
      refine Tr.seq ?_
      refine Tr.region ?_
      refine TrL.stepS 15 (.plain rfl (.move rfl (.of rfl))) rfl rfl ?_
      refine TrL.stepS 16 (.plain rfl (.move rfl (.of rfl))) rfl rfl ?_
      refine TrL.stepS 17 (.plain rfl (.fieldC rfl (.of rfl) T.fl30_3)) rfl rfl ?_
      refine TrL.stepS 18 (.plain rfl (.load1 rfl (.of rfl) T.sc2)) rfl rfl ?_
      first | refine TrL.stepS 19 (.plain rfl (.addI L.bd_i64 rfl (.of rfl) (.of rfl) (by omega) (by omega))) rfl rfl ?_ | refine TrL.stepS 19 (.plain rfl (.add rfl (.of rfl) (.of rfl))) rfl rfl ?_
      refine TrL.stepS 20 (.plain rfl (.build rfl (.cons (.of rfl) (.cons (.of rfl) .nil)) (T.bd27_0_1 _ _))) rfl rfl ?_
      refine TrL.stepS 21 (.plain rfl (.slice (K := spanR) (xs := [_]) rfl (.cons (.map (.of rfl) (spanR_elem _ _)) .nil) Try.underlying60 T.sz27 T.zb27 rfl (by decide))) rfl rfl ?_
      refine TrL.stepS 4 (.plain rfl (.assign rfl (.of rfl))) rfl rfl ?_
      refine TrL.nil ?_
      refine Fin.keepG (Γ' := [(0, _), (1, _), (2, _), (4, _), (5, _), (12, _), (13, _)]) (.same rfl (.same rfl (.same rfl (.same rfl (.same rfl (.same rfl (.same rfl .nil))))))) ?_
      refine Fin.next ?_
      refine Tr.ret ?_
      refine Fin.blockRet ?_
      refine Fin.thenRet ?_
      refine Fin.retI (rs := [_]) (Rs' := [Lst spanR (winsOf k s l g t)]) rfl (.cons (.tmp rfl) .nil) ?_
      exact (.cons ((fun v w h => by unfold winsOf; rw [if_pos hb0]; exact h)) .nil)
    · try simp only [decide_eq_true_eq, decide_eq_false_iff_not, beq_iff_eq, beq_eq_false_iff_ne, bne_iff_ne, bne_eq_false_iff_eq, Bool.and_eq_true, Bool.and_eq_false_iff, Bool.or_eq_true, Bool.or_eq_false_iff, Bool.not_eq_true', Bool.not_eq_false', gt_iff_lt, ge_iff_le, Int.not_lt, Int.not_le, ne_eq, Int.natCast_nonneg, true_and, and_true, Decidable.not_not, not_true_eq_false, not_false_eq_true] at hb0
      refine Tr.seq ?_
      refine Tr.region ?_
      refine TrL.stepS 23 (.plain rfl (.eql rfl (.of rfl) (.of rfl))) rfl rfl ?_
      refine TrL.stepS 22 (.plain rfl (.assign rfl (.of rfl))) rfl rfl ?_
      refine TrL.nil ?_
      refine Fin.keepG (Γ' := [(0, _), (1, _), (2, _), (4, _), (5, _), (12, _), (13, _), (22, _)]) (.same rfl (.same rfl (.same rfl (.same rfl (.same rfl (.same rfl (.same rfl (.same rfl .nil)))))))) ?_
      refine Fin.next ?_
      refine Tr.cond rfl (fun hb1 => ?_) (fun hb1 => ?_)
      · try simp only [decide_eq_true_eq, decide_eq_false_iff_not, beq_iff_eq, beq_eq_false_iff_ne, bne_iff_ne, bne_eq_false_iff_eq, Bool.and_eq_true, Bool.and_eq_false_iff, Bool.or_eq_true, Bool.or_eq_false_iff, Bool.not_eq_true', Bool.not_eq_false', gt_iff_lt, ge_iff_le, Int.not_lt, Int.not_le, ne_eq, Int.natCast_nonneg, true_and, and_true, Decidable.not_not, not_true_eq_false, not_false_eq_true] at hb1
        refine Tr.region ?_
        refine TrL.stepS 24 (.plain rfl (.fieldC rfl (.of rfl) T.fl30_2)) rfl rfl ?_
        refine TrL.stepS 25 (.plain rfl (.load1 rfl (.of rfl) T.sc2)) rfl rfl ?_
        refine TrL.stepS 5 (.plain rfl (.assign rfl (.of rfl))) rfl rfl ?_
        refine TrL.nil ?_
        refine Fin.keepG (Γ' := [(0, _), (1, _), (2, _), (4, _), (5, _), (12, _), (13, _), (22, _)]) (.same rfl (.same rfl (.same rfl (.same rfl (.same rfl (.same rfl (.same rfl (.same rfl .nil)))))))) ?_
        refine Fin.blockNormal ?_
        exact Fin.reach (()) (hb0) (.nil) (.same rfl (.same rfl (.same rfl (.eq rfl (by simp [stepW, hb1]) .nil))))
      · try simp only [decide_eq_true_eq, decide_eq_false_iff_not, beq_iff_eq, beq_eq_false_iff_ne, bne_iff_ne, bne_eq_false_iff_eq, Bool.and_eq_true, Bool.and_eq_false_iff, Bool.or_eq_true, Bool.or_eq_false_iff, Bool.not_eq_true', Bool.not_eq_false', gt_iff_lt, ge_iff_le, Int.not_lt, Int.not_le, ne_eq, Int.natCast_nonneg, true_and, and_true, Decidable.not_not, not_true_eq_false, not_false_eq_true] at hb1
        refine Tr.skip ?_
        refine Fin.blockNormal ?_
        exact Fin.reach (()) (hb0) (.nil) (.same rfl (.same rfl (.same rfl (.eq rfl (by simp [stepW, hb1]) .nil))))
  case jk7 =>
    intro u hI
    have hb0 := hI
    obtain ⟨hs1, hs2, hs3, hs4, hs5⟩ := right_step hr hb0
    obtain ⟨st, hst⟩ : ∃ st, st = stepW k s l := ⟨_, rfl⟩
    obtain ⟨n, hn⟩ : ∃ n, n = (s / stepW k s l).toNat := ⟨_, rfl⟩
    rw [← hn, ← hst] at hs5
    rw [← hst] at hs1 hs2
    rw [← hst]
    have hn1 := w_count hs1 hs5
    have hm1 := Int.emod_nonneg t (show st ≠ 0 by omega)
    have hm2 := Int.emod_lt_of_pos t (show 0 < st by omega)
    refine Tr.seq ?_
    refine Tr.region ?_
    refine TrL.stepS 6 (.plain rfl (.assign rfl (.of rfl))) rfl rfl ?_
    refine TrL.nil ?_
    refine Fin.next ?_
    refine Tr.seq ?_
    refine Tr.seq ?_
    refine Tr.own0 30 spanP 27 rfl ?_
    refine Tr.region ?_
    refine TrL.stepS 26 (.plain rfl (.move rfl (.of rfl))) rfl rfl ?_
    refine TrL.stepS 27 (.plain rfl (.fieldC rfl (.of rfl) T.fl30_1)) rfl rfl ?_
    refine TrL.stepS 28 (.plain rfl (.load1 rfl (.of rfl) T.sc2)) rfl rfl ?_
    first | refine TrL.stepS 29 (.plain rfl (.subI L.bd_i64 rfl (.of rfl) (.of rfl) (by omega) (by omega))) rfl rfl ?_ | refine TrL.stepS 29 (.plain rfl (.sub rfl (.of rfl) (.of rfl))) rfl rfl ?_
    first | refine TrL.stepS 30 (.plain rfl (.addI L.bd_i64 rfl (.of rfl) (.of rfl) (by omega) (by omega))) rfl rfl ?_ | refine TrL.stepS 30 (.plain rfl (.add rfl (.of rfl) (.of rfl))) rfl rfl ?_
    refine TrL.stepS 7 (.plain rfl (.assign rfl (.of rfl))) rfl rfl ?_
    refine TrL.nil ?_
    refine Fin.keepG (Γ' := [(1, _), (2, _), (4, _), (5, _), (6, _), (7, _)]) (.same rfl (.same rfl (.same rfl (.same rfl (.same rfl (.same rfl .nil)))))) ?_
    refine Fin.next ?_
    refine Tr.block ?_
    refine Tr.loop (γ := Nat × Int × Value) (fun p => p.1 ≤ n ∧ ((t - t % st - s + st * ((p.1 : Int) + 1) - st < p.2.1 ∧ p.2.1 ≤ t - t % st - s + st * ((p.1 : Int) + 1)) ∨ (p.1 = n ∧ t < p.2.1)) ∧ t - s < p.2.1 ∧ p.2.1 ≤ t + st + 1) (fun p => [(30, Own spanP 27 p.2.2 ((winsOf k s l g t).take p.1))]) (fun p => [(1, is (.int .i64 t)), (2, Cells (List.map is [.int .u8 k, .int .i64 s, .int .i64 l, .int .i64 g])), (5, is (.int .i64 st)), (6, is p.2.2), (7, is (.int .i64 p.2.1))]) (fun p => (t + 1 - p.2.1).toNat) ((0, t - s + 1, .slice none 0 0)) ?h0_0 ?hM_0 ?hG_0 ?hl_0
    case h0_0 => refine ⟨by dsimp only; omega, .inl ⟨?_, ?_⟩, by dsimp only; omega, by dsimp only; omega⟩ <;> dsimp only <;> simp only [Int.mul_add, Int.mul_one, Int.natCast_zero, Int.mul_zero] <;> omega
    case hM_0 => exact (.same rfl .nil)
    case hG_0 => exact (.same rfl (.same rfl (.same rfl (.same rfl (.eq rfl (by rfl) .nil)))))
    case hl_0 =>
      intro p hI
      obtain ⟨i, cur, v⟩ := p
      dsimp only at hI ⊢
      obtain ⟨hi, hc, hc1, hc2⟩ := hI
      refine Tr.seq ?_
      refine Tr.seq ?_
      refine Tr.region ?_
      refine TrL.stepS 31 (.plain rfl (.move rfl (.of rfl))) rfl rfl ?_
      refine TrL.stepS 32 (.plain rfl (.move rfl (.of rfl))) rfl rfl ?_
      refine TrL.stepS 33 (.plain rfl (.leq rfl (.of rfl) (.of rfl))) rfl rfl ?_
      refine TrL.nil ?_
      refine Fin.keepG (Γ' := [(1, _), (2, _), (5, _), (6, _), (7, _), (33, _)]) (.same rfl (.same rfl (.same rfl (.same rfl (.same rfl (.same rfl .nil)))))) ?_
      refine Fin.next ?_
      refine Tr.cond rfl (fun hb2 => ?_) (fun hb2 => ?_)
      · try simp only [decide_eq_true_eq, decide_eq_false_iff_not, beq_iff_eq, beq_eq_false_iff_ne, bne_iff_ne, bne_eq_false_iff_eq, Bool.and_eq_true, Bool.and_eq_false_iff, Bool.or_eq_true, Bool.or_eq_false_iff, Bool.not_eq_true', Bool.not_eq_false', gt_iff_lt, ge_iff_le, Int.not_lt, Int.not_le, ne_eq, Int.natCast_nonneg, true_and, and_true, Decidable.not_not, not_true_eq_false, not_false_eq_true] at hb2
        have hc0 := hc.resolve_right (by omega)
        obtain ⟨A, hA⟩ : ∃ A, A = t - t % st - s + st * ((i : Int) + 1) := ⟨_, rfl⟩
        rw [← hA] at hc0
        have hnx := w_next hs1 hs5 hA hc0.1 hc0.2
        have hla := w_last hs1 hs5 hA hi
        have hm := w_mod cur st (by omega)
        have hbd := tmod_bd cur st (by omega)
        have hme := Int.emod_nonneg cur (show st ≠ 0 by omega)
        have hme2 := Int.emod_lt_of_pos cur (show 0 < st by omega)
        refine Tr.skip ?_
        refine Fin.next ?_
        refine Tr.seq ?_
        refine Tr.block ?_
        refine Tr.seqJ (γ := Unit) (fun _ => True) (fun _ => [(30, Own spanP 27 v ((winsOf k s l g t).take i))]) (fun _ => [(1, is (.int .i64 t)), (2, Cells (List.map is [.int .u8 k, .int .i64 s, .int .i64 l, .int .i64 g])), (5, is (.int .i64 st)), (6, is v), (7, is (.int .i64 A))]) ?jx14 ?jk14
        case jx14 =>
          refine Tr.seq ?_
          refine Tr.region ?_
          refine TrL.stepS 36 (.plain rfl (.move rfl (.of rfl))) rfl rfl ?_
          refine TrL.stepS 37 (.plain rfl (.move rfl (.of rfl))) rfl rfl ?_
          refine TrL.stepS 38 (.plain rfl (.rem rfl (.of rfl) (.of rfl) (by omega))) rfl rfl ?_
          refine TrL.stepS 39 (.plain rfl (.move rfl (.of rfl))) rfl rfl ?_
          first | refine TrL.stepS 40 (.plain rfl (.addI L.bd_i64 rfl (.of rfl) (.of rfl) (by omega) (by omega))) rfl rfl ?_ | refine TrL.stepS 40 (.plain rfl (.add rfl (.of rfl) (.of rfl))) rfl rfl ?_
          refine TrL.stepS 41 (.plain rfl (.move rfl (.of rfl))) rfl rfl ?_
          refine TrL.stepS 42 (.plain rfl (.rem rfl (.of rfl) (.of rfl) (by omega))) rfl rfl ?_
          refine TrL.stepS 8 (.plain rfl (.assign rfl (.of rfl))) rfl rfl ?_
          refine TrL.nil ?_
          refine Fin.keepG (Γ' := [(1, _), (2, _), (5, _), (6, _), (7, _), (8, _), (33, _)]) (.same rfl (.same rfl (.same rfl (.same rfl (.same rfl (.same rfl (.same rfl .nil))))))) ?_
          refine Fin.next ?_
          refine Tr.seq ?_
          refine Tr.region ?_
          refine TrL.stepS 43 (.plain rfl (.move rfl (.of rfl))) rfl rfl ?_
          refine TrL.stepS 44 (.plain rfl (.gtr rfl (.of rfl) (.of rfl))) rfl rfl ?_
          refine TrL.nil ?_
          refine Fin.keepG (Γ' := [(1, _), (2, _), (5, _), (6, _), (7, _), (8, _), (33, _), (44, _)]) (.same rfl (.same rfl (.same rfl (.same rfl (.same rfl (.same rfl (.same rfl (.same rfl .nil)))))))) ?_
          refine Fin.next ?_
          refine Tr.cond rfl (fun hb3 => ?_) (fun hb3 => ?_)
          · try simp only [decide_eq_true_eq, decide_eq_false_iff_not, beq_iff_eq, beq_eq_false_iff_ne, bne_iff_ne, bne_eq_false_iff_eq, Bool.and_eq_true, Bool.and_eq_false_iff, Bool.or_eq_true, Bool.or_eq_false_iff, Bool.not_eq_true', Bool.not_eq_false', gt_iff_lt, ge_iff_le, Int.not_lt, Int.not_le, ne_eq, Int.natCast_nonneg, true_and, and_true, Decidable.not_not, not_true_eq_false, not_false_eq_true] at hb3
            rw [hm] at hb3
            refine Tr.region ?_
            refine TrL.stepS 45 (.plain rfl (.move rfl (.of rfl))) rfl rfl ?_
            refine TrL.stepS 46 (.plain rfl (.move rfl (.of rfl))) rfl rfl ?_
            refine TrL.stepS 47 (.plain rfl (.move rfl (.of rfl))) rfl rfl ?_
            first | refine TrL.stepS 48 (.plain rfl (.subI L.bd_i64 rfl (.of rfl) (.of rfl) (by omega) (by omega))) rfl rfl ?_ | refine TrL.stepS 48 (.plain rfl (.sub rfl (.of rfl) (.of rfl))) rfl rfl ?_
            first | refine TrL.stepS 49 (.plain rfl (.addI L.bd_i64 rfl (.of rfl) (.of rfl) (by omega) (by omega))) rfl rfl ?_ | refine TrL.stepS 49 (.plain rfl (.add rfl (.of rfl) (.of rfl))) rfl rfl ?_
            refine TrL.stepS 7 (.plain rfl (.assign rfl (.of rfl))) rfl rfl ?_
            refine TrL.nil ?_
            refine Fin.keepG (Γ' := [(1, _), (2, _), (5, _), (6, _), (7, _), (8, _), (33, _), (44, _)]) (.same rfl (.same rfl (.same rfl (.same rfl (.same rfl (.same rfl (.same rfl (.same rfl .nil)))))))) ?_
            exact Fin.reach (()) (trivial) (.same rfl .nil) (.same rfl (.same rfl (.same rfl (.same rfl (.eq rfl (by rw [hm]; exact congrArg _ (hnx.1 (by omega))) .nil)))))
          · try simp only [decide_eq_true_eq, decide_eq_false_iff_not, beq_iff_eq, beq_eq_false_iff_ne, bne_iff_ne, bne_eq_false_iff_eq, Bool.and_eq_true, Bool.and_eq_false_iff, Bool.or_eq_true, Bool.or_eq_false_iff, Bool.not_eq_true', Bool.not_eq_false', gt_iff_lt, ge_iff_le, Int.not_lt, Int.not_le, ne_eq, Int.natCast_nonneg, true_and, and_true, Decidable.not_not, not_true_eq_false, not_false_eq_true] at hb3
            rw [hm] at hb3
            refine Tr.skip ?_
            exact Fin.reach (()) (trivial) (.same rfl .nil) (.same rfl (.same rfl (.same rfl (.same rfl (.eq rfl (by exact congrArg _ (hnx.2 (by omega))) .nil)))))
        case jk14 =>
          intro u hI
          refine Tr.seq ?_
          refine Tr.region ?_
          refine TrL.stepS 50 (.plain rfl (.move rfl (.of rfl))) rfl rfl ?_
          refine TrL.stepS 51 (.plain rfl (.move rfl (.of rfl))) rfl rfl ?_
          refine TrL.stepS 52 (.plain rfl (.leq rfl (.of rfl) (.of rfl))) rfl rfl ?_
          refine TrL.nil ?_
          refine Fin.keepG (Γ' := [(1, _), (2, _), (5, _), (6, _), (7, _), (52, _)]) (.same rfl (.same rfl (.same rfl (.same rfl (.same rfl (.same rfl .nil)))))) ?_
          refine Fin.next ?_
          refine Tr.cond rfl (fun hb4 => ?_) (fun hb4 => ?_)
          · try simp only [decide_eq_true_eq, decide_eq_false_iff_not, beq_iff_eq, beq_eq_false_iff_ne, bne_iff_ne, bne_eq_false_iff_eq, Bool.and_eq_true, Bool.and_eq_false_iff, Bool.or_eq_true, Bool.or_eq_false_iff, Bool.not_eq_true', Bool.not_eq_false', gt_iff_lt, ge_iff_le, Int.not_lt, Int.not_le, ne_eq, Int.natCast_nonneg, true_and, and_true, Decidable.not_not, not_true_eq_false, not_false_eq_true] at hb4
            refine Tr.region ?_
            refine TrL.stepS 53 (.plain rfl (.move rfl (.of rfl))) rfl rfl ?_
            refine TrL.stepS 54 (.plain rfl (.move rfl (.of rfl))) rfl rfl ?_
            refine TrL.stepS 55 (.plain rfl (.move rfl (.of rfl))) rfl rfl ?_
            refine TrL.stepS 56 (.plain rfl (.fieldC rfl (.of rfl) T.fl30_1)) rfl rfl ?_
            refine TrL.stepS 57 (.plain rfl (.load1 rfl (.of rfl) T.sc2)) rfl rfl ?_
            first | refine TrL.stepS 58 (.plain rfl (.addI L.bd_i64 rfl (.of rfl) (.of rfl) (by omega) (by omega))) rfl rfl ?_ | refine TrL.stepS 58 (.plain rfl (.add rfl (.of rfl) (.of rfl))) rfl rfl ?_
            refine TrL.stepS 59 (.plain rfl (.build rfl (.cons (.of rfl) (.cons (.of rfl) .nil)) (T.bd27_0_1 _ _))) rfl rfl ?_
            refine TrL.stepS 60 (.plain rfl (.slice (K := spanR) (xs := [_]) rfl (.cons (.map (.of rfl) (spanR_elem _ _)) .nil) Try.underlying60 T.sz27 T.zb27 rfl (by decide))) rfl rfl ?_
            refine TrL.appendS 30 (bytes := 16) rfl rfl 61 rfl rfl (.of rfl) rfl rfl (.of rfl) Try.underlying60 T.el27 (by simp) (by simp only [List.length_take, List.length_cons, List.length_nil]; omega) (by simp only [maxLen, List.length_take, List.length_cons, List.length_nil]; omega) fun v61 => ?_
            refine TrL.stepS 6 (.plain rfl (.assign rfl (.of rfl))) rfl rfl ?_
            refine TrL.nil ?_
            refine Fin.keepG (Γ' := [(1, _), (2, _), (5, _), (6, _), (7, _), (52, _)]) (.same rfl (.same rfl (.same rfl (.same rfl (.same rfl (.same rfl .nil)))))) ?_
            refine Fin.blockNormal ?_
            refine Fin.next ?_
            refine Tr.region ?_
            refine TrL.stepS 34 (.plain rfl (.move rfl (.of rfl))) rfl rfl ?_
            first | refine TrL.stepS 35 (.plain rfl (.addI L.bd_i64 rfl (.of rfl) (.of rfl) (by omega) (by omega))) rfl rfl ?_ | refine TrL.stepS 35 (.plain rfl (.add rfl (.of rfl) (.of rfl))) rfl rfl ?_
            refine TrL.stepS 7 (.plain rfl (.assign rfl (.of rfl))) rfl rfl ?_
            refine TrL.nil ?_
            refine Fin.keepG (Γ' := [(1, _), (2, _), (5, _), (6, _), (7, _), (52, _)]) (.same rfl (.same rfl (.same rfl (.same rfl (.same rfl (.same rfl .nil)))))) ?_
            have hin : i < n := hla.1.1 hb4
            have hget := winAt_get (k := k) (s := s) (l := l) (g := g) (t := t) hb0 (i := i) (by rw [← hn]; exact hin)
            exact Fin.again ((i + 1, A + 1, v61)) (⟨by dsimp only; omega, .inl ⟨by dsimp only; push_cast; simp only [Int.mul_add, Int.mul_one] at hA ⊢; omega, by dsimp only; push_cast; simp only [Int.mul_add, Int.mul_one] at hA ⊢; omega⟩, by dsimp only; omega, by dsimp only; omega⟩) (by dsimp only; omega) (.cons rfl (fun F w h => by rw [take_snoc hget]; simpa [winAt, ← hst, ← hA] using h) .nil) (.same rfl (.same rfl (.same rfl (.same rfl (.eq rfl (by rfl) .nil)))))
          · try simp only [decide_eq_true_eq, decide_eq_false_iff_not, beq_iff_eq, beq_eq_false_iff_ne, bne_iff_ne, bne_eq_false_iff_eq, Bool.and_eq_true, Bool.and_eq_false_iff, Bool.or_eq_true, Bool.or_eq_false_iff, Bool.not_eq_true', Bool.not_eq_false', gt_iff_lt, ge_iff_le, Int.not_lt, Int.not_le, ne_eq, Int.natCast_nonneg, true_and, and_true, Decidable.not_not, not_true_eq_false, not_false_eq_true] at hb4
            refine Tr.skip ?_
            refine Fin.blockNormal ?_
            refine Fin.next ?_
            refine Tr.region ?_
            refine TrL.stepS 34 (.plain rfl (.move rfl (.of rfl))) rfl rfl ?_
            first | refine TrL.stepS 35 (.plain rfl (.addI L.bd_i64 rfl (.of rfl) (.of rfl) (by omega) (by omega))) rfl rfl ?_ | refine TrL.stepS 35 (.plain rfl (.add rfl (.of rfl) (.of rfl))) rfl rfl ?_
            refine TrL.stepS 7 (.plain rfl (.assign rfl (.of rfl))) rfl rfl ?_
            refine TrL.nil ?_
            refine Fin.keepG (Γ' := [(1, _), (2, _), (5, _), (6, _), (7, _), (52, _)]) (.same rfl (.same rfl (.same rfl (.same rfl (.same rfl (.same rfl .nil)))))) ?_
            have hin : i = n := by have := hla.1; omega
            exact Fin.again ((i, A + 1, v)) (⟨by dsimp only; omega, .inr ⟨hin, by dsimp only; omega⟩, by dsimp only; omega, by dsimp only; omega⟩) (by dsimp only; omega) (.same rfl .nil) (.same rfl (.same rfl (.same rfl (.same rfl (.eq rfl (by rfl) .nil)))))
      · try simp only [decide_eq_true_eq, decide_eq_false_iff_not, beq_iff_eq, beq_eq_false_iff_ne, bne_iff_ne, bne_eq_false_iff_eq, Bool.and_eq_true, Bool.and_eq_false_iff, Bool.or_eq_true, Bool.or_eq_false_iff, Bool.not_eq_true', Bool.not_eq_false', gt_iff_lt, ge_iff_le, Int.not_lt, Int.not_le, ne_eq, Int.natCast_nonneg, true_and, and_true, Decidable.not_not, not_true_eq_false, not_false_eq_true] at hb2
        refine Tr.exit ?_
        refine Fin.thenExit ?_
        refine Fin.thenExit ?_
        refine Fin.blockOut ?_
        refine Fin.next ?_
        refine Tr.seq ?_
        refine Tr.region ?_
        refine TrL.stepS 62 (.plain rfl (.move rfl (.of rfl))) rfl rfl ?_
        refine TrL.stepS 4 (.plain rfl (.assign rfl (.of rfl))) rfl rfl ?_
        refine TrL.nil ?_
        refine Fin.keepG (Γ' := [(1, _), (2, _), (4, _), (5, _), (6, _), (7, _), (33, _)]) (.same rfl (.same rfl (.same rfl (.same rfl (.same rfl (.same rfl (.same rfl .nil))))))) ?_
        refine Fin.next ?_
        refine Tr.ret ?_
        have hin : i = n := by
          rcases hc with hc | hc
          · have hla := w_last (A := t - t % st - s + st * ((i : Int) + 1)) hs1 hs5 rfl hi
            omega
          · exact hc.1
        refine Fin.freeze 30 4 rfl rfl rfl ?_
        refine Fin.retI (rs := [_]) (Rs' := [Lst spanR (winsOf k s l g t)]) rfl (.cons (.tmp rfl) .nil) ?_
        exact (.cons ((fun v w h => by rw [List.take_of_length_le (by rw [winAt_len k s l g t hb0, ← hn]; omega)] at h; exact h)) .nil)

end Go.Proofs.Ytemkogoclljhpaa