import Derived.Test.YtemkogoclljhpaaX3
namespace Go.Proofs.Ytemkogoclljhpaa
open Go Go.Proofs.Ytemkogoclljhpaa.L
set_option linter.unusedVariables false
set_option linter.unusedSimpArgs false

namespace T

end T


theorem lst_nil {τ : Type} {K : Rep τ} {v : Value} {w : World} (h : is (.slice none 0 0) v w) : Lst K [] v w := by
  subst h; exact ⟨none, 0, rfl, Nat.le_refl _, fun h => absurd h (by simp)⟩
def timely (t : Int) : Prop := -1099511627776 ≤ t ∧ t ≤ 1099511627776
instance (t : Int) : Decidable (timely t) := inferInstanceAs (Decidable (_ ∧ _))
def ofW (k s l g t : Int) : List (Int × Int) := if rightW k s l g = true ∧ timely t then winsOf k s l g t else []
theorem F76s (n d : Int) (hn : -1099511627776 ≤ n ∧ n ≤ 1099511627776) (hd : 1 ≤ d ∧ d ≤ 1048576) : FnP Try.prog 76 [is (.int .i64 n), is (.int .i64 d)] (Tup [is (.int .i64 (n - n % d)), is (.int .i64 0)]) := by
  have h1 := Int.emod_nonneg n (show d ≠ 0 by omega)
  have h2 := Int.emod_lt_of_pos n (show 0 < d by omega)
  have := F76 n d (by omega) (by omega)
  rwa [if_neg (by omega), if_pos (by omega), if_neg (by omega), if_pos (by omega)] at this
theorem w_in {st s t A : Int} {n i : Nat} (hst : 1 ≤ st) (hs : s = (n : Int) * st) (hA : A = t - t % st - s + st * ((i : Int) + 1)) (hi : i ≤ n) : (A ≤ t - t % st ↔ i < n) ∧ A ≤ t + st ∧ t - s < A := by
  have b1 := Int.emod_nonneg t (show st ≠ 0 by omega)
  have b2 := Int.emod_lt_of_pos t (show 0 < st by omega)
  have e : (n : Int) * st = st * n := Int.mul_comm _ _
  have eA : A = t - t % st + st * ((i : Int) + 1 - n) := by rw [hA, hs, e]; simp only [Int.mul_add, Int.mul_sub, Int.mul_one]; omega
  have h3 : st ≤ st * ((i : Int) + 1) := by
    have := Int.mul_le_mul_of_nonneg_left (show (1 : Int) ≤ (i : Int) + 1 by omega) (show 0 ≤ st by omega)
    rwa [Int.mul_one] at this
  rcases Nat.lt_or_ge i n with h | h
  · have : st * ((i : Int) + 1 - n) ≤ st * 0 := Int.mul_le_mul_of_nonneg_left (by omega) (by omega)
    rw [Int.mul_zero] at this
    omega
  · have : i = n := by omega
    subst this
    have : st * ((i : Int) + 1 - i) = st := by rw [show (i : Int) + 1 - i = 1 by omega, Int.mul_one]
    omega
theorem w_mul {st s t A : Int} {n i : Nat} (hst : 1 ≤ st) (hs : s = (n : Int) * st) (hA : A = t - t % st - s + st * ((i : Int) + 1)) : A.tmod st = 0 := by
  have ht := Int.mul_ediv_add_emod t st
  have eA : A = st * (t / st - n + i + 1) := by
    have e : (n : Int) * st = st * n := Int.mul_comm _ _
    rw [hA, hs, e]
    simp only [Int.mul_add, Int.mul_sub, Int.mul_one]
    omega
  rw [eA]; exact Int.mul_tmod_right _ _
/-- each window of a time holds it, and is one -/
theorem wins_ok {k s l g t : Int} (hr : rightW k s l g = true) (ht : timely t) {i : Nat} {x : Int × Int} (hx : (winsOf k s l g t)[i]? = some x) : (x.1 ≤ t ∧ t < x.2) ∧ isW k s l g x.1 x.2 = true ∧ -2199023255552 ≤ x.1 ∧ x.2 ≤ 2199023255552 := by
  have hw := rightW_iff.1 hr
  unfold timely at ht
  by_cases hk : k = 3
  · simp only [winsOf, if_pos hk] at hx
    have : x = (t, t + g) := by
      cases i with
      | zero => simpa using hx.symm
      | succ i => simp at hx
    subst this
    refine ⟨by dsimp only; omega, ?_, by dsimp only; omega⟩
    simp only [isW, hr, if_pos hk, Bool.true_and, decide_eq_true_eq]
    omega
  · obtain ⟨hs1, hs2, hs3, hs4, hs5⟩ := right_step hr hk
    have hi : i < (s / stepW k s l).toNat := by
      rcases Nat.lt_or_ge i (s / stepW k s l).toNat with h | h
      · exact h
      · rw [List.getElem?_eq_none (by rw [winAt_len _ _ _ _ _ hk]; exact h)] at hx; cases hx
    rw [winAt_get hk hi] at hx
    have hx : x = winAt s (stepW k s l) t i := by simpa using hx.symm
    subst hx
    have h1 := w_in (t := t) (i := i) hs1 hs5 rfl (by omega)
    have h2 := w_mul (t := t) (i := i) hs1 hs5 rfl
    have b1 := Int.emod_nonneg t (show stepW k s l ≠ 0 by omega)
    have b2 := Int.emod_lt_of_pos t (show 0 < stepW k s l by omega)
    have h3 := h1.1.2 hi
    refine ⟨⟨by simp only [winAt]; omega, by simp only [winAt]; omega⟩, ?_, by simp only [winAt]; omega⟩
    simp only [isW, hr, if_neg hk, Bool.true_and, decide_eq_true_eq, winAt]
    refine ⟨trivial, h2, ?_, ?_⟩ <;> omega
def eqB (a b : Int) (x : Int × Int) : Bool := x.1 == a && x.2 == b
/-- a window is one of its own From's -/
theorem wins_own {k s l g a b : Int} (hr : rightW k s l g = true) (hk : k ≠ 3) (ha : -1073741824 ≤ a ∧ a ≤ 1073741824) (hb : -1073741824 ≤ b ∧ b ≤ 1073741824) : isW k s l g a b = (winsOf k s l g a).any (eqB a b) := by
  obtain ⟨hs1, hs2, hs3, hs4, hs5⟩ := right_step hr hk
  have hta : timely a := by unfold timely; omega
  rw [Bool.eq_iff_iff, List.any_eq_true]
  constructor
  · intro h
    have h' := h
    simp only [isW, hr, if_neg hk, Bool.true_and, decide_eq_true_eq] at h'
    have hn : 0 < (s / stepW k s l).toNat := by
      rcases Nat.eq_zero_or_pos (s / stepW k s l).toNat with h | h
      · rw [h] at hs5; simp at hs5; omega
      · exact h
    refine ⟨_, List.mem_of_getElem? (winAt_get hk (i := (s / stepW k s l).toNat - 1) (by omega)), ?_⟩
    have he : a % stepW k s l = 0 := by
      have := tmod_pos a (stepW k s l) (by omega) (by omega); omega
    have h1 : stepW k s l * ((((s / stepW k s l).toNat - 1 : Nat) : Int) + 1) = s := by
      rw [show ((((s / stepW k s l).toNat - 1 : Nat) : Int) + 1) = (s / stepW k s l).toNat by omega, Int.mul_comm]; exact hs5.symm
    simp only [eqB, winAt, h1, he, Bool.and_eq_true, beq_iff_eq]
    omega
  · rintro ⟨x, hx, e⟩
    obtain ⟨i, hx⟩ := List.mem_iff_getElem?.1 hx
    have := (wins_ok hr hta hx).2.1
    simp only [eqB, Bool.and_eq_true, beq_iff_eq] at e
    rw [e.1, e.2] at this
    exact this
theorem isW_3 {k s l g a b : Int} (hr : rightW k s l g = true) (hk : k = 3) (ha : -1073741824 ≤ a ∧ a ≤ 1073741824) (hb : -1073741824 ≤ b ∧ b ≤ 1073741824) : isW k s l g a b = decide (g ≤ b - a) := by
  have hw := rightW_iff.1 hr
  simp only [isW, hr, if_pos hk, Bool.true_and]
  rw [Bool.eq_iff_iff, decide_eq_true_eq, decide_eq_true_eq]
  omega

/- (tidepool/window.Window).Of -/
set_option maxRecDepth 100000 in
theorem F31 (k s l g : Int) (t : Int) : FnP Try.prog 31 [is (.agg #[.int .u8 k, .int .i64 s, .int .i64 l, .int .i64 g]), is (.int .i64 t)] (Lst spanR (ofW k s l g t)) := by
  refine FnP.mk' Try.func31 T.nm31 rfl (N := 60) rfl rfl fun B hB hκ => ?_
  refine Tr.seq ?_
  refine Tr.region ?_
  refine TrL.stepS 2 (.plain rfl (.boxR rfl (.of rfl))) rfl rfl ?_
  refine TrL.stepS 4 (.plain rfl (.assign rfl (.of rfl))) rfl rfl ?_
  refine TrL.nil ?_
  refine Fin.next ?_
  refine Tr.seq ?_
  refine Tr.block ?_
  refine Tr.seq ?_
  refine Tr.region ?_
  refine TrL.stepS 10 (.plain rfl (.load4 rfl (.of rfl) T.ag30)) rfl rfl ?_
  refine TrL.stepS 11 (.plain rfl (.call rfl (F38 ..) (.cons (.of rfl) .nil))) rfl rfl ?_
  refine TrL.stepS 12 (.plain rfl (.not rfl (.of rfl))) rfl rfl ?_
  refine TrL.stepS 13 (.plain rfl (.move rfl (.of rfl))) rfl rfl ?_
  refine TrL.stepS 14 (.guarded rfl rfl rfl fun hg => .move rfl (.of rfl)) rfl rfl ?_
  refine TrL.stepS 15 (.guarded rfl rfl rfl fun hg => .call rfl (F114 ..) (.cons (.cond rfl hg) .nil)) rfl rfl ?_
  refine TrL.stepS 16 (.guarded rfl rfl rfl fun hg => .not rfl (.cond rfl hg)) rfl rfl ?_
  refine TrL.stepS 17 (.plain rfl (.or rfl (.of rfl) (.cond rfl fun h => h))) rfl rfl ?_
  refine TrL.stepS 9 (.plain rfl (.assign rfl (.of rfl))) rfl rfl ?_
  refine TrL.nil ?_
  refine Fin.keepG (Γ' := [(0, _), (1, _), (2, _), (4, _), (9, _)]) (.same rfl (.same rfl (.same rfl (.same rfl (.same rfl .nil))))) ?_
  refine Fin.next ?_
  refine Tr.cond rfl (fun hb0 => ?_) (fun hb0 => ?_)
  · try simp only [decide_eq_true_eq, decide_eq_false_iff_not, beq_iff_eq, beq_eq_false_iff_ne, bne_iff_ne, bne_eq_false_iff_eq, Bool.and_eq_true, Bool.and_eq_false_iff, Bool.or_eq_true, Bool.or_eq_false_iff, Bool.not_eq_true', Bool.not_eq_false', gt_iff_lt, ge_iff_le, Int.not_lt, Int.not_le, ne_eq, Int.natCast_nonneg, true_and, and_true, Decidable.not_not, not_true_eq_false, not_false_eq_true] at hb0
    have hn : ofW k s l g t = [] := by
      unfold ofW; rw [if_neg]; rintro ⟨h1, h2⟩
      rcases hb0 with h | h
      · rw [h1] at h; cases h
      · exact h h2
    refine Tr.seq ?_
    refine Tr.region ?_
    refine TrL.stepS 4 (.plain rfl (.assign rfl (.of rfl))) rfl rfl ?_
    refine TrL.nil ?_
    refine Fin.next ?_
    refine Tr.ret ?_
    refine Fin.blockRet ?_
    refine Fin.thenRet ?_
    refine Fin.retI (rs := [_]) (Rs' := [Lst spanR (ofW k s l g t)]) rfl (.cons (.tmp rfl) .nil) ?_
    exact (.cons ((fun v w h => by rw [hn]; exact lst_nil h)) .nil)
  · try simp only [decide_eq_true_eq, decide_eq_false_iff_not, beq_iff_eq, beq_eq_false_iff_ne, bne_iff_ne, bne_eq_false_iff_eq, Bool.and_eq_true, Bool.and_eq_false_iff, Bool.or_eq_true, Bool.or_eq_false_iff, Bool.not_eq_true', Bool.not_eq_false', gt_iff_lt, ge_iff_le, Int.not_lt, Int.not_le, ne_eq, Int.natCast_nonneg, true_and, and_true, Decidable.not_not, not_true_eq_false, not_false_eq_true] at hb0
    obtain ⟨hr, ht⟩ := hb0
    have hw := rightW_iff.1 hr
    have e : ofW k s l g t = winsOf k s l g t := if_pos ⟨hr, ht⟩
    refine Tr.seq ?_
    refine Tr.region ?_
    refine TrL.stepS 19 (.plain rfl (.fieldC rfl (.of rfl) T.fl30_0)) rfl rfl ?_
    refine TrL.stepS 20 (.plain rfl (.load1 rfl (.of rfl) T.sc5)) rfl rfl ?_
    refine TrL.stepS 21 (.plain rfl (.eql rfl (.of rfl) (.of rfl))) rfl rfl ?_
    refine TrL.stepS 18 (.plain rfl (.assign rfl (.of rfl))) rfl rfl ?_
    refine TrL.nil ?_
    refine Fin.keepG (Γ' := [(0, _), (1, _), (2, _), (4, _), (9, _), (18, _)]) (.same rfl (.same rfl (.same rfl (.same rfl (.same rfl (.same rfl .nil)))))) ?_
    refine Fin.next ?_
    refine Tr.cond rfl (fun hb1 => ?_) (fun hb1 => ?_)
    · try simp only [decide_eq_true_eq, decide_eq_false_iff_not, beq_iff_eq, beq_eq_false_iff_ne, bne_iff_ne, bne_eq_false_iff_eq, Bool.and_eq_true, Bool.and_eq_false_iff, Bool.or_eq_true, Bool.or_eq_false_iff, Bool.not_eq_true', Bool.not_eq_false', gt_iff_lt, ge_iff_le, Int.not_lt, Int.not_le, ne_eq, Int.natCast_nonneg, true_and, and_true, Decidable.not_not, not_true_eq_false, not_false_eq_true] at hb1
      refine Tr.seq ?_
      refine Tr.region ?_
      refine TrL.stepS 22 (.plain rfl (.move rfl (.of rfl))) rfl rfl ?_
      refine TrL.stepS 23 (.plain rfl (.move rfl (.of rfl))) rfl rfl ?_
      refine TrL.stepS 24 (.plain rfl (.fieldC rfl (.of rfl) T.fl30_3)) rfl rfl ?_
      refine TrL.stepS 25 (.plain rfl (.load1 rfl (.of rfl) T.sc2)) rfl rfl ?_
      first | refine TrL.stepS 26 (.plain rfl (.addI L.bd_i64 rfl (.of rfl) (.of rfl) (by omega) (by omega))) rfl rfl ?_ | refine TrL.stepS 26 (.plain rfl (.add rfl (.of rfl) (.of rfl))) rfl rfl ?_
      refine TrL.stepS 27 (.plain rfl (.build rfl (.cons (.of rfl) (.cons (.of rfl) .nil)) (T.bd27_0_1 _ _))) rfl rfl ?_
      refine TrL.stepS 28 (.plain rfl (.slice (K := spanR) (xs := [_]) rfl (.cons (.map (.of rfl) (spanR_elem _ _)) .nil) Try.underlying60 T.sz27 T.zb27 rfl (by decide))) rfl rfl ?_
      refine TrL.stepS 4 (.plain rfl (.assign rfl (.of rfl))) rfl rfl ?_
      refine TrL.nil ?_
      refine Fin.keepG (Γ' := [(0, _), (1, _), (2, _), (4, _), (9, _), (18, _)]) (.same rfl (.same rfl (.same rfl (.same rfl (.same rfl (.same rfl .nil)))))) ?_
      refine Fin.next ?_
      refine Tr.ret ?_
      refine Fin.blockRet ?_
      refine Fin.thenRet ?_
      refine Fin.retI (rs := [_]) (Rs' := [Lst spanR (ofW k s l g t)]) rfl (.cons (.tmp rfl) .nil) ?_
      exact (.cons ((fun v w h => by rw [e]; unfold winsOf; rw [if_pos hb1]; exact h)) .nil)
    · try simp only [decide_eq_true_eq, decide_eq_false_iff_not, beq_iff_eq, beq_eq_false_iff_ne, bne_iff_ne, bne_eq_false_iff_eq, Bool.and_eq_true, Bool.and_eq_false_iff, Bool.or_eq_true, Bool.or_eq_false_iff, Bool.not_eq_true', Bool.not_eq_false', gt_iff_lt, ge_iff_le, Int.not_lt, Int.not_le, ne_eq, Int.natCast_nonneg, true_and, and_true, Decidable.not_not, not_true_eq_false, not_false_eq_true] at hb1
      have hb0 := hb1
      obtain ⟨hs1, hs2, hs3, hs4, hs5⟩ := right_step hr hb0
      obtain ⟨st, hst⟩ : ∃ st, st = stepW k s l := ⟨_, rfl⟩
      obtain ⟨n, hn⟩ : ∃ n, n = (s / stepW k s l).toNat := ⟨_, rfl⟩
      rw [← hn, ← hst] at hs5
      rw [← hst] at hs1 hs2
      have hn1 := w_count hs1 hs5
      have hm1 := Int.emod_nonneg t (show st ≠ 0 by omega)
      have hm2 := Int.emod_lt_of_pos t (show 0 < st by omega)
      have F115 : FnP Try.prog 115 [is (.agg #[.int .u8 k, .int .i64 s, .int .i64 l, .int .i64 g])] (is (.int .i64 st)) := hst ▸ F115 k s l g
      refine Tr.skip ?_
      refine Fin.blockNormal ?_
      refine Fin.next ?_
      refine Tr.seq ?_
      refine Tr.region ?_
      refine TrL.stepS 30 (.plain rfl (.move rfl (.of rfl))) rfl rfl ?_
      refine TrL.stepS 31 (.plain rfl (.load4 rfl (.of rfl) T.ag30)) rfl rfl ?_
      refine TrL.stepS 32 (.plain rfl (.call rfl (F115 ..) (.cons (.of rfl) .nil))) rfl rfl ?_
      refine TrL.stepS 33 (.plain rfl (.call rfl (F76s t st ht ⟨hs1, hs2⟩) (.cons (.of rfl) (.cons (.of rfl) .nil)))) rfl rfl ?_
      refine TrL.stepS 29 (.plain rfl (.move rfl (.of rfl))) rfl rfl ?_
      refine TrL.stepS 34 (.plain rfl (.extract rfl (.of rfl) rfl)) rfl rfl ?_
      refine TrL.stepS 35 (.plain rfl (.extract rfl (.of rfl) rfl)) rfl rfl ?_
      refine TrL.stepS 5 (.plain rfl (.assign rfl (.of rfl))) rfl rfl ?_
      refine TrL.stepS 6 (.plain rfl (.assign rfl (.of rfl))) rfl rfl ?_
      refine TrL.nil ?_
      refine Fin.keepG (Γ' := [(0, _), (1, _), (2, _), (4, _), (5, _), (9, _), (18, _)]) (.same rfl (.same rfl (.same rfl (.same rfl (.same rfl (.same rfl (.same rfl .nil))))))) ?_
      refine Fin.next ?_
      refine Tr.seq ?_
      refine Tr.own0 30 spanP 27 rfl ?_
      refine Tr.region ?_
      refine TrL.stepS 7 (.plain rfl (.assign rfl (.of rfl))) rfl rfl ?_
      refine TrL.nil ?_
      refine Fin.next ?_
      refine Tr.seq ?_
      refine Tr.seq ?_
      refine Tr.regionK T.mixed (by kernel_rfl) (by kernel_rfl) ?_
      refine ChainK.consS 36 (.plain rfl (.move rfl (.of rfl))) rfl ?_
      refine ChainK.consS 37 (.plain rfl (.fieldC rfl (.of rfl) T.fl30_1)) rfl ?_
      refine ChainK.consS 38 (.plain rfl (.load1 rfl (.of rfl) T.sc2)) rfl ?_
      first | refine ChainK.consS 39 (.plain rfl (.subI L.bd_i64 rfl (.of rfl) (.of rfl) (by omega) (by omega))) rfl ?_ | refine ChainK.consS 39 (.plain rfl (.sub rfl (.of rfl) (.of rfl))) rfl ?_
      refine ChainK.consS 40 (.plain rfl (.load4 rfl (.of rfl) T.ag30)) rfl ?_
      refine ChainK.consS 41 (.plain rfl (.call rfl (F115 ..) (.cons (.of rfl) .nil))) rfl ?_
      first | refine ChainK.consS 42 (.plain rfl (.addI L.bd_i64 rfl (.of rfl) (.of rfl) (by omega) (by omega))) rfl ?_ | refine ChainK.consS 42 (.plain rfl (.add rfl (.of rfl) (.of rfl))) rfl ?_
      refine ChainK.consS 8 (.plain rfl (.assign rfl (.of rfl))) rfl ?_
      refine ChainK.nil ?_
      refine Fin.keepG (Γ' := [(0, _), (1, _), (2, _), (4, _), (5, _), (7, _), (8, _), (9, _), (18, _)]) (.same rfl (.same rfl (.same rfl (.same rfl (.same rfl (.same rfl (.same rfl (.same rfl (.same rfl .nil))))))))) ?_
      refine Fin.next ?_
      refine Tr.block ?_
      refine Tr.loop (γ := Nat × Value) (fun p => p.1 ≤ n) (fun p => [(30, Own spanP 27 p.2 ((winsOf k s l g t).take p.1))]) (fun p => [(2, Cells (List.map is [.int .u8 k, .int .i64 s, .int .i64 l, .int .i64 g])), (5, is (.int .i64 (t - t % st))), (7, is p.2), (8, is (.int .i64 (t - t % st - s + st * ((p.1 : Int) + 1))))]) (fun p => n - p.1) ((0, .slice none 0 0)) ?h0_0 ?hM_0 ?hG_0 ?hl_0
      case h0_0 => exact Nat.zero_le _
      case hM_0 => exact (.same rfl .nil)
      case hG_0 => exact (.same rfl (.same rfl (.eq rfl (by rfl) (.eq rfl (by congr 1; simp; try omega) .nil))))
      case hl_0 =>
        intro p hI
        obtain ⟨i, v⟩ := p
        dsimp only at hI ⊢
        obtain ⟨A, hA⟩ : ∃ A, A = t - t % st - s + st * ((i : Int) + 1) := ⟨_, rfl⟩
        rw [← hA]
        have hin := w_in hs1 hs5 hA hI
        refine Tr.seq ?_
        refine Tr.seq ?_
        refine Tr.region ?_
        refine TrL.stepS 43 (.plain rfl (.move rfl (.of rfl))) rfl rfl ?_
        refine TrL.stepS 44 (.plain rfl (.move rfl (.of rfl))) rfl rfl ?_
        refine TrL.stepS 45 (.plain rfl (.leq rfl (.of rfl) (.of rfl))) rfl rfl ?_
        refine TrL.nil ?_
        refine Fin.keepG (Γ' := [(2, _), (5, _), (7, _), (8, _), (45, _)]) (.same rfl (.same rfl (.same rfl (.same rfl (.same rfl .nil))))) ?_
        refine Fin.next ?_
        refine Tr.cond rfl (fun hb2 => ?_) (fun hb2 => ?_)
        · try simp only [decide_eq_true_eq, decide_eq_false_iff_not, beq_iff_eq, beq_eq_false_iff_ne, bne_iff_ne, bne_eq_false_iff_eq, Bool.and_eq_true, Bool.and_eq_false_iff, Bool.or_eq_true, Bool.or_eq_false_iff, Bool.not_eq_true', Bool.not_eq_false', gt_iff_lt, ge_iff_le, Int.not_lt, Int.not_le, ne_eq, Int.natCast_nonneg, true_and, and_true, Decidable.not_not, not_true_eq_false, not_false_eq_true] at hb2
          refine Tr.skip ?_
          refine Fin.next ?_
          refine Tr.seq ?_
          refine Tr.block ?_
          refine Tr.region ?_
          refine TrL.stepS 50 (.plain rfl (.move rfl (.of rfl))) rfl rfl ?_
          refine TrL.stepS 51 (.plain rfl (.move rfl (.of rfl))) rfl rfl ?_
          refine TrL.stepS 52 (.plain rfl (.move rfl (.of rfl))) rfl rfl ?_
          refine TrL.stepS 53 (.plain rfl (.fieldC rfl (.of rfl) T.fl30_1)) rfl rfl ?_
          refine TrL.stepS 54 (.plain rfl (.load1 rfl (.of rfl) T.sc2)) rfl rfl ?_
          first | refine TrL.stepS 55 (.plain rfl (.addI L.bd_i64 rfl (.of rfl) (.of rfl) (by omega) (by omega))) rfl rfl ?_ | refine TrL.stepS 55 (.plain rfl (.add rfl (.of rfl) (.of rfl))) rfl rfl ?_
          refine TrL.stepS 56 (.plain rfl (.build rfl (.cons (.of rfl) (.cons (.of rfl) .nil)) (T.bd27_0_1 _ _))) rfl rfl ?_
          refine TrL.stepS 57 (.plain rfl (.slice (K := spanR) (xs := [_]) rfl (.cons (.map (.of rfl) (spanR_elem _ _)) .nil) Try.underlying60 T.sz27 T.zb27 rfl (by decide))) rfl rfl ?_
          refine TrL.appendS 30 (bytes := 16) rfl rfl 58 rfl rfl (.of rfl) rfl rfl (.of rfl) Try.underlying60 T.el27 (by simp) (by simp only [List.length_take, List.length_cons, List.length_nil]; omega) (by simp only [maxLen, List.length_take, List.length_cons, List.length_nil]; omega) fun v58 => ?_
          refine TrL.stepS 7 (.plain rfl (.assign rfl (.of rfl))) rfl rfl ?_
          refine TrL.nil ?_
          refine Fin.keepG (Γ' := [(2, _), (5, _), (7, _), (8, _), (45, _)]) (.same rfl (.same rfl (.same rfl (.same rfl (.same rfl .nil))))) ?_
          refine Fin.blockNormal ?_
          refine Fin.next ?_
          refine Tr.region ?_
          refine TrL.stepS 46 (.plain rfl (.move rfl (.of rfl))) rfl rfl ?_
          refine TrL.stepS 47 (.plain rfl (.load4 rfl (.of rfl) T.ag30)) rfl rfl ?_
          refine TrL.stepS 48 (.plain rfl (.call rfl (F115 ..) (.cons (.of rfl) .nil))) rfl rfl ?_
          first | refine TrL.stepS 49 (.plain rfl (.addI L.bd_i64 rfl (.of rfl) (.of rfl) (by omega) (by omega))) rfl rfl ?_ | refine TrL.stepS 49 (.plain rfl (.add rfl (.of rfl) (.of rfl))) rfl rfl ?_
          refine TrL.stepS 8 (.plain rfl (.assign rfl (.of rfl))) rfl rfl ?_
          refine TrL.nil ?_
          refine Fin.keepG (Γ' := [(2, _), (5, _), (7, _), (8, _), (45, _)]) (.same rfl (.same rfl (.same rfl (.same rfl (.same rfl .nil))))) ?_
          have hii : i < n := hin.1.1 hb2
          have hget := winAt_get (k := k) (s := s) (l := l) (g := g) (t := t) hb0 (i := i) (by rw [← hn]; exact hii)
          exact Fin.again ((i + 1, v58)) (by dsimp only; omega) (by dsimp only; omega) (.cons rfl (fun F w h => by rw [take_snoc hget]; simpa [winAt, ← hst, ← hA] using h) .nil) (.same rfl (.same rfl (.eq rfl (by rfl) (.eq rfl (by congr 1; push_cast; simp only [Int.mul_add, Int.mul_one] at hA ⊢; omega) .nil))))
        · try simp only [decide_eq_true_eq, decide_eq_false_iff_not, beq_iff_eq, beq_eq_false_iff_ne, bne_iff_ne, bne_eq_false_iff_eq, Bool.and_eq_true, Bool.and_eq_false_iff, Bool.or_eq_true, Bool.or_eq_false_iff, Bool.not_eq_true', Bool.not_eq_false', gt_iff_lt, ge_iff_le, Int.not_lt, Int.not_le, ne_eq, Int.natCast_nonneg, true_and, and_true, Decidable.not_not, not_true_eq_false, not_false_eq_true] at hb2
          refine Tr.exit ?_
          refine Fin.thenExit ?_
          refine Fin.thenExit ?_
          refine Fin.blockOut ?_
          refine Fin.next ?_
          refine Tr.seq ?_
          refine Tr.region ?_
          refine TrL.stepS 59 (.plain rfl (.move rfl (.of rfl))) rfl rfl ?_
          refine TrL.stepS 4 (.plain rfl (.assign rfl (.of rfl))) rfl rfl ?_
          refine TrL.nil ?_
          refine Fin.keepG (Γ' := [(2, _), (4, _), (5, _), (7, _), (8, _), (45, _)]) (.same rfl (.same rfl (.same rfl (.same rfl (.same rfl (.same rfl .nil)))))) ?_
          refine Fin.next ?_
          refine Tr.ret ?_
          have hin : i = n := by omega
          refine Fin.freeze 30 4 rfl rfl rfl ?_
          refine Fin.retI (rs := [_]) (Rs' := [Lst spanR (ofW k s l g t)]) rfl (.cons (.tmp rfl) .nil) ?_
          exact (.cons ((fun v w h => by rw [e]; rw [List.take_of_length_le (by rw [winAt_len k s l g t hb0, ← hn]; omega)] at h; exact h)) .nil)

end Go.Proofs.Ytemkogoclljhpaa