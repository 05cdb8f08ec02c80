import Derived.Test.YtemkogoclljhpaaX1
namespace Go.Proofs.Ytemkogoclljhpaa
open Go Go.Proofs.Ytemkogoclljhpaa.L
set_option linter.unusedVariables false
set_option linter.unusedSimpArgs false

namespace T
theorem bd27_0_1 (c0 : Int) (c1 : Int) : Try.prog.built 27 [(0, .int .i64 c0), (1, .int .i64 c1)] = some #[.int .i64 c0, .int .i64 c1] := by kernel_rfl
end T


/-- spans -/
def spanP : PRep (Int × Int) := ⟨2, fun x => [.int .i64 x.1, .int .i64 x.2], fun _ => rfl, fun _ => rfl, by decide, (0, 0)⟩
def spanR : Rep (Int × Int) := spanP.rep
theorem spanR_elem (a b : Int) : ∀ v w, is (.agg #[.int .i64 a, .int .i64 b]) v w → ElemV spanR (a, b) v w := by
  rintro v w rfl
  exact .cons rfl (.cons rfl .nil)

/-- the windows of a time -/
def stepW (k s l : Int) : Int := if k = 2 then l else s
def winAt (s st t : Int) (i : Nat) : Int × Int := (t - t % st - s + st * (i + 1), t - t % st - s + st * (i + 1) + s)
def winsOf (k s l g t : Int) : List (Int × Int) := if k = 3 then [(t, t + g)] else (List.range (s / stepW k s l).toNat).map (winAt s (stepW k s l) t)
def isW (k s l g a b : Int) : Bool := rightW k s l g && (if k = 3 then decide ((-1099511627776 ≤ a ∧ a ≤ 1099511627776) ∧ a + g ≤ b ∧ b ≤ 1099511627776 + g) else decide (b = a + s ∧ a.tmod (stepW k s l) = 0 ∧ -1099511627776 < b ∧ a ≤ 1099511627776))
/-- all together -/
def tog : List (Int × Int) → (Int × Int)
  | [] => (0, 0)
  | x :: xs => xs.foldl (fun a y => (min a.1 y.1, max a.2 y.2)) x
theorem tog_snoc (xs : List (Int × Int)) (hx : xs ≠ []) (y : Int × Int) : tog (xs ++ [y]) = (min (tog xs).1 y.1, max (tog xs).2 y.2) := by
  cases xs with
  | nil => exact absurd rfl hx
  | cons x xs => simp [tog]
theorem take_snoc {α : Type} {xs : List α} {k : Nat} {x : α} (h : xs[k]? = some x) : xs.take (k + 1) = xs.take k ++ [x] := by
  have hk : k < xs.length := by
    rcases Nat.lt_or_ge k xs.length with h' | h'
    · exact h'
    · rw [List.getElem?_eq_none h'] at h; cases h
  rw [List.take_succ_eq_append_getElem hk]
  rw [List.getElem?_eq_getElem hk] at h
  simp only [Option.some.injEq] at h
  rw [h]

theorem rightW_iff {k s l g : Int} : rightW k s l g = true ↔ (k = 1 ∧ (1 ≤ s ∧ s ≤ 1048576) ∧ l = 0 ∧ g = 0) ∨ (k = 2 ∧ (1 ≤ s ∧ s ≤ 1048576) ∧ (1 ≤ l ∧ l ≤ 1048576) ∧ g = 0 ∧ s.tmod l = 0 ∧ s.tdiv l ≤ 16) ∨ (k = 3 ∧ (1 ≤ g ∧ g ≤ 1048576) ∧ s = 0 ∧ l = 0) := by
  simp [rightW]

theorem winAt_len (k s l g t : Int) (hk : k ≠ 3) : (winsOf k s l g t).length = (s / stepW k s l).toNat := by simp [winsOf, hk]
theorem winAt_get {k s l g t : Int} (hk : k ≠ 3) {i : Nat} (hi : i < (s / stepW k s l).toNat) : (winsOf k s l g t)[i]? = some (winAt s (stepW k s l) t i) := by
  simp [winsOf, hk, hi]
/-- what a right window of the first two kinds is good for -/
theorem right_step {k s l g : Int} (hr : rightW k s l g = true) (hk : k ≠ 3) : 1 ≤ stepW k s l ∧ stepW k s l ≤ 1048576 ∧ 1 ≤ s ∧ s ≤ 1048576 ∧ s = (((s / stepW k s l).toNat : Nat) : Int) * stepW k s l := by
  have hw := rightW_iff.1 hr
  have key : 1 ≤ stepW k s l ∧ stepW k s l ≤ 1048576 ∧ 1 ≤ s ∧ s ≤ 1048576 ∧ s % stepW k s l = 0 := by
    unfold stepW
    rcases hw with h | h | h
    · rw [if_neg (by omega)]; refine ⟨by omega, by omega, by omega, by omega, Int.emod_self⟩
    · rw [if_pos h.1]
      have h2 := h.2.2.2.2.1
      refine ⟨by omega, by omega, by omega, by omega, ?_⟩
      have := tmod_pos s l (by omega) (by omega)
      omega
    · omega
  refine ⟨key.1, key.2.1, key.2.2.1, key.2.2.2.1, ?_⟩
  have h0 : 0 ≤ s / stepW k s l := Int.ediv_nonneg (by omega) (by omega)
  have h1 := Int.mul_ediv_add_emod s (stepW k s l)
  rw [Int.toNat_of_nonneg h0, Int.mul_comm]
  omega

/- tidepool/tidepooltop.sized34$1 -/
set_option maxRecDepth 100000 in
theorem F37 (n : Int) : FnP Try.prog 37 [is (.int .i64 n)] (is (.bool (decide (1 ≤ n ∧ n ≤ 1048576)))) := by
  refine FnP.mk' Try.func37 T.nm37 rfl (N := 9) rfl rfl fun B hB hκ => ?_
  refine Tr.seq ?_
  refine Tr.region ?_
  refine TrL.stepS 2 (.plain rfl (.assign rfl (.of rfl))) rfl rfl ?_
  refine TrL.nil ?_
  refine Fin.next ?_
  refine Tr.seq ?_
  refine Tr.region ?_
  refine TrL.stepS 3 (.plain rfl (.move rfl (.of rfl))) rfl rfl ?_
  refine TrL.stepS 4 (.plain rfl (.geq rfl (.of rfl) (.of rfl))) rfl rfl ?_
  refine TrL.stepS 5 (.plain rfl (.move rfl (.of rfl))) rfl rfl ?_
  refine TrL.stepS 6 (.guarded rfl rfl rfl fun hg => .move rfl (.of rfl)) rfl rfl ?_
  refine TrL.stepS 7 (.guarded rfl rfl rfl fun hg => .leq rfl (.cond rfl hg) (.of rfl)) rfl rfl ?_
  refine TrL.stepS 8 (.plain rfl (.and rfl (.of rfl) (.cond rfl fun h => h))) rfl rfl ?_
  refine TrL.stepS 2 (.plain rfl (.assign rfl (.of rfl))) rfl rfl ?_
  refine TrL.nil ?_
  refine Fin.keepG (Γ' := [(0, _), (2, _)]) (.same rfl (.same rfl .nil)) ?_
  refine Fin.next ?_
  refine Tr.ret ?_
  refine Fin.retI (rs := [_]) (Rs' := [is (.bool (decide (1 ≤ n ∧ n ≤ 1048576)))]) rfl (.cons (.tmp rfl) .nil) ?_
  refine (.cons (L.iv ?_) .nil)
  · congr 1; rw [Bool.eq_iff_iff]; simp

/- tidepool/window.Together -/
set_option maxRecDepth 100000 in
theorem F10 (xs : List (Int × Int)) (hl : xs.length ≤ 1000) : FnP Try.prog 10 [Lst spanR xs] (is (.agg #[.int .i64 (tog xs).1, .int .i64 (tog xs).2])) := by
  refine FnP.mk' Try.func10 T.nm10 rfl (N := 28) rfl rfl fun B hB hκ => ?_
  refine Tr.seq ?_
  refine Tr.region ?_
  refine TrL.allocS 10 (zs := [.int .i64 0, .int .i64 0]) rfl rfl (by kernel_rfl) 2 rfl rfl rfl fun b10 => ?_
  refine TrL.nil ?_
  refine Fin.next ?_
  refine Tr.seq ?_
  refine Tr.seq ?_
  refine Tr.region ?_
  refine TrL.stepS 5 (.plain rfl (.move rfl (.of rfl))) rfl rfl ?_
  refine TrL.stepS 6 (.plain rfl (.len rfl (.of rfl) Try.underlying60)) rfl rfl ?_
  refine TrL.stepS 7 (.plain rfl (.move rfl (.of rfl))) rfl rfl ?_
  refine TrL.nil ?_
  refine Fin.next ?_
  refine Tr.block ?_
  refine Tr.loop (γ := Nat) (fun k => k ≤ xs.length) (fun k => [(10, Blk b10 [.int .i64 (tog (xs.take k)).1, .int .i64 (tog (xs.take k)).2] 27)]) (fun k => [(2, is (.pointer (some ⟨b10, 0, none⟩))), (5, Lst spanR xs), (6, is (.int .i64 xs.length)), (7, is (.int .i64 k))]) (fun k => xs.length - k) (0) ?h0_0 ?hM_0 ?hG_0 ?hl_0
  case h0_0 => exact (by omega)
  case hM_0 => exact (.same rfl .nil)
  case hG_0 => exact (.same rfl (.same rfl (.same rfl (.eq rfl (by rfl) .nil))))
  case hl_0 =>
    intro k hI
    refine Tr.seq ?_
    refine Tr.region ?_
    refine TrL.stepS 8 (.plain rfl (.lss rfl (.of rfl) (.of rfl))) rfl rfl ?_
    refine TrL.nil ?_
    refine Fin.next ?_
    refine Tr.seq ?_
    refine Tr.cond rfl (fun hb0 => ?_) (fun hb0 => ?_)
    · try simp only [decide_eq_true_eq, decide_eq_false_iff_not, beq_iff_eq, beq_eq_false_iff_ne, bne_iff_ne, bne_eq_false_iff_eq, Bool.and_eq_true, Bool.and_eq_false_iff, Bool.or_eq_true, Bool.or_eq_false_iff, Bool.not_eq_true', Bool.not_eq_false', gt_iff_lt, ge_iff_le, Int.not_lt, Int.not_le, ne_eq, Int.natCast_nonneg, true_and, and_true, Decidable.not_not, not_true_eq_false, not_false_eq_true] at hb0
      obtain ⟨x, hx⟩ : ∃ x, xs[k]? = some x := ⟨_, List.getElem?_eq_getElem (by omega)⟩
      refine Tr.skip ?_
      refine Fin.next ?_
      refine Tr.seq ?_
      refine Tr.block ?_
      refine Tr.seq ?_
      refine Tr.region ?_
      refine TrL.stepS 9 (.plain rfl (.move rfl (.of rfl))) rfl rfl ?_
      refine TrL.stepS 10 (.plain rfl (.indexE rfl (.of rfl) (.of rfl) Try.underlying60 T.sz27 (by omega) hx)) rfl rfl ?_
      refine TrL.stepS 11 (.plain rfl (.load2 rfl (.of rfl) T.ag27)) rfl rfl ?_
      refine TrL.allocS 11 (zs := [.int .i64 0, .int .i64 0]) rfl rfl (by kernel_rfl) 4 rfl rfl rfl fun b11 => ?_
      refine TrL.stepS 3 (.plain rfl (.assign rfl (.of rfl))) rfl rfl ?_
      refine TrL.storeW 11 (vs := [_, _]) rfl rfl rfl (.of rfl) (.of rfl) rfl rfl T.sz27 rfl rfl ?_
      refine TrL.nil ?_
      refine Fin.keepG (Γ' := [(2, _), (3, _), (4, _), (5, _), (6, _), (7, _), (8, _)]) (.same rfl (.same rfl (.same rfl (.same rfl (.same rfl (.same rfl (.same rfl .nil))))))) ?_
      refine Fin.next ?_
      refine Tr.seq ?_
      refine Tr.seq ?_
      refine Tr.region ?_
      refine TrL.stepS 12 (.plain rfl (.move rfl (.of rfl))) rfl rfl ?_
      refine TrL.stepS 13 (.plain rfl (.eql rfl (.of rfl) (.of rfl))) rfl rfl ?_
      refine TrL.nil ?_
      refine Fin.keepG (Γ' := [(2, _), (3, _), (4, _), (5, _), (6, _), (7, _), (8, _), (13, _)]) (.same rfl (.same rfl (.same rfl (.same rfl (.same rfl (.same rfl (.same rfl (.same rfl .nil)))))))) ?_
      refine Fin.next ?_
      refine Tr.cond rfl (fun hb1 => ?_) (fun hb1 => ?_)
      · try simp only [decide_eq_true_eq, decide_eq_false_iff_not, beq_iff_eq, beq_eq_false_iff_ne, bne_iff_ne, bne_eq_false_iff_eq, Bool.and_eq_true, Bool.and_eq_false_iff, Bool.or_eq_true, Bool.or_eq_false_iff, Bool.not_eq_true', Bool.not_eq_false', gt_iff_lt, ge_iff_le, Int.not_lt, Int.not_le, ne_eq, Int.natCast_nonneg, true_and, and_true, Decidable.not_not, not_true_eq_false, not_false_eq_true] at hb1
        refine Tr.region ?_
        refine TrL.stepS 14 (.plain rfl (.loadBN 11 (k := 2) (ds := [_, _]) rfl (.of rfl) rfl rfl rfl T.ag27 rfl)) rfl rfl ?_
        refine TrL.storeW 10 (vs := [_, _]) rfl rfl rfl (.of rfl) (.of rfl) rfl rfl T.sz27 rfl rfl ?_
        refine TrL.nil ?_
        refine Fin.keepG (Γ' := [(2, _), (3, _), (4, _), (5, _), (6, _), (7, _), (8, _), (13, _)]) (.same rfl (.same rfl (.same rfl (.same rfl (.same rfl (.same rfl (.same rfl (.same rfl .nil)))))))) ?_
        refine Fin.next ?_
        refine Tr.region ?_
        refine TrL.stepS 15 (.plain rfl (.fieldP rfl (.of rfl) T.fl27_0)) rfl rfl ?_
        refine TrL.stepS 16 (.plain rfl (.loadB 10 rfl (.of rfl) rfl rfl rfl T.sc2)) rfl rfl ?_
        refine TrL.stepS 17 (.plain rfl (.fieldP rfl (.of rfl) T.fl27_0)) rfl rfl ?_
        refine TrL.stepS 18 (.plain rfl (.loadB 11 rfl (.of rfl) rfl rfl rfl T.sc2)) rfl rfl ?_
        refine TrL.stepS 19 (.plain rfl (.min2 rfl (.of rfl) (.of rfl))) rfl rfl ?_
        refine TrL.stepS 20 (.plain rfl (.fieldP rfl (.of rfl) T.fl27_1)) rfl rfl ?_
        refine TrL.stepS 21 (.plain rfl (.loadB 10 rfl (.of rfl) rfl rfl rfl T.sc2)) rfl rfl ?_
        refine TrL.stepS 22 (.plain rfl (.fieldP rfl (.of rfl) T.fl27_1)) rfl rfl ?_
        refine TrL.stepS 23 (.plain rfl (.loadB 11 rfl (.of rfl) rfl rfl rfl T.sc2)) rfl rfl ?_
        refine TrL.stepS 24 (.plain rfl (.max2 rfl (.of rfl) (.of rfl))) rfl rfl ?_
        refine TrL.stepS 25 (.plain rfl (.build rfl (.cons (.of rfl) (.cons (.of rfl) .nil)) (T.bd27_0_1 _ _))) rfl rfl ?_
        refine TrL.storeW 10 (vs := [_, _]) rfl rfl rfl (.of rfl) (.of rfl) rfl rfl T.sz27 rfl rfl ?_
        refine TrL.nil ?_
        refine Fin.keepG (Γ' := [(2, _), (3, _), (4, _), (5, _), (6, _), (7, _), (8, _), (13, _)]) (.same rfl (.same rfl (.same rfl (.same rfl (.same rfl (.same rfl (.same rfl (.same rfl .nil)))))))) ?_
        refine Fin.blockNormal ?_
        refine Fin.next ?_
        refine Tr.region ?_
        first | refine TrL.stepS 26 (.plain rfl (.addI L.bd_i64 rfl (.of rfl) (.of rfl) (by omega) (by omega))) rfl rfl ?_ | refine TrL.stepS 26 (.plain rfl (.add rfl (.of rfl) (.of rfl))) rfl rfl ?_
        refine TrL.stepS 7 (.plain rfl (.move rfl (.of rfl))) rfl rfl ?_
        refine TrL.nil ?_
        refine Fin.keepG (Γ' := [(2, _), (3, _), (4, _), (5, _), (6, _), (7, _), (8, _), (13, _)]) (.same rfl (.same rfl (.same rfl (.same rfl (.same rfl (.same rfl (.same rfl (.same rfl .nil)))))))) ?_
        exact Fin.again (k + 1) (by omega) (by omega) (.cons rfl (fun F w h => by (have hk0 : k = 0 := by omega); subst hk0; rw [take_snoc hx]; simpa [tog] using h) .nil) (.same rfl (.same rfl (.same rfl (.eq rfl (by push_cast; rfl) .nil))))
      · try simp only [decide_eq_true_eq, decide_eq_false_iff_not, beq_iff_eq, beq_eq_false_iff_ne, bne_iff_ne, bne_eq_false_iff_eq, Bool.and_eq_true, Bool.and_eq_false_iff, Bool.or_eq_true, Bool.or_eq_false_iff, Bool.not_eq_true', Bool.not_eq_false', gt_iff_lt, ge_iff_le, Int.not_lt, Int.not_le, ne_eq, Int.natCast_nonneg, true_and, and_true, Decidable.not_not, not_true_eq_false, not_false_eq_true] at hb1
        refine Tr.skip ?_
        refine Fin.next ?_
        refine Tr.region ?_
        refine TrL.stepS 15 (.plain rfl (.fieldP rfl (.of rfl) T.fl27_0)) rfl rfl ?_
        refine TrL.stepS 16 (.plain rfl (.loadB 10 rfl (.of rfl) rfl rfl rfl T.sc2)) rfl rfl ?_
        refine TrL.stepS 17 (.plain rfl (.fieldP rfl (.of rfl) T.fl27_0)) rfl rfl ?_
        refine TrL.stepS 18 (.plain rfl (.loadB 11 rfl (.of rfl) rfl rfl rfl T.sc2)) rfl rfl ?_
        refine TrL.stepS 19 (.plain rfl (.min2 rfl (.of rfl) (.of rfl))) rfl rfl ?_
        refine TrL.stepS 20 (.plain rfl (.fieldP rfl (.of rfl) T.fl27_1)) rfl rfl ?_
        refine TrL.stepS 21 (.plain rfl (.loadB 10 rfl (.of rfl) rfl rfl rfl T.sc2)) rfl rfl ?_
        refine TrL.stepS 22 (.plain rfl (.fieldP rfl (.of rfl) T.fl27_1)) rfl rfl ?_
        refine TrL.stepS 23 (.plain rfl (.loadB 11 rfl (.of rfl) rfl rfl rfl T.sc2)) rfl rfl ?_
        refine TrL.stepS 24 (.plain rfl (.max2 rfl (.of rfl) (.of rfl))) rfl rfl ?_
        refine TrL.stepS 25 (.plain rfl (.build rfl (.cons (.of rfl) (.cons (.of rfl) .nil)) (T.bd27_0_1 _ _))) rfl rfl ?_
        refine TrL.storeW 10 (vs := [_, _]) rfl rfl rfl (.of rfl) (.of rfl) rfl rfl T.sz27 rfl rfl ?_
        refine TrL.nil ?_
        refine Fin.keepG (Γ' := [(2, _), (3, _), (4, _), (5, _), (6, _), (7, _), (8, _), (13, _)]) (.same rfl (.same rfl (.same rfl (.same rfl (.same rfl (.same rfl (.same rfl (.same rfl .nil)))))))) ?_
        refine Fin.blockNormal ?_
        refine Fin.next ?_
        refine Tr.region ?_
        first | refine TrL.stepS 26 (.plain rfl (.addI L.bd_i64 rfl (.of rfl) (.of rfl) (by omega) (by omega))) rfl rfl ?_ | refine TrL.stepS 26 (.plain rfl (.add rfl (.of rfl) (.of rfl))) rfl rfl ?_
        refine TrL.stepS 7 (.plain rfl (.move rfl (.of rfl))) rfl rfl ?_
        refine TrL.nil ?_
        refine Fin.keepG (Γ' := [(2, _), (3, _), (4, _), (5, _), (6, _), (7, _), (8, _), (13, _)]) (.same rfl (.same rfl (.same rfl (.same rfl (.same rfl (.same rfl (.same rfl (.same rfl .nil)))))))) ?_
        exact Fin.again (k + 1) (by omega) (by omega) (.cons rfl (fun F w h => by rw [take_snoc hx, tog_snoc _ (by intro e; simp at e; rcases e with e | e; exact hb1 (by omega); subst e; simp at hx)]; exact h) .nil) (.same rfl (.same rfl (.same rfl (.eq rfl (by push_cast; rfl) .nil))))
    · try simp only [decide_eq_true_eq, decide_eq_false_iff_not, beq_iff_eq, beq_eq_false_iff_ne, bne_iff_ne, bne_eq_false_iff_eq, Bool.and_eq_true, Bool.and_eq_false_iff, Bool.or_eq_true, Bool.or_eq_false_iff, Bool.not_eq_true', Bool.not_eq_false', gt_iff_lt, ge_iff_le, Int.not_lt, Int.not_le, ne_eq, Int.natCast_nonneg, true_and, and_true, Decidable.not_not, not_true_eq_false, not_false_eq_true] at hb0
      refine Tr.exit ?_
      refine Fin.thenExit ?_
      refine Fin.thenExit ?_
      refine Fin.blockOut ?_
      refine Fin.next ?_
      refine Tr.seq ?_
      refine Tr.region ?_
      refine TrL.stepS 27 (.plain rfl (.loadBN 10 (k := 2) (ds := [_, _]) rfl (.of rfl) rfl rfl rfl T.ag27 rfl)) rfl rfl ?_
      refine TrL.storeW 10 (vs := [_, _]) rfl rfl rfl (.of rfl) (.of rfl) rfl rfl T.sz27 rfl rfl ?_
      refine TrL.nil ?_
      refine Fin.keepG (Γ' := [(2, _), (5, _), (6, _), (7, _), (8, _)]) (.same rfl (.same rfl (.same rfl (.same rfl (.same rfl .nil))))) ?_
      refine Fin.next ?_
      refine Tr.ret ?_
      refine Fin.retI (rs := [_]) (Rs' := [is (.agg #[.int .i64 (tog xs).1, .int .i64 (tog xs).2])]) rfl (.cons (.cellB 10 (k := 2) (ds := [_, _]) rfl rfl rfl rfl T.ag27 rfl) .nil) ?_
      refine (.cons (L.iv ?_) .nil)
      · rw [List.take_of_length_le (by omega)]

/- (tidepool/window.Window).Is -/
set_option maxRecDepth 100000 in
theorem F39 (k s l g a b : Int) (hs : -2199023255552 ≤ a ∧ a ≤ 2199023255552) (he : -4398046511104 ≤ b ∧ b ≤ 4398046511104) : FnP Try.prog 39 [is (.agg #[.int .u8 k, .int .i64 s, .int .i64 l, .int .i64 g]), is (.agg #[.int .i64 a, .int .i64 b])] (is (.bool (isW k s l g a b))) := by
  refine FnP.mk' Try.func39 T.nm39 rfl (N := 78) rfl rfl fun B hB hκ => ?_
  refine Tr.seq ?_
  refine Tr.region ?_
  refine TrL.stepS 2 (.plain rfl (.boxR rfl (.of rfl))) rfl rfl ?_
  refine TrL.stepS 3 (.plain rfl (.boxR rfl (.of rfl))) rfl rfl ?_
  refine TrL.stepS 4 (.plain rfl (.assign rfl (.of rfl))) rfl rfl ?_
  refine TrL.nil ?_
  refine Fin.next ?_
  refine Tr.seq ?_
  refine Tr.seq ?_
  refine Tr.region ?_
  refine TrL.stepS 5 (.plain rfl (.load4 rfl (.of rfl) T.ag30)) rfl rfl ?_
  refine TrL.stepS 6 (.plain rfl (.call rfl (F38 ..) (.cons (.of rfl) .nil))) rfl rfl ?_
  refine TrL.stepS 7 (.plain rfl (.not rfl (.of rfl))) rfl rfl ?_
  refine TrL.stepS 8 (.plain rfl (.move rfl (.of rfl))) rfl rfl ?_
  refine TrL.stepS 9 (.guarded rfl rfl rfl fun hg => .fieldC rfl (.of rfl) T.fl27_0) rfl rfl ?_
  refine TrL.stepS 10 (.guarded rfl rfl rfl fun hg => .load1 rfl (.cond rfl hg) T.sc2) rfl rfl ?_
  refine TrL.stepS 11 (.guarded rfl rfl rfl fun hg => .lss rfl (.cond rfl hg) (.of rfl)) rfl rfl ?_
  refine TrL.stepS 12 (.plain rfl (.or rfl (.of rfl) (.cond rfl fun h => h))) rfl rfl ?_
  refine TrL.stepS 13 (.plain rfl (.move rfl (.of rfl))) rfl rfl ?_
  refine TrL.stepS 14 (.guarded rfl rfl rfl fun hg => .fieldC rfl (.of rfl) T.fl27_0) rfl rfl ?_
  refine TrL.stepS 15 (.guarded rfl rfl rfl fun hg => .load1 rfl (.cond rfl hg) T.sc2) rfl rfl ?_
  refine TrL.stepS 16 (.guarded rfl rfl rfl fun hg => .gtr rfl (.cond rfl hg) (.of rfl)) rfl rfl ?_
  refine TrL.stepS 17 (.plain rfl (.or rfl (.of rfl) (.cond rfl fun h => h))) rfl rfl ?_
  refine TrL.stepS 18 (.plain rfl (.move rfl (.of rfl))) rfl rfl ?_
  refine TrL.stepS 19 (.guarded rfl rfl rfl fun hg => .fieldC rfl (.of rfl) T.fl27_1) rfl rfl ?_
  refine TrL.stepS 20 (.guarded rfl rfl rfl fun hg => .load1 rfl (.cond rfl hg) T.sc2) rfl rfl ?_
  refine TrL.stepS 21 (.guarded rfl rfl rfl fun hg => .lss rfl (.cond rfl hg) (.of rfl)) rfl rfl ?_
  refine TrL.stepS 22 (.plain rfl (.or rfl (.of rfl) (.cond rfl fun h => h))) rfl rfl ?_
  refine TrL.stepS 23 (.plain rfl (.move rfl (.of rfl))) rfl rfl ?_
  refine TrL.stepS 24 (.guarded rfl rfl rfl fun hg => .fieldC rfl (.of rfl) T.fl27_1) rfl rfl ?_
  refine TrL.stepS 25 (.guarded rfl rfl rfl fun hg => .load1 rfl (.cond rfl hg) T.sc2) rfl rfl ?_
  refine TrL.stepS 26 (.guarded rfl rfl rfl fun hg => .gtr rfl (.cond rfl hg) (.of rfl)) rfl rfl ?_
  refine TrL.stepS 27 (.plain rfl (.or rfl (.of rfl) (.cond rfl fun h => h))) rfl rfl ?_
  refine TrL.nil ?_
  refine Fin.keepG (Γ' := [(0, _), (1, _), (2, _), (3, _), (4, _), (27, _)]) (.same rfl (.same rfl (.same rfl (.same rfl (.same rfl (.same rfl .nil)))))) ?_
  refine Fin.next ?_
  refine Tr.cond rfl (fun hb0 => ?_) (fun hb0 => ?_)
  · try simp only [decide_eq_true_eq, decide_eq_false_iff_not, beq_iff_eq, beq_eq_false_iff_ne, bne_iff_ne, bne_eq_false_iff_eq, Bool.and_eq_true, Bool.and_eq_false_iff, Bool.or_eq_true, Bool.or_eq_false_iff, Bool.not_eq_true', Bool.not_eq_false', gt_iff_lt, ge_iff_le, Int.not_lt, Int.not_le, ne_eq, Int.natCast_nonneg, true_and, and_true, Decidable.not_not, not_true_eq_false, not_false_eq_true] at hb0
    have hr : rightW k s l g = false := by
      cases h : rightW k s l g with
      | false => rfl
      | true => (simp [h] at hb0; omega)
    refine Tr.seq ?_
    refine Tr.region ?_
    refine TrL.stepS 4 (.plain rfl (.assign rfl (.of rfl))) rfl rfl ?_
    refine TrL.nil ?_
    refine Fin.next ?_
    refine Tr.ret ?_
    refine Fin.thenRet ?_
    refine Fin.retI (rs := [_]) (Rs' := [is (.bool (isW k s l g a b))]) rfl (.cons (.tmp rfl) .nil) ?_
    refine (.cons (L.iv ?_) .nil)
    · simp [isW, hr]
  · try simp only [decide_eq_true_eq, decide_eq_false_iff_not, beq_iff_eq, beq_eq_false_iff_ne, bne_iff_ne, bne_eq_false_iff_eq, Bool.and_eq_true, Bool.and_eq_false_iff, Bool.or_eq_true, Bool.or_eq_false_iff, Bool.not_eq_true', Bool.not_eq_false', gt_iff_lt, ge_iff_le, Int.not_lt, Int.not_le, ne_eq, Int.natCast_nonneg, true_and, and_true, Decidable.not_not, not_true_eq_false, not_false_eq_true] at hb0
    have hr : rightW k s l g = true := hb0.1.1.1.1
    have hw := rightW_iff.1 hr
    clear hb0
    refine Tr.skip ?_
    refine Fin.next ?_
    refine Tr.seq ?_
    refine Tr.seq ?_
    refine Tr.region ?_
    refine TrL.stepS 28 (.plain rfl (.fieldC rfl (.of rfl) T.fl30_0)) rfl rfl ?_
    refine TrL.stepS 29 (.plain rfl (.load1 rfl (.of rfl) T.sc5)) rfl rfl ?_
    refine TrL.stepS 30 (.plain rfl (.eql rfl (.of rfl) (.of rfl))) rfl rfl ?_
    refine TrL.nil ?_
    refine Fin.keepG (Γ' := [(0, _), (1, _), (2, _), (3, _), (4, _), (27, _), (30, _)]) (.same rfl (.same rfl (.same rfl (.same rfl (.same rfl (.same rfl (.same rfl .nil))))))) ?_
    refine Fin.next ?_
    refine Tr.cond rfl (fun hb1 => ?_) (fun hb1 => ?_)
    · try simp only [decide_eq_true_eq, decide_eq_false_iff_not, beq_iff_eq, beq_eq_false_iff_ne, bne_iff_ne, bne_eq_false_iff_eq, Bool.and_eq_true, Bool.and_eq_false_iff, Bool.or_eq_true, Bool.or_eq_false_iff, Bool.not_eq_true', Bool.not_eq_false', gt_iff_lt, ge_iff_le, Int.not_lt, Int.not_le, ne_eq, Int.natCast_nonneg, true_and, and_true, Decidable.not_not, not_true_eq_false, not_false_eq_true] at hb1
      refine Tr.seq ?_
      refine Tr.region ?_
      refine TrL.stepS 31 (.plain rfl (.fieldC rfl (.of rfl) T.fl27_0)) rfl rfl ?_
      refine TrL.stepS 32 (.plain rfl (.load1 rfl (.of rfl) T.sc2)) rfl rfl ?_
      refine TrL.stepS 33 (.plain rfl (.call rfl (F114 ..) (.cons (.of rfl) .nil))) rfl rfl ?_
      refine TrL.stepS 34 (.plain rfl (.move rfl (.of rfl))) rfl rfl ?_
      refine TrL.stepS 35 (.guarded rfl rfl rfl fun hg => .fieldC rfl (.of rfl) T.fl27_1) rfl rfl ?_
      refine TrL.stepS 36 (.guarded rfl rfl rfl fun hg => .load1 rfl (.cond rfl hg) T.sc2) rfl rfl ?_
      refine TrL.stepS 37 (.guarded rfl rfl rfl fun hg => .fieldC rfl (.of rfl) T.fl27_0) rfl rfl ?_
      refine TrL.stepS 38 (.guarded rfl rfl rfl fun hg => .load1 rfl (.cond rfl hg) T.sc2) rfl rfl ?_
      refine TrL.stepS 39 (.guarded rfl rfl rfl fun hg => .fieldC rfl (.of rfl) T.fl30_3) rfl rfl ?_
      refine TrL.stepS 40 (.guarded rfl rfl rfl fun hg => .load1 rfl (.cond rfl hg) T.sc2) rfl rfl ?_
      first | refine TrL.stepS 41 (.guarded rfl rfl rfl fun hg => .addI L.bd_i64 rfl (.cond rfl hg) (.cond rfl hg) (by first | omega | (simp at hg; omega) | (simp at hg hp; omega)) (by first | omega | (simp at hg; omega) | (simp at hg hp; omega))) rfl rfl ?_ | refine TrL.stepS 41 (.guarded rfl rfl rfl fun hg => .add rfl (.cond rfl hg) (.cond rfl hg)) rfl rfl ?_
      refine TrL.stepS 42 (.guarded rfl rfl rfl fun hg => .geq rfl (.cond rfl hg) (.cond rfl hg)) rfl rfl ?_
      refine TrL.stepS 43 (.plain rfl (.and rfl (.of rfl) (.cond rfl fun h => h))) rfl rfl ?_
      refine TrL.stepS 44 (.plain rfl (.move rfl (.of rfl))) rfl rfl ?_
      refine TrL.stepS 45 (.guarded rfl rfl rfl fun hg => .fieldC rfl (.of rfl) T.fl27_1) rfl rfl ?_
      refine TrL.stepS 46 (.guarded rfl rfl rfl fun hg => .load1 rfl (.cond rfl hg) T.sc2) rfl rfl ?_
      refine TrL.stepS 47 (.guarded rfl rfl rfl fun hg => .fieldC rfl (.of rfl) T.fl30_3) rfl rfl ?_
      refine TrL.stepS 48 (.guarded rfl rfl rfl fun hg => .load1 rfl (.cond rfl hg) T.sc2) rfl rfl ?_
      first | refine TrL.stepS 49 (.guarded rfl rfl rfl fun hg => .addI L.bd_i64 rfl (.of rfl) (.cond rfl hg) (by first | omega | (simp at hg; omega) | (simp at hg hp; omega)) (by first | omega | (simp at hg; omega) | (simp at hg hp; omega))) rfl rfl ?_ | refine TrL.stepS 49 (.guarded rfl rfl rfl fun hg => .add rfl (.of rfl) (.cond rfl hg)) rfl rfl ?_
      refine TrL.stepS 50 (.guarded rfl rfl rfl fun hg => .leq rfl (.cond rfl hg) (.cond rfl hg)) rfl rfl ?_
      refine TrL.stepS 51 (.plain rfl (.and rfl (.of rfl) (.cond rfl fun h => h))) rfl rfl ?_
      refine TrL.stepS 4 (.plain rfl (.assign rfl (.of rfl))) rfl rfl ?_
      refine TrL.nil ?_
      refine Fin.keepG (Γ' := [(0, _), (1, _), (2, _), (3, _), (4, _), (27, _), (30, _)]) (.same rfl (.same rfl (.same rfl (.same rfl (.same rfl (.same rfl (.same rfl .nil))))))) ?_
      refine Fin.next ?_
      refine Tr.ret ?_
      refine Fin.thenRet ?_
      refine Fin.retI (rs := [_]) (Rs' := [is (.bool (isW k s l g a b))]) rfl (.cons (.tmp rfl) .nil) ?_
      refine (.cons (L.iv ?_) .nil)
      · congr 1; unfold isW; rw [hr, if_pos hb1, Bool.eq_iff_iff]; simp [and_assoc]
    · try simp only [decide_eq_true_eq, decide_eq_false_iff_not, beq_iff_eq, beq_eq_false_iff_ne, bne_iff_ne, bne_eq_false_iff_eq, Bool.and_eq_true, Bool.and_eq_false_iff, Bool.or_eq_true, Bool.or_eq_false_iff, Bool.not_eq_true', Bool.not_eq_false', gt_iff_lt, ge_iff_le, Int.not_lt, Int.not_le, ne_eq, Int.natCast_nonneg, true_and, and_true, Decidable.not_not, not_true_eq_false, not_false_eq_true] at hb1
      refine Tr.skip ?_
      refine Fin.next ?_
      refine Tr.seq ?_
      refine Tr.regionK T.mixed (by kernel_rfl) (by kernel_rfl) ?_
      refine ChainK.consS 52 (.plain rfl (.fieldC rfl (.of rfl) T.fl27_1)) rfl ?_
      refine ChainK.consS 53 (.plain rfl (.load1 rfl (.of rfl) T.sc2)) rfl ?_
      refine ChainK.consS 54 (.plain rfl (.fieldC rfl (.of rfl) T.fl27_0)) rfl ?_
      refine ChainK.consS 55 (.plain rfl (.load1 rfl (.of rfl) T.sc2)) rfl ?_
      refine ChainK.consS 56 (.plain rfl (.fieldC rfl (.of rfl) T.fl30_1)) rfl ?_
      refine ChainK.consS 57 (.plain rfl (.load1 rfl (.of rfl) T.sc2)) rfl ?_
      first | refine ChainK.consS 58 (.plain rfl (.addI L.bd_i64 rfl (.of rfl) (.of rfl) (by omega) (by omega))) rfl ?_ | refine ChainK.consS 58 (.plain rfl (.add rfl (.of rfl) (.of rfl))) rfl ?_
      refine ChainK.consS 59 (.plain rfl (.eql rfl (.of rfl) (.of rfl))) rfl ?_
      refine ChainK.consS 60 (.plain rfl (.move rfl (.of rfl))) rfl ?_
      refine ChainK.consS 61 (.guarded rfl rfl rfl fun hg => .fieldC rfl (.of rfl) T.fl27_0) rfl ?_
      refine ChainK.consS 62 (.guarded rfl rfl rfl fun hg => .load1 rfl (.cond rfl hg) T.sc2) rfl ?_
      refine ChainK.consS 63 (.guarded rfl rfl rfl fun hg => .load4 rfl (.of rfl) T.ag30) rfl ?_
      refine ChainK.consS 64 (.guarded rfl rfl rfl fun hg => .call rfl (F115 ..) (.cons (.cond rfl hg) .nil)) rfl ?_
      refine ChainK.consS 65 (.guarded rfl rfl rfl fun hg => .rem rfl (.cond rfl hg) (.cond rfl hg) (by first | omega | (simp at hg; omega) | (simp at hg hp; omega))) rfl ?_
      refine ChainK.consS 66 (.guarded rfl rfl rfl fun hg => .eql rfl (.cond rfl hg) (.of rfl)) rfl ?_
      refine ChainK.consS 67 (.plain rfl (.and rfl (.of rfl) (.cond rfl fun h => h))) rfl ?_
      refine ChainK.consS 68 (.plain rfl (.move rfl (.of rfl))) rfl ?_
      refine ChainK.consS 69 (.guarded rfl rfl rfl fun hg => .fieldC rfl (.of rfl) T.fl27_1) rfl ?_
      refine ChainK.consS 70 (.guarded rfl rfl rfl fun hg => .load1 rfl (.cond rfl hg) T.sc2) rfl ?_
      refine ChainK.consS 71 (.guarded rfl rfl rfl fun hg => .gtr rfl (.cond rfl hg) (.of rfl)) rfl ?_
      refine ChainK.consS 72 (.plain rfl (.and rfl (.of rfl) (.cond rfl fun h => h))) rfl ?_
      refine ChainK.consS 73 (.plain rfl (.move rfl (.of rfl))) rfl ?_
      refine ChainK.consS 74 (.guarded rfl rfl rfl fun hg => .fieldC rfl (.of rfl) T.fl27_0) rfl ?_
      refine ChainK.consS 75 (.guarded rfl rfl rfl fun hg => .load1 rfl (.cond rfl hg) T.sc2) rfl ?_
      refine ChainK.consS 76 (.guarded rfl rfl rfl fun hg => .leq rfl (.cond rfl hg) (.of rfl)) rfl ?_
      refine ChainK.consS 77 (.plain rfl (.and rfl (.of rfl) (.cond rfl fun h => h))) rfl ?_
      refine ChainK.consS 4 (.plain rfl (.assign rfl (.of rfl))) rfl ?_
      refine ChainK.nil ?_
      refine Fin.keepG (Γ' := [(0, _), (1, _), (2, _), (3, _), (4, _), (27, _), (30, _)]) (.same rfl (.same rfl (.same rfl (.same rfl (.same rfl (.same rfl (.same rfl .nil))))))) ?_
      refine Fin.next ?_
      refine Tr.ret ?_
      refine Fin.retI (rs := [_]) (Rs' := [is (.bool (isW k s l g a b))]) rfl (.cons (.tmp rfl) .nil) ?_
      refine (.cons (L.iv ?_) .nil)
      · congr 1; unfold isW; rw [hr, if_neg hb1, Bool.eq_iff_iff]; simp [stepW, and_assoc]; exact decide_eq_true_iff.symm

end Go.Proofs.Ytemkogoclljhpaa